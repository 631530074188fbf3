/-
  Lemmas and walks, texts joined: ShelfA, MBPl, MNum, MTen, MPad, MLike, MGrp, MForm, MCut, MForm2, MText, MDiv, MDivW, MPart, MDay, MRdPl, MFld, MFld2, MParse, MDayA.
-/
import Derived.Shelf.Strconv.ErrVarAll
import Derived.ProofKit
import Derived.Lib.Hide
import Derived.Laws.RangeAny
import Derived.LoopTactic
import Derived.Deep.QuietTactic
import Derived.BigQuiet
import Derived.WalkLawsBesides
import Derived.WalkSpells
import Derived.Lib.SmallJoins
import Derived.Lib.LaidTab
import Derived.Laws.Concat
import Derived.Lib.Repeat
import Derived.Lib.ItoaLen
import Derived.Sort.Grow
import Derived.Deep.RegionHeld3
import Derived.StillTailTactics
import Derived.WalkKit
import Derived.Lib.BitFns
import Derived.Laws.Bits64b
import Derived.OneCell
import Derived.OwnWalk
import Derived.Deep.AppendLies
import Derived.Test.YtafeigpmldgifaaDoorProg
import Derived.Test.YtafeigpmldgifaaDoorKt01
import Derived.Test.YtafeigpmldgifaaDoorRows
import Derived.Test.YtafeigpmldgifaaDoorKt02
set_option linter.unusedSimpArgs false
set_option linter.unusedVariables false
/-
  The library contract of strconv.Atoi, laid at this program.
-/
namespace Go.Proofs
open Go.Shelf
def Tryd.laysAtoi_ren : Go.Shelf.Ren := ⟨fun | 172 => 28 | 244 => 46 | 245 => 47 | 247 => 63 | 279 => 64 | 280 => 65 | 281 => 66 | 282 => 67 | 287 => 77 | 316 => 78 | 171 => 36 | 205 => 79 | 321 => 87 | 322 => 88 | 243 => 51 | 246 => 71 | 283 => 82 | 284 => 83 | 285 => 84 | 286 => 85 | 129 => 90 | 317 => 89 | 318 => 91 | 319 => 92 | 320 => 93 | 337 => 94 | 338 => 95 | n => n, fun | 9 => 9 | 3 => 3 | 75 => 63 | 76 => 64 | 4 => 4 | 5 => 5 | 167 => 108 | 37 => 58 | 0 => 0 | 85 => 109 | 2 => 2 | 168 => 111 | 53 => 100 | 175 => 123 | 46 => 46 | 210 => 127 | 127 => 82 | 145 => 140 | 143 => 138 | 21 => 21 | 171 => 131 | 173 => 134 | 212 => 142 | 51 => 85 | 20 => 20 | 213 => 143 | 232 => 22 | 233 => 101 | 80 => 66 | n => n, fun | 15 => 3 | 16 => 4 | 17 => 6 | 18 => 7 | 19 => 8 | n => n⟩
theorem Tryd.laysAtoi : Go.Proofs.LaysC.n172 Tryd.prog Tryd.laysAtoi_ren := {
  mixed := by kernel_rfl
  f129 := Tryd.func90.trans (congrArg some (by kernel_rfl))
  f171 := Tryd.func36.trans (congrArg some (by kernel_rfl))
  f172 := Tryd.func28.trans (congrArg some (by kernel_rfl))
  f205 := Tryd.func79.trans (congrArg some (by kernel_rfl))
  f243 := Tryd.func51.trans (congrArg some (by kernel_rfl))
  f244 := Tryd.func46.trans (congrArg some (by kernel_rfl))
  f245 := Tryd.func47.trans (congrArg some (by kernel_rfl))
  f246 := Tryd.func71.trans (congrArg some (by kernel_rfl))
  f247 := Tryd.func63.trans (congrArg some (by kernel_rfl))
  f279 := Tryd.func64.trans (congrArg some (by kernel_rfl))
  f280 := Tryd.func65.trans (congrArg some (by kernel_rfl))
  f281 := Tryd.func66.trans (congrArg some (by kernel_rfl))
  f282 := Tryd.func67.trans (congrArg some (by kernel_rfl))
  f283 := Tryd.func82.trans (congrArg some (by kernel_rfl))
  f284 := Tryd.func83.trans (congrArg some (by kernel_rfl))
  f285 := Tryd.func84.trans (congrArg some (by kernel_rfl))
  f286 := Tryd.func85.trans (congrArg some (by kernel_rfl))
  f287 := Tryd.func77.trans (congrArg some (by kernel_rfl))
  f316 := Tryd.func78.trans (congrArg some (by kernel_rfl))
  f317 := Tryd.func89.trans (congrArg some (by kernel_rfl))
  f318 := Tryd.func91.trans (congrArg some (by kernel_rfl))
  f319 := Tryd.func92.trans (congrArg some (by kernel_rfl))
  f320 := Tryd.func93.trans (congrArg some (by kernel_rfl))
  f321 := Tryd.func87.trans (congrArg some (by kernel_rfl))
  f322 := Tryd.func88.trans (congrArg some (by kernel_rfl))
  f337 := Tryd.func94.trans (congrArg some (by kernel_rfl))
  f338 := Tryd.func95.trans (congrArg some (by kernel_rfl))
  t0 := Tryd.underlying0
  a0 := Tryd.isAgg0
  z0 := Tryd.sizeOf0
  v0 := Tryd.zeroValue0
  t2 := Tryd.underlying2
  a2 := Tryd.isAgg2
  z2 := Tryd.sizeOf2
  v2 := Tryd.zeroValue2
  t3 := Tryd.underlying3
  a3 := Tryd.isAgg3
  z3 := Tryd.sizeOf3
  v3 := Tryd.zeroValue3
  t4 := Tryd.underlying4
  a4 := Tryd.isAgg4
  z4 := Tryd.sizeOf4
  v4 := Tryd.zeroValue4
  t5 := Tryd.underlying5
  a5 := Tryd.isAgg5
  z5 := Tryd.sizeOf5
  v5 := Tryd.zeroValue5
  t9 := Tryd.underlying9
  a9 := Tryd.isAgg9
  z9 := Tryd.sizeOf9
  v9 := Tryd.zeroValue9
  t20 := Tryd.underlying20
  a20 := Tryd.isAgg20
  z20 := Tryd.sizeOf20
  v20 := Tryd.zeroValue20
  t21 := Tryd.underlying21
  a21 := Tryd.isAgg21
  z21 := Tryd.sizeOf21
  v21 := Tryd.zeroValue21
  t37 := Tryd.underlying58
  a37 := Tryd.isAgg58
  z37 := Tryd.sizeOf58
  v37 := Tryd.zeroValue58
  t46 := Tryd.underlying46
  a46 := Tryd.isAgg46
  z46 := Tryd.sizeOf46
  v46 := Tryd.zeroValue46
  t51 := Tryd.underlying85
  a51 := Tryd.isAgg85
  z51 := Tryd.sizeOf85
  v51 := Tryd.zeroValue85
  t53 := Tryd.underlying100
  a53 := Tryd.isAgg100
  z53 := Tryd.sizeOf100
  v53 := Tryd.zeroValue100
  t75 := Tryd.underlying63
  a75 := Tryd.isAgg63
  z75 := Tryd.sizeOf63
  v75 := Tryd.zeroValue63
  t76 := Tryd.underlying64
  a76 := Tryd.isAgg64
  z76 := Tryd.sizeOf64
  v76 := Tryd.zeroValue64
  t85 := Tryd.underlying109
  a85 := Tryd.isAgg109
  z85 := Tryd.sizeOf109
  v85 := Tryd.zeroValue109
  t127 := Tryd.underlying82
  a127 := Tryd.isAgg82
  z127 := Tryd.sizeOf82
  v127 := Tryd.zeroValue82
  t143 := Tryd.underlying138
  a143 := Tryd.isAgg138
  z143 := Tryd.sizeOf138
  v143 := Tryd.zeroValue138
  t145 := Tryd.underlying140
  a145 := Tryd.isAgg140
  z145 := Tryd.sizeOf140
  v145 := Tryd.zeroValue140
  t167 := Tryd.underlying108
  a167 := Tryd.isAgg108
  z167 := Tryd.sizeOf108
  v167 := Tryd.zeroValue108
  t168 := Tryd.underlying111
  a168 := Tryd.isAgg111
  z168 := Tryd.sizeOf111
  v168 := Tryd.zeroValue111
  t171 := Tryd.underlying131
  a171 := Tryd.isAgg131
  z171 := Tryd.sizeOf131
  v171 := Tryd.zeroValue131
  t173 := Tryd.underlying134
  a173 := Tryd.isAgg134
  z173 := Tryd.sizeOf134
  v173 := Tryd.zeroValue134
  t175 := Tryd.underlying123
  a175 := Tryd.isAgg123
  z175 := Tryd.sizeOf123
  v175 := Tryd.zeroValue123
  t210 := Tryd.underlying127
  a210 := Tryd.isAgg127
  z210 := Tryd.sizeOf127
  v210 := Tryd.zeroValue127
  t212 := Tryd.underlying142
  a212 := Tryd.isAgg142
  z212 := Tryd.sizeOf142
  v212 := Tryd.zeroValue142
  t213 := Tryd.underlying143
  a213 := Tryd.isAgg143
  z213 := Tryd.sizeOf143
  t232 := Tryd.underlying22
  a232 := Tryd.isAgg22
  z232 := Tryd.sizeOf22
  v232 := Tryd.zeroValue22
  t233 := Tryd.underlying101
  a233 := Tryd.isAgg101
  z233 := Tryd.sizeOf101
  v233 := Tryd.zeroValue101
  g15 := by kernel_rfl
  g16 := by kernel_rfl
  g17 := by kernel_rfl
  g18 := by kernel_rfl
  g19 := by kernel_rfl
  t80 := Tryd.underlying66
  a80 := Tryd.isAgg66
  z80 := Tryd.sizeOf66
  v80 := Tryd.zeroValue66
  i0 := by kernel_rfl
  i2 := by kernel_rfl
  i3 := by kernel_rfl
  i4 := by kernel_rfl
  i5 := by kernel_rfl
  i9 := by kernel_rfl
  i20 := by kernel_rfl
  i21 := by kernel_rfl
  i37 := by kernel_rfl
  i46 := by kernel_rfl
  i51 := by kernel_rfl
  i53 := by kernel_rfl
  i75 := by kernel_rfl
  i76 := by kernel_rfl
  i80 := by kernel_rfl
  i85 := by kernel_rfl
  i127 := by kernel_rfl
  i143 := by kernel_rfl
  i145 := by kernel_rfl
  i167 := by kernel_rfl
  i168 := by kernel_rfl
  i171 := by kernel_rfl
  i173 := by kernel_rfl
  i175 := by kernel_rfl
  i210 := by kernel_rfl
  i212 := by kernel_rfl
  i232 := by kernel_rfl
  i233 := by kernel_rfl
  m15 := by kernel_rfl
  m16 := by kernel_rfl
  m17 := by kernel_rfl
  m18 := by kernel_rfl
  m19 := by kernel_rfl
  c0 := by kernel_rfl
  c2 := by kernel_rfl
  c3 := by kernel_rfl
  c4 := by kernel_rfl
  c5 := by kernel_rfl
  c9 := by kernel_rfl
  c20 := by kernel_rfl
  c21 := by kernel_rfl
  c37 := by kernel_rfl
  c46 := by kernel_rfl
  c51 := by kernel_rfl
  c53 := by kernel_rfl
  c75 := by kernel_rfl
  c76 := by kernel_rfl
  c80 := by kernel_rfl
  c85 := by kernel_rfl
  c127 := by kernel_rfl
  c143 := by kernel_rfl
  c145 := by kernel_rfl
  c167 := by kernel_rfl
  c168 := by kernel_rfl
  c171 := by kernel_rfl
  c173 := by kernel_rfl
  c175 := by kernel_rfl
  c210 := by kernel_rfl
  c212 := by kernel_rfl
  c213 := by kernel_rfl
  c232 := by kernel_rfl
  c233 := by kernel_rfl }
end Go.Proofs
/-
  Plain laws: ToUtc and FromUtc are inverse, and later times have later dates.
-/
namespace Go.Proofs.YtafeigpmldgifaaDoor
namespace Mp

theorem dec_abs {x : Int} (h : 0 ≤ x) : 60 * (x / 60) + x % 60 = x := by omega
/-- The date of a time is a date, and its time is the time. -/
theorem to_from {t n y m z k : Int} (hd : DayOf t n y m z k) :
    fromOk y m (n - mo y m + 1) (mins (t - bgv n y m) / 60) (mins (t - bgv n y m) % 60) ((t - bgv n y m) / 1000000 - 60 * mins (t - bgv n y m)) ((t - bgv n y m) % 1000000) ∧
    timeOf y m (n - mo y m + 1) (mins (t - bgv n y m) / 60) (mins (t - bgv n y m) % 60) ((t - bgv n y m) / 1000000 - 60 * mins (t - bgv n y m)) ((t - bgv n y m) % 1000000) = t := by
  have hw : wholeP y m (n - mo y m + 1) := ⟨hd.y1, by have := hd.y2; omega, hd.ym.m1, hd.ym.m12, by have := hd.ym.lo; omega, by have := hd.ym.hi; omega⟩
  have e : dn y m (n - mo y m + 1) = n := by rw [dn_mo]; omega
  have dl := day_len (z := z) (k := k) hw (by rw [e]; exact hd.zk)
  rw [e] at dl
  obtain ⟨p0, p1⟩ := hd.pass
  have hi := hd.hi
  obtain ⟨p, hp⟩ : ∃ p, t - bgv n y m = p := ⟨_, rfl⟩
  rw [hp] at p0 p1 ⊢
  have mb : 0 ≤ mins p ∧ mins p ≤ 1439 := by unfold mins; split <;> omega
  constructor
  · refine ⟨hw, by omega, by omega, by omega, by omega, ?_, by omega, by omega, ?_⟩
    · unfold mins; split <;> omega
    · by_cases c : p / 1000000 / 60 ≤ 1439
      · left
        have em : mins p = p / 1000000 / 60 := if_pos c
        rw [em]; omega
      · right
        have em : mins p = 1439 := if_neg c
        rw [em]
        refine ⟨by omega, by omega, by omega, ?_⟩
        rcases dl with ⟨a, _⟩ | ⟨_, b⟩
        · omega
        · exact b
  · unfold timeOf
    rw [e]
    omega
/-- The time of a date has the date. -/
theorem from_to {y m d h i s u : Int} (ok : fromOk y m d h i s u) : ∃ z k, DayOf (timeOf y m d h i s u) (dn y m d) y m z k ∧
    d = dn y m d - mo y m + 1 ∧ h = mins (timeOf y m d h i s u - bgv (dn y m d) y m) / 60 ∧ i = mins (timeOf y m d h i s u - bgv (dn y m d) y m) % 60 ∧
    s = (timeOf y m d h i s u - bgv (dn y m d) y m) / 1000000 - 60 * mins (timeOf y m d h i s u - bgv (dn y m d) y m) ∧ u = (timeOf y m d h i s u - bgv (dn y m d) y m) % 1000000 := by
  obtain ⟨hw, h1, h2, h3, h4, h5, h6, h7, h8⟩ := ok
  have wr := wholeP_range hw
  obtain ⟨z, k, z1, z2, zk⟩ := ym_ex (dn y m d + 1) (by omega) (by omega)
  have dl := day_len hw zk
  have ep : timeOf y m d h i s u - bgv (dn y m d) y m = (3600 * h + 60 * i + s) * 1000000 + u := by unfold timeOf; omega
  refine ⟨z, k, ⟨wholeP_ym hw, zk, by omega, ?_, by omega, by omega, hw.1, by have := hw.2.1; omega⟩, by rw [dn_mo]; omega, ?_⟩
  · rcases h8 with c | ⟨c1, c2, c3, c4⟩
    · rcases dl with ⟨a, _⟩ | ⟨a, _⟩ <;> omega
    · rcases dl with ⟨_, b⟩ | ⟨a, _⟩
      · exact absurd c4 b
      · omega
  · rw [ep]
    rcases h8 with c | ⟨c1, c2, c3, c4⟩
    · have em : mins ((3600 * h + 60 * i + s) * 1000000 + u) = 60 * h + i := by
        unfold mins
        rw [if_pos (by omega)]
        omega
      rw [em]; omega
    · subst c1 c2 c3
      have em : mins ((3600 * 23 + 60 * 59 + 60) * 1000000 + u) = 1439 := by
        unfold mins
        rw [if_neg (by omega)]
      rw [em]; omega
theorem ToIs.back {t y m d h i s u : Int} (a : ToIs t y m d h i s u 0) : FromIs y m d h i s u t 0 := by
  rcases a with ⟨_, _, _, _, _, _, _, _, c⟩ | ⟨a1, a2, n, z, k, hd, rfl, rfl, rfl, rfl, rfl, _⟩
  · omega
  · obtain ⟨b1, b2⟩ := to_from hd
    exact Or.inl ⟨b1, b2.symm, rfl⟩
theorem FromIs.back {t y m d h i s u : Int} (a : FromIs y m d h i s u t 0) : ToIs t y m d h i s u 0 := by
  rcases a with ⟨ok, rfl, _⟩ | ⟨_, _, c⟩
  · obtain ⟨z, k, hd, e1, e2, e3, e4, e5⟩ := from_to ok
    refine Or.inr ⟨?_, ?_, dn y m d, z, k, hd, e1, e2, e3, e4, e5, rfl⟩
    · have := bgv_mono hd.ym ym_72 hd.n1; have := hd.lo; omega
    · have := bgv_mono ym_00 hd.zk (by have := hd.n2; omega); have := hd.hi; omega
  · omega
theorem ToIs.code {t y m d h i s u c : Int} (a : ToIs t y m d h i s u c) : c = 0 ∨ (c = 16 ∧ y = 0 ∧ m = 0 ∧ d = 0 ∧ h = 0 ∧ i = 0 ∧ s = 0 ∧ u = 0) := by
  rcases a with ⟨_, b1, b2, b3, b4, b5, b6, b7, c⟩ | ⟨_, _, _, _, _, _, _, _, _, _, _, c⟩
  · exact Or.inr ⟨c, b1, b2, b3, b4, b5, b6, b7⟩
  · exact Or.inl c
theorem FromIs.code {t y m d h i s u c : Int} (a : FromIs y m d h i s u t c) : c = 0 ∨ (c = 2 ∧ t = 0) := by
  rcases a with ⟨_, _, c⟩ | ⟨_, b, c⟩
  · exact Or.inl c
  · exact Or.inr ⟨c, b⟩
theorem DayOf.bd {t n y m z k : Int} (h : DayOf t n y m z k) : -1000000000000000 ≤ t ∧ t ≤ 4000000000000000 := by
  have a := bgv_bd n y m (by have := h.n1; omega) (by have := h.n2; omega)
  have b := bgv_bd (n + 1) z k (by have := h.n1; omega) (by have := h.n2; omega)
  have := h.lo
  have := h.hi
  omega
theorem FromIs.bd {t y m d h i s u c : Int} (a : FromIs y m d h i s u t c) : -1000000000000000 ≤ t ∧ t ≤ 4000000000000000 := by
  rcases a with ⟨ok, rfl, _⟩ | ⟨_, rfl, c⟩
  · obtain ⟨z, k, hd, _⟩ := from_to ok
    exact hd.bd
  · omega
theorem ToIs.bd {t y m d h i s u : Int} (a : ToIs t y m d h i s u 0) : -1000000000000000 ≤ t ∧ t ≤ 4000000000000000 := a.back.bd
/-! ### The order of dates -/
def lexB : List Int → List Int → Bool
  | a :: l, b :: r => if a = b then lexB l r else decide (a < b)
  | _, _ => false
theorem ym_lt {n y m n' y' m' : Int} (h : IsYM n y m) (g : IsYM n' y' m') (lt : n < n') : y < y' ∨ y = y' ∧ (m < m' ∨ m = m' ∧ n - mo y m + 1 < n' - mo y' m' + 1) := by
  rcases Int.lt_trichotomy y y' with c | c | c
  · exact Or.inl c
  · subst c
    rcases Int.lt_trichotomy m m' with e | e | e
    · exact Or.inr ⟨rfl, Or.inl e⟩
    · subst e
      exact Or.inr ⟨rfl, Or.inr ⟨rfl, by omega⟩⟩
    · have := mo_le y (m' + 1) m (by have := g.m1; omega) (by omega)
      have := h.lo
      have := g.hi
      omega
  · have := mo_year_le (y' + 1) y (by omega)
    have := h.ylo
    have := g.yhi
    omega
theorem lex_lt {t u y m d h i s c y' m' d' h' i' s' c' : Int} (a : ToIs t y m d h i s c 0) (b : ToIs u y' m' d' h' i' s' c' 0) (lt : t < u) :
    lexB [y, m, d, h, i, s, c] [y', m', d', h', i', s', c'] = true := by
  rcases a with ⟨_, _, _, _, _, _, _, _, k⟩ | ⟨a1, a2, n, z, k, hd, rfl, rfl, rfl, rfl, rfl, _⟩
  · omega
  rcases b with ⟨_, _, _, _, _, _, _, _, k⟩ | ⟨b1, b2, n', z', k', hd', rfl, rfl, rfl, rfl, rfl, _⟩
  · omega
  have le : n ≤ n' := hd'.le hd.ym (by have := hd.lo; omega)
  rcases Int.lt_or_eq_of_le le with c | c
  · rcases ym_lt hd.ym hd'.ym c with e | ⟨rfl, e | ⟨rfl, e⟩⟩
    · simp only [lexB]; rw [if_neg (by omega)]; exact decide_eq_true e
    · simp only [lexB, if_true]; rw [if_neg (by omega)]; exact decide_eq_true e
    · simp only [lexB, if_true]; rw [if_neg (by omega)]; exact decide_eq_true e
  · subst c
    obtain ⟨rfl, rfl⟩ := ym_uniq hd.ym hd'.ym
    obtain ⟨p0, p1⟩ := hd.pass
    obtain ⟨q0, q1⟩ := hd'.pass
    obtain ⟨p, hp⟩ : ∃ p, t - bgv n y m = p := ⟨_, rfl⟩
    obtain ⟨q, hq⟩ : ∃ q, u - bgv n y m = q := ⟨_, rfl⟩
    rw [hp] at p0 p1 ⊢
    rw [hq] at q0 q1 ⊢
    have pq : p < q := by omega
    clear hp hq hd hd' a1 a2 b1 b2 lt le
    have em : mins p = if p / 1000000 / 60 ≤ 1439 then p / 1000000 / 60 else 1439 := rfl
    have en : mins q = if q / 1000000 / 60 ≤ 1439 then q / 1000000 / 60 else 1439 := rfl
    have ml : mins p ≤ mins q := by rw [em, en]; split <;> split <;> omega
    have hm : mins p < mins q ∨ mins p = mins q := by omega
    simp only [lexB, if_true]
    rcases hm with c | c
    · by_cases e1 : mins p / 60 = mins q / 60
      · rw [if_pos e1, if_neg (by omega)]; exact decide_eq_true (by omega)
      · rw [if_neg e1]; exact decide_eq_true (by omega)
    · rw [c, if_pos rfl, if_pos rfl]
      by_cases e1 : p / 1000000 - 60 * mins q = q / 1000000 - 60 * mins q
      · rw [if_pos e1, if_neg (by omega)]; exact decide_eq_true (by omega)
      · rw [if_neg e1]; exact decide_eq_true (by omega)
theorem lexB_irr : ∀ l : List Int, lexB l l = false
  | [] => rfl
  | a :: l => by simp only [lexB, if_true]; exact lexB_irr l
theorem lexB_asymm : ∀ l r : List Int, lexB l r = true → lexB r l = false
  | [], _, h => by simp [lexB] at h
  | _ :: _, [], h => by simp [lexB] at h
  | a :: l, b :: r, h => by
    simp only [lexB] at *
    by_cases e : a = b
    · subst e
      rw [if_pos rfl] at h ⊢
      exact lexB_asymm l r h
    · rw [if_neg e] at h
      rw [if_neg (fun x => e x.symm)]
      have := of_decide_eq_true h
      exact decide_eq_false (by omega)
theorem lex_is {t u y m d h i s c y' m' d' h' i' s' c' : Int} (a : ToIs t y m d h i s c 0) (b : ToIs u y' m' d' h' i' s' c' 0) :
    lexB [y, m, d, h, i, s, c] [y', m', d', h', i', s', c'] = decide (t < u) := by
  rcases Int.lt_trichotomy t u with e | e | e
  · rw [lex_lt a b e, decide_eq_true e]
  · subst e
    obtain ⟨rfl, rfl, rfl, rfl, rfl, rfl, rfl, _⟩ := a.uniq b
    rw [lexB_irr, decide_eq_false (by omega)]
  · rw [lexB_asymm _ _ (lex_lt b a e), decide_eq_false (by omega)]
theorem date_eq {t u y m d h i s c y' m' d' h' i' s' c' : Int} (a : ToIs t y m d h i s c 0) (b : ToIs u y' m' d' h' i' s' c' 0) :
    (y = y' ∧ m = m' ∧ d = d' ∧ h = h' ∧ i = i' ∧ s = s' ∧ c = c') ↔ t = u := by
  constructor
  · rintro ⟨rfl, rfl, rfl, rfl, rfl, rfl, rfl⟩
    exact (a.back.uniq b.back).1
  · rintro rfl
    obtain ⟨e1, e2, e3, e4, e5, e6, e7, _⟩ := a.uniq b
    exact ⟨e1, e2, e3, e4, e5, e6, e7⟩
/-! ### Months -/
/-- The first second of a month. -/
theorem first_ok {y m : Int} (h : 1972 ≤ y) (g : y < 2100) (a : 1 ≤ m) (b : m ≤ 12) : FromIs y m 1 0 0 0 0 (bgv (mo y m) y m) 0 := by
  have e : timeOf y m 1 0 0 0 0 = bgv (mo y m) y m := by unfold timeOf mo; omega
  refine Or.inl ⟨⟨⟨h, g, a, b, by omega, by have := mo_len y m a b; omega⟩, by omega, by omega, by omega, by omega, by omega, by omega, by omega, Or.inl (by omega)⟩, e.symm, rfl⟩
theorem first_no {y m : Int} (g : ¬ y < 2100) : FromIs y m 1 0 0 0 0 0 2 := Or.inr ⟨fun ⟨⟨_, h, _⟩, _⟩ => g h, rfl, rfl⟩
/-- A time, its month and the next one. -/
theorem month_of {t y m d h i s u : Int} (a : ToIs t y m d h i s u 0) : 1972 ≤ y ∧ y < 2100 ∧ 1 ≤ m ∧ m ≤ 12 ∧ bgv (mo y m) y m ≤ t ∧
    (∀ z k, (z = y ∧ k = m + 1 ∧ m < 12) ∨ (z = y + 1 ∧ k = 1 ∧ m = 12) → 
      t < bgv (mo z k) z k ∧ mo y m + 28 ≤ mo z k ∧ mo z k ≤ mo y m + 31 ∧ bgv (mo z k) z k = bgv (mo y m) y m + (mo z k - mo y m) * 86400000000 + (lps (12 * z + k - 1) - lps (12 * y + m - 1)) * 1000000) := by
  rcases a with ⟨_, _, _, _, _, _, _, _, k⟩ | ⟨a1, a2, n, z, k, hd, rfl, rfl, rfl, rfl, rfl, _⟩
  · omega
  have m1 := hd.ym.m1
  have m12 := hd.ym.m12
  refine ⟨hd.y1, by have := hd.y2; omega, m1, m12, ?_, ?_⟩
  · have := bgv_mono hd.ym (ym_first y m m1 m12) hd.ym.lo
    have := hd.lo
    omega
  · intro z' k' hz
    have ml := mo_len y m m1 m12
    have e : mo z' k' = mo y (m + 1) := by
      rcases hz with ⟨rfl, rfl, _⟩ | ⟨rfl, rfl, rfl⟩
      · rfl
      · exact (mo_13 y).symm
    have hk : 1 ≤ k' ∧ k' ≤ 12 := by omega
    refine ⟨hd.gt (ym_first z' k' hk.1 hk.2) (by rw [e]; exact hd.ym.hi), by omega, by omega, ?_⟩
    unfold bgv
    rw [e]
    omega
end Mp
end Go.Proofs.YtafeigpmldgifaaDoor
/-
  Reading digits: number of the reference.
-/
namespace Go.Proofs.YtafeigpmldgifaaDoor
namespace Ap
open Go.RowKit Lw

def numL (l : List UInt8) : Int := l.foldl (fun n c => 10 * n + ((c.toNat : Int) - 48)) 0
def allD (l : List UInt8) : Prop := ∀ c ∈ l, 48 ≤ (c.toNat : Int) ∧ (c.toNat : Int) ≤ 57
instance (l : List UInt8) : Decidable (allD l) := by unfold allD; infer_instance
/-- The number that a string of digits is, or -1. -/
def numV (l : List UInt8) : Int := if allD l then numL l else -1
theorem numL_snoc (l : List UInt8) (c : UInt8) : numL (l ++ [c]) = 10 * numL l + ((c.toNat : Int) - 48) := by simp [numL]
theorem allD_snoc {l : List UInt8} {c : UInt8} (h : allD l) (h1 : 48 ≤ (c.toNat : Int)) (h2 : (c.toNat : Int) ≤ 57) : allD (l ++ [c]) := fun x hx => by
  rcases List.mem_append.1 hx with g | g
  · exact h x g
  · have := List.mem_singleton.1 g; subst this; exact ⟨h1, h2⟩
theorem take_snoc (s : ByteArray) (k : Nat) (h : k < s.size) : s.data.toList.take (k + 1) = s.data.toList.take k ++ [s[k]] := by
  rw [List.take_succ_eq_append_getElem (by simpa using h)]; rfl
theorem take_all (s : ByteArray) (k : Nat) (h : ¬ k < s.size) : s.data.toList.take k = s.data.toList := List.take_of_length_le (by simp; omega)
theorem numL_bd (l : List UInt8) : ∀ k, k ≤ l.length → allD (l.take k) → 0 ≤ numL (l.take k) ∧ numL (l.take k) < 10 ^ k
  | 0, _, _ => by simp [numL]
  | k + 1, hk, h => by
    have e : l.take (k + 1) = l.take k ++ [l[k]] := List.take_succ_eq_append_getElem (by omega)
    rw [e] at h ⊢
    have ih := numL_bd l k (by omega) (fun x hx => h x (List.mem_append_left _ hx))
    have hc := h l[k] (List.mem_append_right _ (List.mem_singleton.2 rfl))
    rw [numL_snoc, Int.pow_succ]
    omega
theorem pow_17 : ∀ k : Nat, k < 18 → (10 : Int) ^ k ≤ 100000000000000000 := by decide
theorem numL_17 (s : ByteArray) (k : Nat) (hk : k ≤ s.size) (h18 : k < 18) (h : allD (s.data.toList.take k)) : 0 ≤ numL (s.data.toList.take k) ∧ numL (s.data.toList.take k) < 100000000000000000 := by
  have := numL_bd s.data.toList k (by simpa using hk) h
  have := pow_17 k h18
  omega
theorem numV_not (s : ByteArray) (k : Nat) (hk : k < s.size) (h : ¬ (48 ≤ (s[k].toNat : Int) ∧ (s[k].toNat : Int) ≤ 57)) : numV s.data.toList = -1 := by
  unfold numV
  rw [if_neg]
  intro g
  exact h (g s[k] (by
    have : s[k] = s.data.toList[k]'(by simpa using hk) := rfl
    rw [this]; exact List.getElem_mem _))
theorem numV_all (s : ByteArray) (k : Nat) (hk : ¬ k < s.size) (h : allD (s.data.toList.take k)) : numL (s.data.toList.take k) = numV s.data.toList := by
  rw [take_all s k hk] at h ⊢
  unfold numV
  rw [if_pos h]
theorem byte_bd (b : UInt8) : 0 ≤ (b.toNat : Int) ∧ (b.toNat : Int) < 256 := by have := b.toNat_lt; omega
theorem ret_i {a b : Int} (h : a = b) : Ending.returned (.int .i64 a) = .returned (.int .i64 b) := by rw [h]
theorem val_i {a b : Int} (h : a = b) : Value.int .i64 a = .int .i64 b := by rw [h]
end Ap
end Go.Proofs.YtafeigpmldgifaaDoor
/-
  Powers of ten: package moment and the reference.
-/
namespace Go.Proofs.YtafeigpmldgifaaDoor
namespace Ap
open Go.RowKit Lw

/-- A power of ten. -/
def tenI (k : Nat) : Int := (10 ^ k : Nat)
theorem tenI_s (k : Nat) : tenI (k + 1) = tenI k * 10 := by unfold tenI; rw [Nat.pow_succ]; omega
theorem tenI_bd : ∀ k : Nat, k ≤ 18 → 1 ≤ tenI k ∧ tenI k ≤ 1000000000000000000 := by decide
theorem tenI_17 : ∀ k : Nat, k < 18 → 1 ≤ tenI k ∧ tenI k ≤ 100000000000000000 := by decide

theorem val_u {a b : Int} (h : a = b) : Value.int .u64 a = .int .u64 b := by rw [h]
end Ap
end Go.Proofs.YtafeigpmldgifaaDoor
/-
  Texts of numbers: pad of package moment, digitsOf of the reference, and the digits that both write.
-/
namespace Go.Proofs.YtafeigpmldgifaaDoor
namespace At
open Go.RowKit Lw Ap

theorem gPow : Tryd.prog.globalNamed "internal/strconv.uint64pow10" = some 6 := by kernel_rfl
/-- The library's table of powers of ten holds what its initialiser lays. -/
def Tab (w : World) : Prop := Lib.TabIs Tryd.prog w "internal/strconv.uint64pow10" .u64 Lib.pow10Tab
theorem Tab.below {w w' : World} (h : Tab w) (hb : Below w.heap.size w w') : Tab w' := Joins.tab_stays gPow h hb (Nat.le_refl _)

/-- A number with at least so many digits. -/
def padL (n : Int) (d : Nat) : List UInt8 := Lib.repeatL [48] (d - (Lib.itoa n).length) ++ Lib.itoa n
theorem below_grow (w : World) (k : Nat) (os : Array Obj) : Below w.heap.size w (Go.Sort.grow (w.drewN k) os) :=
  ⟨rfl, rfl, rfl, by simp [Go.Sort.grow, World.drewN], fun j hj => by
    show (w.heap ++ os)[j]? = w.heap[j]?
    rw [Array.getElem?_append_left hj]⟩
theorem rep_len (k : Nat) : (Lib.repeatL [48] k).length = k := by
  induction k with
  | zero => rfl
  | succ k ih => simp_all [Lib.repeatL]
theorem str_app (a b : List UInt8) : ((⟨a.toArray⟩ : ByteArray) ++ ⟨b.toArray⟩) = ⟨(a ++ b).toArray⟩ := by
  apply ByteArray.ext
  simp [ByteArray.data_append]

theorem u8_of (n : Nat) (h : n < 10) : (((UInt8.ofNat (48 + n)).toNat : Nat) : Int) = 48 + n := by
  rw [UInt8.toNat_ofNat']
  omega
theorem dd_num (u : Nat) : numL (Lib.decDigits u) = u ∧ allD (Lib.decDigits u) := by
  induction u using Nat.strongRecOn with
  | _ u ih =>
    by_cases h : u < 10
    · rw [Lib.decDigits_one h]
      have e := u8_of u h
      refine ⟨by unfold numL; simp only [List.foldl_cons, List.foldl_nil]; omega, fun c hc => ?_⟩
      rw [List.mem_singleton.1 hc]
      omega
    · rw [Lib.decDigits, dif_neg h]
      obtain ⟨h1, h2⟩ := ih (u / 10) (by omega)
      have e := u8_of (u % 10) (Nat.mod_lt _ (by omega))
      exact ⟨by rw [numL_snoc, h1]; omega, allD_snoc h2 (by omega) (by omega)⟩
theorem itoa_num (r : Nat) : numL (Lib.itoa (r : Int)) = r ∧ allD (Lib.itoa (r : Int)) := by
  unfold Lib.itoa
  rw [if_neg (by omega), Int.toNat_natCast]
  exact dd_num r
theorem rep_num (k : Nat) : numL (Lib.repeatL [48] k) = 0 ∧ allD (Lib.repeatL [48] k) := by
  induction k with
  | zero => exact ⟨rfl, fun c hc => by simp [Lib.repeatL] at hc⟩
  | succ k ih =>
    have e : Lib.repeatL [48] (k + 1) = 48 :: Lib.repeatL [48] k := rfl
    rw [e]
    refine ⟨?_, fun c hc => ?_⟩
    · have := ih.1
      unfold numL at this ⊢
      rw [List.foldl_cons]
      exact this
    · rcases List.mem_cons.1 hc with rfl | g
      · decide
      · exact ih.2 c g
theorem pad_num (r d : Nat) : numV (padL (r : Int) d) = r := by
  have h1 := itoa_num r
  have h2 := rep_num (d - (Lib.itoa (r : Int)).length)
  have hA : allD (padL (r : Int) d) := fun c hc => by
    rcases List.mem_append.1 hc with g | g
    · exact h2.2 c g
    · exact h1.2 c g
  unfold numV
  rw [if_pos hA]
  unfold padL numL
  rw [List.foldl_append]
  have e2 := h2.1
  have e1 := h1.1
  unfold numL at e1 e2
  rw [e2, e1]
theorem nd_le : ∀ (d r : Nat), r < 10 ^ (d + 1) → Lib.nDigits r ≤ d + 1
  | 0, r, h => by rw [Lib.nDigits_small (by simpa using h)]; exact Nat.le_refl _
  | d + 1, r, h => by
    by_cases g : r < 10
    · rw [Lib.nDigits_small g]; omega
    · rw [Lib.nDigits_big g]
      have := nd_le d (r / 10) (by rw [Nat.pow_succ] at h; omega)
      omega
theorem pad_size (r d : Nat) (hd : 1 ≤ d) (h : r < 10 ^ d) : (padL (r : Int) d).length = d := by
  obtain ⟨k, rfl⟩ : ∃ k, d = k + 1 := ⟨d - 1, by omega⟩
  have h1 := nd_le k r h
  have hl : (Lib.itoa (r : Int)).length = Lib.nDigits r := by
    unfold Lib.itoa
    rw [if_neg (by omega), Int.toNat_natCast, Lib.decDigits_length]
  unfold padL
  rw [List.length_append, rep_len, hl]
  omega
/-- The digit of a number below ten. -/
def dg (m : Nat) : UInt8 := UInt8.ofNat (48 + m)
theorem dg_of (n : Nat) (h : n < 10) : (((dg n).toNat : Nat) : Int) = 48 + n := u8_of n h
/-- The last digits of a number. -/
def decL : Nat → Nat → List UInt8
  | _, 0 => []
  | n, k + 1 => decL (n / 10) k ++ [dg (n % 10)]
theorem decL_len : ∀ k n, (decL n k).length = k
  | 0, _ => rfl
  | k + 1, n => by rw [decL, List.length_append, decL_len k]; rfl
theorem decL_num : ∀ k n, numL (decL n k) = ((n % 10 ^ k : Nat) : Int) ∧ allD (decL n k)
  | 0, n => ⟨by simp [decL, numL, Nat.mod_one], fun c hc => by simp [decL] at hc⟩
  | k + 1, n => by
    obtain ⟨h1, h2⟩ := decL_num k (n / 10)
    have e := dg_of (n % 10) (Nat.mod_lt _ (by omega))
    refine ⟨?_, allD_snoc h2 (by omega) (by omega)⟩
    rw [decL, numL_snoc, h1, Nat.pow_succ, Nat.mul_comm (10 ^ k) 10, Nat.mod_mul]
    omega
theorem dec_cons : ∀ k n, decL n (k + 1) = dg (n / 10 ^ k % 10) :: decL n k
  | 0, n => by simp [decL]
  | k + 1, n => by
    have ih := dec_cons k (n / 10)
    rw [decL, ih, decL, List.cons_append, Nat.div_div_eq_div_mul, Nat.pow_succ, Nat.mul_comm (10 ^ k) 10]
theorem num_inj : ∀ (k : Nat) (a b : List UInt8), a.length = k → b.length = k → allD a → allD b → numL a = numL b → a = b
  | 0, a, b, ha, hb, _, _, _ => by rw [List.length_eq_zero_iff.1 ha, List.length_eq_zero_iff.1 hb]
  | k + 1, a, b, ha, hb, da, db, hn => by
    obtain ⟨a', x, rfl⟩ : ∃ a' x, a = a' ++ [x] := ⟨a.dropLast, a.getLast (by intro h; rw [h] at ha; simp at ha), (List.dropLast_concat_getLast _).symm⟩
    obtain ⟨b', y, rfl⟩ : ∃ b' y, b = b' ++ [y] := ⟨b.dropLast, b.getLast (by intro h; rw [h] at hb; simp at hb), (List.dropLast_concat_getLast _).symm⟩
    rw [numL_snoc, numL_snoc] at hn
    have hx := da x (List.mem_append_right _ (List.mem_singleton.2 rfl))
    have hy := db y (List.mem_append_right _ (List.mem_singleton.2 rfl))
    have e : numL a' = numL b' := by omega
    have e2 : x = y := by
      apply UInt8.toNat_inj.1
      omega
    rw [num_inj k a' b' (by simpa using ha) (by simpa using hb) (fun c hc => da c (List.mem_append_left _ hc)) (fun c hc => db c (List.mem_append_left _ hc)) e, e2]
theorem pad_all (r d : Nat) : allD (padL (r : Int) d) := fun c hc => by
  rcases List.mem_append.1 hc with g | g
  · exact (rep_num (d - (Lib.itoa (r : Int)).length)).2 c g
  · exact (itoa_num r).2 c g
theorem pad_dec (r d : Nat) (hd : 1 ≤ d) (h : r < 10 ^ d) : padL (r : Int) d = decL r d := by
  obtain ⟨h1, h2⟩ := decL_num d r
  refine num_inj d _ _ (pad_size r d hd h) (decL_len d r) (pad_all r d) h2 ?_
  have := pad_num r d
  unfold numV at this
  rw [if_pos (pad_all r d)] at this
  rw [this, h1, Nat.mod_eq_of_lt h]
theorem dig_ext : ∀ m, m < 10 → (⟨#[48, 49, 50, 51, 52, 53, 54, 55, 56, 57]⟩ : ByteArray).extract m (m + 1) = ⟨#[dg m]⟩ := by decide
theorem str_cons (c : UInt8) (l : List UInt8) : ((⟨#[c]⟩ : ByteArray) ++ ⟨l.toArray⟩) = ⟨(c :: l).toArray⟩ := str_app [c] l
end At
end Go.Proofs.YtafeigpmldgifaaDoor
/-
  Texts that follow a pattern: like of the reference.
-/
namespace Go.Proofs.YtafeigpmldgifaaDoor
namespace Ap
open Go.RowKit Lw

abbrev bt (s : ByteArray) (k : Nat) : Int := ((s.get! k).toNat : Int)
/-- A byte that follows a pattern: a digit where the pattern has one, and the pattern's byte elsewhere. -/
def okAt (s p : ByteArray) (k : Nat) : Prop := (bt p k = 48 → 48 ≤ bt s k ∧ bt s k ≤ 57) ∧ (¬ bt p k = 48 → bt s k = bt p k)
instance (s p : ByteArray) (k : Nat) : Decidable (okAt s p k) := by unfold okAt; infer_instance
def likeTo (s p : ByteArray) (n : Nat) : Prop := ∀ k, k < n → okAt s p k
instance (s p : ByteArray) (n : Nat) : Decidable (likeTo s p n) := by unfold likeTo; infer_instance
def likeP (s p : ByteArray) : Prop := s.size = p.size ∧ likeTo s p s.size
instance (s p : ByteArray) : Decidable (likeP s p) := by unfold likeP; infer_instance
theorem bt_of (s : ByteArray) (i : Nat) (h : i < s.size) : bt s i = (s[i].toNat : Int) := by simp [bt, ByteArray.get!, getElem!_pos, h]; rfl
theorem like_no {s p : ByteArray} {k : Nat} (hk : k < s.size) (h : ¬ okAt s p k) : decide (likeP s p) = false := decide_eq_false fun g => h (g.2 k hk)
theorem like_yes {s p : ByteArray} {k : Nat} (hn : s.size = p.size) (hk : ¬ k < s.size) (h : likeTo s p k) : decide (likeP s p) = true := decide_eq_true ⟨hn, fun j hj => h j (by omega)⟩
theorem likeTo_s {s p : ByteArray} {k : Nat} (h : likeTo s p k) (g : okAt s p k) : likeTo s p (k + 1) := fun j hj => by
  by_cases e : j = k
  · subst e; exact g
  · exact h j (by omega)
theorem ret_b {a b : Bool} (h : a = b) : Ending.returned (.bool a) = .returned (.bool b) := by rw [h]
end Ap
end Go.Proofs.YtafeigpmldgifaaDoor
/-
  Plain law of the numbers between separators, for any string and any pattern; no walk here.
-/
namespace Go.Proofs.YtafeigpmldgifaaDoor
namespace Ap
open Go.RowKit Lw

/-- Is the byte before one of a number? -/
def ins (p : ByteArray) : Nat → Bool
  | 0 => false
  | k + 1 => decide (bt p k = 48)
/-- The numbers of the first bytes. -/
def grpL (s p : ByteArray) : Nat → List Int
  | 0 => []
  | k + 1 => if bt p k = 48 then (if ins p k = true then (grpL s p k).dropLast ++ [10 * (grpL s p k).getLastD 0 + (bt s k - 48)] else grpL s p k ++ [bt s k - 48]) else grpL s p k
def runAt (p : ByteArray) : Nat → Nat
  | 0 => 0
  | k + 1 => if bt p k = 48 then runAt p k + 1 else 0
theorem grp_skip {s p : ByteArray} {k : Nat} (h : ¬ bt p k = 48) : grpL s p (k + 1) = grpL s p k := by simp only [grpL]; rw [if_neg h]
theorem grp_new {s p : ByteArray} {k : Nat} (h : bt p k = 48) (g : ins p k = false) : grpL s p (k + 1) = grpL s p k ++ [bt s k - 48] := by
  simp only [grpL]; rw [if_pos h, g]; simp
theorem grp_on {s p : ByteArray} {k : Nat} {X : List Int} {v : Int} (h : bt p k = 48) (g : ins p k = true) (e : grpL s p k = X ++ [v]) : grpL s p (k + 1) = X ++ [10 * v + (bt s k - 48)] := by
  simp only [grpL]; rw [if_pos h, if_pos g, e]; simp
theorem grp_len (s p : ByteArray) : ∀ k, (grpL s p k).length ≤ k
  | 0 => by simp [grpL]
  | k + 1 => by
    have ih := grp_len s p k
    simp only [grpL]
    split
    · split
      · simp; omega
      · simp; omega
    · omega
theorem grp_last (s p : ByteArray) : ∀ k, likeTo s p k → ins p k = true → ∃ X v, grpL s p k = X ++ [v] ∧ 0 ≤ v ∧ v < 10 ^ runAt p k ∧ 1 ≤ runAt p k
  | 0, _, h => by cases h
  | k + 1, hl, h => by
    have hb : bt p k = 48 := of_decide_eq_true h
    have hd := (hl k (by omega)).1 hb
    have hr : runAt p (k + 1) = runAt p k + 1 := by simp only [runAt]; rw [if_pos hb]
    cases g : ins p k with
    | false =>
      refine ⟨_, _, grp_new hb g, by omega, ?_, by omega⟩
      have : (1 : Int) ≤ 10 ^ runAt p k := Int.pow_pos (by omega)
      rw [hr, Int.pow_succ]
      omega
    | true =>
      obtain ⟨X, v, e, h0, h1, _⟩ := grp_last s p k (fun j hj => hl j (by omega)) g
      refine ⟨_, _, grp_on hb g e, by omega, ?_, by omega⟩
      rw [hr, Int.pow_succ]
      omega
theorem ext_snoc (s : ByteArray) (i n : Nat) (h : i + n < s.size) : (s.extract i (i + (n + 1))).data.toList = (s.extract i (i + n)).data.toList ++ [s[i + n]] := by
  have e : ∀ j, (s.extract i (i + j)).data.toList = (s.data.toList.drop i).take j := fun j => by
    simp [ByteArray.data_extract, Array.toList_extract]
  rw [e, e, List.take_succ_eq_append_getElem (by simp; omega)]
  simp
  rfl
/-- A number of the pattern is the number of its bytes. -/
theorem grp_run (s p : ByteArray) (i : Nat) (h0 : ins p i = false) : ∀ n, 1 ≤ n → i + n ≤ s.size → (∀ j, i ≤ j → j < i + n → bt p j = 48) → grpL s p (i + n) = grpL s p i ++ [numL (s.extract i (i + n)).data.toList]
  | 0, h, _, _ => absurd h (by omega)
  | 1, _, hs, hp => by
    rw [show i + 1 = i + (0 + 1) by omega, ext_snoc s i 0 (by omega), grp_new (by exact hp i (by omega) (by omega)) h0]
    have := bt_of s (i + 0) (by omega)
    simp [numL]
    simpa using this
  | n + 2, _, hs, hp => by
    have ih := grp_run s p i h0 (n + 1) (by omega) (by omega) fun j a b => hp j a (by omega)
    have hi : ins p (i + (n + 1)) = true := decide_eq_true (hp (i + n) (by omega) (by omega))
    have e := grp_on (hp (i + (n + 1)) (by omega) (by omega)) hi ih
    rw [show i + (n + 2) = i + (n + 1) + 1 by omega, e, show i + (n + 1) + 1 = i + (n + 1 + 1) by omega, ext_snoc s i (n + 1) (by omega), numL_snoc, ← bt_of s (i + (n + 1)) (by omega)]
end Ap
end Go.Proofs.YtafeigpmldgifaaDoor
/-
  Plain law of the texts of times: what a text says, for any string; no walk here.
-/
namespace Go.Proofs.YtafeigpmldgifaaDoor
namespace Ap
open Go.RowKit Lw Go.Proofs.YtafeigpmldgifaaDoor.Mp

/-- 0000-00-00T00:00:00 -/
def P19 : ByteArray := ⟨#[48, 48, 48, 48, 45, 48, 48, 45, 48, 48, 84, 48, 48, 58, 48, 48, 58, 48, 48]⟩
/-- 0000 00 00 -/
def P10 : ByteArray := ⟨#[48, 48, 48, 48, 32, 48, 48, 32, 48, 48]⟩
/-- 000000 -/
def P6 : ByteArray := ⟨#[48, 48, 48, 48, 48, 48]⟩
/-- The number of some bytes. -/
def nm (s : ByteArray) (i j : Nat) : Int := numV (s.extract i j).data.toList
def textP (s : ByteArray) : Prop := 20 ≤ s.size ∧ s.size ≠ 21 ∧ s.size ≤ 27 ∧ bt s (s.size - 1) = 90 ∧ likeP (s.extract 0 19) P19 ∧ (20 < s.size → bt s 19 = 46 ∧ 0 ≤ nm s 20 (s.size - 1))
def microV (s : ByteArray) : Int := if s.size = 20 then 0 else nm s 20 (s.size - 1) * tenI (27 - s.size)
def okText (s : ByteArray) : Prop := textP s ∧ fromOk (nm s 0 4) (nm s 5 7) (nm s 8 10) (nm s 11 13) (nm s 14 16) (nm s 17 19) (microV s)
def textV (s : ByteArray) : Int := timeOf (nm s 0 4) (nm s 5 7) (nm s 8 10) (nm s 11 13) (nm s 14 16) (nm s 17 19) (microV s)
/-- What Parse returns: the time, and the error. -/
def ParseIs (s : ByteArray) (t e : Int) : Prop := (okText s ∧ t = textV s ∧ e = 0) ∨ (¬ okText s ∧ t = 0 ∧ e = 12)
theorem ParseIs.uniq {s : ByteArray} {t e t' e' : Int} (a : ParseIs s t e) (b : ParseIs s t' e') : t = t' ∧ e = e' := by
  rcases a with ⟨a1, a2, a3⟩ | ⟨a1, a2, a3⟩ <;> rcases b with ⟨b1, b2, b3⟩ | ⟨b1, b2, b3⟩
  · exact ⟨by rw [a2, b2], by omega⟩
  · exact absurd a1 b1
  · exact absurd b1 a1
  · exact ⟨by omega, by omega⟩
def dayP (s : ByteArray) : Prop := 10 ≤ s.size ∧ s.size ≠ 11 ∧ s.size ≤ 20 ∧ likeP (s.extract 0 10) P10 ∧ (10 < s.size → bt s 10 = 46 ∧ 0 ≤ nm s 11 s.size)
def okDay (s : ByteArray) : Prop := dayP s ∧ fromOk (nm s 0 4) (nm s 5 7) (nm s 8 10) 0 0 0 0
/-- A quotient, rounded up. -/
def upI (a b : Int) : Int := a / b + (if 0 < a % b then 1 else 0)
def dayLen (y m d : Int) : Int := if d = mo y (m + 1) - mo y m ∧ lps (12 * y + m) = lps (12 * y + m - 1) + 1 then 86401000000 else 86400000000
def partV (s : ByteArray) : Int := if s.size = 10 then 0 else upI (nm s 11 s.size * dayLen (nm s 0 4) (nm s 5 7) (nm s 8 10)) (tenI (s.size - 11))
def dayV (s : ByteArray) : Int := timeOf (nm s 0 4) (nm s 5 7) (nm s 8 10) 0 0 0 0 + partV s
/-- What ParseDay returns: the time, and the error. -/
def PDayIs (s : ByteArray) (t e : Int) : Prop := (okDay s ∧ t = dayV s ∧ e = 0) ∨ (¬ okDay s ∧ t = 0 ∧ e = 12)
theorem PDayIs.uniq {s : ByteArray} {t e t' e' : Int} (a : PDayIs s t e) (b : PDayIs s t' e') : t = t' ∧ e = e' := by
  rcases a with ⟨a1, a2, a3⟩ | ⟨a1, a2, a3⟩ <;> rcases b with ⟨b1, b2, b3⟩ | ⟨b1, b2, b3⟩
  · exact ⟨by rw [a2, b2], by omega⟩
  · exact absurd a1 b1
  · exact absurd b1 a1
  · exact ⟨by omega, by omega⟩
/-! ### Head and tail -/
abbrev noPt (c : UInt8) : Bool := decide (¬ ((c.toNat : Nat) : Int) = 46)
/-- The place of the first point, or the end. -/
def ptL (l : List UInt8) : Nat := (l.takeWhile noPt).length
theorem ptL_le : ∀ l : List UInt8, ptL l ≤ l.length
  | [] => by simp [ptL]
  | c :: l => by
    have := ptL_le l
    unfold ptL at *
    rw [List.takeWhile_cons]
    split
    · simp; omega
    · simp
theorem ptL_lo : ∀ (l : List UInt8) (j : Nat) (h : j < ptL l) (g : j < l.length), ¬ ((l[j].toNat : Nat) : Int) = 46
  | [], _, _, g => absurd g (by simp)
  | c :: l, j, h, g => by
    unfold ptL at h
    rw [List.takeWhile_cons] at h
    cases hb : noPt c with
    | false => rw [hb] at h; simp at h
    | true =>
      rw [hb] at h
      cases j with
      | zero => exact of_decide_eq_true hb
      | succ j =>
        simp only [List.getElem_cons_succ]
        exact ptL_lo l j (by unfold ptL; simp at h; omega) (by simpa using g)
theorem ptL_at : ∀ (l : List UInt8) (h : ptL l < l.length), ((l[ptL l].toNat : Nat) : Int) = 46
  | [], h => absurd h (by simp)
  | c :: l, h => by
    cases hb : noPt c with
    | false =>
      have e : ptL (c :: l) = 0 := by unfold ptL; rw [List.takeWhile_cons, hb]; rfl
      have : ((c :: l)[ptL (c :: l)]) = c := by simp only [e]; rfl
      rw [this]
      have := of_decide_eq_false hb
      omega
    | true =>
      have e : ptL (c :: l) = ptL l + 1 := by unfold ptL; rw [List.takeWhile_cons, hb]; simp
      have := ptL_at l (by rw [e] at h; simpa using h)
      have e2 : ((c :: l)[ptL (c :: l)]) = l[ptL l]'(by rw [e] at h; simpa using h) := by simp only [e]; rfl
      rw [e2]; exact this
theorem ptL_uniq {l : List UInt8} {q : Nat} (h : q ≤ l.length) (h1 : ∀ j (g : j < l.length), j < q → ¬ ((l[j].toNat : Nat) : Int) = 46) (h2 : ∀ g : q < l.length, ((l[q].toNat : Nat) : Int) = 46) : ptL l = q := by
  have a := ptL_le l
  rcases Nat.lt_trichotomy (ptL l) q with c | c | c
  · exact absurd (ptL_at l (by omega)) (h1 _ (by omega) c)
  · exact c
  · exact absurd (h2 (by omega)) (ptL_lo l q c (by omega))
end Ap
end Go.Proofs.YtafeigpmldgifaaDoor
/-
  Head and tail of a string: strings.Cut at a point, strings.CutSuffix of a Z.
-/
namespace Go.Proofs.YtafeigpmldgifaaDoor
namespace Ap
open Go.RowKit Lw

theorem point_iff (c : UInt8) : (c == 46) = true ↔ ((c.toNat : Nat) : Int) = 46 := by
  have e : c = 46 ↔ c.toNat = (46 : UInt8).toNat := UInt8.toNat_inj.symm
  have h46 : (46 : UInt8).toNat = 46 := rfl
  rw [beq_iff_eq, e, h46]
  omega
theorem idx_pt : ∀ l : List UInt8, Lib.indexByte l 46 = if ptL l < l.length then ((ptL l : Nat) : Int) else -1
  | [] => rfl
  | b :: l => by
    have ih := idx_pt l
    unfold ptL at ih ⊢
    unfold Lib.indexByte
    by_cases h : (b == 46) = true
    · have hb : noPt b = false := decide_eq_false (not_not_intro ((point_iff b).1 h))
      rw [if_pos h, List.takeWhile_cons, hb]
      simp
    · have hb : noPt b = true := decide_eq_true fun g => h ((point_iff b).2 g)
      rw [if_neg h, List.takeWhile_cons, if_pos hb, ih]
      simp only [List.length_cons, beq_iff_eq]
      by_cases g : (l.takeWhile noPt).length < l.length
      · rw [if_pos g, if_neg (by omega), if_pos (by omega)]
        omega
      · rw [if_neg g, if_pos rfl, if_neg (by omega)]
/-- The place of the first point of a string. -/
def ptS (s : ByteArray) : Nat := ptL s.data.toList
def hdP (s : ByteArray) : ByteArray := s.extract 0 (ptS s)
def tlP (s : ByteArray) : ByteArray := if ptS s < s.size then s.extract (ptS s + 1) s.size else ⟨#[]⟩
theorem ptS_le (s : ByteArray) : ptS s ≤ s.size := by have := ptL_le s.data.toList; unfold ptS; simpa using this
theorem extract_all (s : ByteArray) : s.extract 0 s.size = s := by simp
set_option maxRecDepth 100000 in
set_option maxHeartbeats 1000000 in
theorem icut_any (s : ByteArray) (w : World) (hs : s.size ≤ maxLen) :
    Calls Tryd.prog 27 #[.string s, .string ⟨#[46]⟩] w fun e w' => e = .returned (.tuple #[.string (hdP s), .string (tlP s), .bool (decide (ptS s < s.size))]) ∧ Below w.heap.size w w' := by
  have IX := Tryd.stringslite_Index_one s 46 w
  have ix := idx_pt s.data.toList
  have hl : s.data.toList.length = s.size := by simp
  rw [hl] at ix
  replace ix : Lib.indexByte s.data.toList 46 = if ptS s < s.size then ((ptS s : Nat) : Int) else -1 := ix
  have le := ptS_le s
  have M : maxLen = 9223372036854775807 := rfl
  by_cases h : ptS s < s.size
  · have e : Lib.indexByte s.data.toList 46 = ((ptS s : Nat) : Int) := by rw [ix, if_pos h]
    rw [e] at IX
    have T := Lib.hid (show tlP s = s.extract (ptS s + 1) s.size from if_pos h)
    have H := Lib.hid (show hdP s = s.extract 0 (ptS s) from rfl)
    rw [decide_eq_true h]
    clear ix e
    generalize ptS s = q at *
    have i0 : 0 ≤ (q : Int) := by omega
    go_enter Tryd.func27, Tryd.ntmps27
    go_wp2_with fail
    refine IX.mono ?_
    rintro e w1 ⟨rfl, rfl⟩
    go_wp2_with fail
    go_quiet (fail)
    go_wp2_with fail
    go_ret3

    exact ⟨by rw [T.out, H.out]; rfl, drewN_below2 (Below.refl _ _) _⟩
  · have e : Lib.indexByte s.data.toList 46 = -1 := by rw [ix, if_neg h]
    rw [e] at IX
    have T := Lib.hid (show tlP s = ⟨#[]⟩ from if_neg h)
    have H := Lib.hid (show hdP s = s by unfold hdP; rw [show ptS s = s.size by omega]; exact extract_all s)
    rw [decide_eq_false h]
    clear ix e
    go_enter Tryd.func27, Tryd.ntmps27
    go_wp2_with fail
    refine IX.mono ?_
    rintro e w1 ⟨rfl, rfl⟩
    go_wp2_with fail
    go_ret3
    exact ⟨by rw [T.out, H.out]; rfl, Below.refl _ _⟩
theorem cut_any (s : ByteArray) (w : World) (hs : s.size ≤ maxLen) :
    Calls Tryd.prog 17 #[.string s, .string ⟨#[46]⟩] w fun e w' => e = .returned (.tuple #[.string (hdP s), .string (tlP s), .bool (decide (ptS s < s.size))]) ∧ Below w.heap.size w w' := by
  go_enter Tryd.func17, Tryd.ntmps17
  go_wp2_with fail
  refine (icut_any s w hs).mono ?_
  rintro e w1 ⟨rfl, hb⟩
  go_wp2_with fail
  go_ret3
  exact ⟨rfl, hb⟩
/-- Does a string end in a Z? -/
def zP (s : ByteArray) : Prop := 1 ≤ s.size ∧ bt s (s.size - 1) = 90
instance (s : ByteArray) : Decidable (zP s) := by unfold zP; infer_instance
def noZ (s : ByteArray) : ByteArray := if zP s then s.extract 0 (s.size - 1) else s
theorem suf_z (s : ByteArray) : Lib.hasSuffix s.data.toList [90] = decide (zP s) := by
  unfold Lib.hasSuffix
  rw [Bool.eq_iff_iff, decide_eq_true_iff, List.isSuffixOf_iff_suffix]
  constructor
  · rintro ⟨r, h⟩
    have hl := congrArg List.length h
    simp at hl
    refine ⟨by omega, ?_⟩
    rw [bt_of s _ (by omega)]
    have e : s[s.size - 1]'(by omega) = s.data.toList[s.size - 1]'(by simp; omega) := rfl
    rw [e]
    have : s.data.toList[s.size - 1]'(by simp; omega) = (r ++ [90])[s.size - 1]'(by simp; omega) := by simp only [h]
    rw [this, List.getElem_append_right (by omega)]
    simp
  · rintro ⟨h1, h2⟩
    rw [bt_of s _ (by omega)] at h2
    refine ⟨s.data.toList.take (s.size - 1), ?_⟩
    have e := take_snoc s (s.size - 1) (by omega)
    have hz : s[s.size - 1] = 90 := by
      apply UInt8.toNat_inj.1
      have : (90 : UInt8).toNat = 90 := rfl
      omega
    rw [hz, show s.size - 1 + 1 = s.size by omega] at e
    rw [← e]
    exact List.take_of_length_le (by simp)
end Ap
end Go.Proofs.YtafeigpmldgifaaDoor
/-
  Plain law: what head, tail and numbers of a text say is what the text says; no walk here.
-/
namespace Go.Proofs.YtafeigpmldgifaaDoor
namespace Ap
open Go.RowKit Lw Go.Proofs.YtafeigpmldgifaaDoor.Mp

theorem bt_ext (s : ByteArray) (i j k : Nat) (hj : j ≤ s.size) (hk : i + k < j) : bt (s.extract i j) k = bt s (i + k) := by
  have h1 : k < (s.extract i j).size := by simp; omega
  rw [bt_of _ k h1, bt_of s (i + k) (by omega)]
  simp [ByteArray.getElem_extract]
theorem size_ext (s : ByteArray) (i j : Nat) (hj : j ≤ s.size) : (s.extract i j).size = j - i := by simp; omega
theorem ext_ext (s : ByteArray) (j k : Nat) (h : k ≤ j) (hj : j ≤ s.size) : (s.extract 0 j).extract 0 k = s.extract 0 k := by
  rw [ByteArray.extract_extract]
  congr 1 <;> omega
theorem ext_ext2 (s : ByteArray) (i j : Nat) (hj : j ≤ s.size) : (s.extract 0 j).extract i j = s.extract i j := by
  rw [ByteArray.extract_extract]
  congr 1 <;> omega
theorem pt_lo (s : ByteArray) (j : Nat) (h : j < ptS s) : ¬ bt s j = 46 := by
  have hj : j < s.size := Nat.lt_of_lt_of_le h (ptS_le s)
  rw [bt_of s j hj]
  exact ptL_lo s.data.toList j h (by simpa using hj)
theorem pt_at (s : ByteArray) (h : ptS s < s.size) : bt s (ptS s) = 46 := by
  rw [bt_of s _ h]
  exact ptL_at s.data.toList (by have g := h; unfold ptS at g; simpa using g)
theorem pt_uniq {s : ByteArray} {q : Nat} (h : q ≤ s.size) (h1 : ∀ j, j < q → ¬ bt s j = 46) (h2 : q < s.size → bt s q = 46) : ptS s = q := by
  refine ptL_uniq (by simpa using h) (fun j g hj => ?_) (fun g => ?_)
  · have hs : j < s.size := by simpa using g
    have := h1 j hj
    rw [bt_of s j hs] at this
    exact this
  · have hs : q < s.size := by simpa using g
    have := h2 hs
    rw [bt_of s q hs] at this
    exact this
theorem allD_bt (s : ByteArray) : allD s.data.toList ↔ ∀ k, k < s.size → 48 ≤ bt s k ∧ bt s k ≤ 57 := by
  constructor
  · intro h k hk
    rw [bt_of s k hk]
    exact h _ (by
      have : s[k] = s.data.toList[k]'(by simpa using hk) := rfl
      rw [this]; exact List.getElem_mem _)
  · intro h c hc
    obtain ⟨k, hk, rfl⟩ := List.mem_iff_getElem.1 hc
    have hs : k < s.size := by simpa using hk
    have := h k hs
    rw [bt_of s k hs] at this
    exact this
theorem numV_nn (l : List UInt8) : 0 ≤ numV l ↔ allD l := by
  unfold numV
  by_cases h : allD l
  · rw [if_pos h]
    have e : l.take l.length = l := List.take_length
    have := numL_bd l l.length (Nat.le_refl _) (by rw [e]; exact h)
    rw [e] at this
    exact ⟨fun _ => h, fun _ => this.1⟩
  · rw [if_neg h]
    exact ⟨fun g => absurd g (by omega), fun g => absurd g h⟩
theorem numV_yes {l : List UInt8} (h : allD l) : numV l = numL l := if_pos h
/-! ### The digits behind the point -/
def pad6 (t : ByteArray) : ByteArray := t ++ P6.extract t.size P6.size
theorem zeros6 (i : Nat) (h : i ≤ 6) : (P6.extract i P6.size).data.toList = List.replicate (6 - i) 48 := by
  have : i = 0 ∨ i = 1 ∨ i = 2 ∨ i = 3 ∨ i = 4 ∨ i = 5 ∨ i = 6 := by omega
  rcases this with rfl | rfl | rfl | rfl | rfl | rfl | rfl <;> decide
theorem pad6_list (t : ByteArray) (h : t.size ≤ 6) : (pad6 t).data.toList = t.data.toList ++ List.replicate (6 - t.size) 48 := by
  rw [← zeros6 t.size h]
  simp [pad6]
theorem pad6_size (t : ByteArray) (h : t.size ≤ 6) : (pad6 t).size = 6 := by
  have := congrArg List.length (pad6_list t h)
  simp at this
  omega
theorem numL_zeros (l : List UInt8) : ∀ k, numL (l ++ List.replicate k 48) = numL l * tenI k
  | 0 => by simp [tenI]
  | k + 1 => by
    have ih := numL_zeros l k
    have e : List.replicate (k + 1) (48 : UInt8) = List.replicate k 48 ++ [48] := List.replicate_succ'
    have h48 : ((48 : UInt8).toNat : Int) = 48 := rfl
    rw [e, ← List.append_assoc, numL_snoc, ih, tenI_s, h48, ← Int.mul_assoc (numL l) (tenI k) 10]
    generalize numL l * tenI k = Z
    omega
theorem P6_at : ∀ k, k < 6 → bt P6 k = 48 := by decide
theorem like6 (t : ByteArray) (h : t.size ≤ 6) : likeP (pad6 t) P6 ↔ allD t.data.toList := by
  have hs := pad6_size t h
  have ha := allD_bt (pad6 t)
  rw [pad6_list t h, hs] at ha
  have hb : allD (t.data.toList ++ List.replicate (6 - t.size) 48) ↔ allD t.data.toList := by
    constructor
    · exact fun g c hc => g c (List.mem_append_left _ hc)
    · intro g c hc
      rcases List.mem_append.1 hc with hc | hc
      · exact g c hc
      · have := (List.mem_replicate.1 hc).2
        subst this
        exact ⟨by decide, by decide⟩
  rw [← hb, ha]
  constructor
  · intro ⟨_, g⟩ k hk
    exact (g k (by omega)).1 (P6_at k hk)
  · intro g
    refine ⟨hs, fun k hk => ⟨fun _ => g k (by omega), fun e => absurd (P6_at k (by omega)) e⟩⟩
theorem grp6 (t : ByteArray) (h : t.size ≤ 6) : grpL (pad6 t) P6 (pad6 t).size = [numL t.data.toList * tenI (6 - t.size)] := by
  have hs := pad6_size t h
  have := grp_run (pad6 t) P6 0 rfl 6 (by omega) (by omega) (fun j _ hj => P6_at j (by omega))
  rw [hs, show (6 : Nat) = 0 + 6 by omega, this]
  have e : (pad6 t).extract 0 (0 + 6) = pad6 t := by rw [show 0 + 6 = (pad6 t).size by omega]; exact extract_all _
  rw [e, pad6_list t h, numL_zeros]
  rfl
/-! ### The numbers ahead of the point -/
theorem P19_no : ∀ j, j < 19 → ¬ bt P19 j = 46 := by decide
theorem P10_no : ∀ j, j < 10 → ¬ bt P10 j = 46 := by decide
theorem like_no46 {h p : ByteArray} {n : Nat} (hl : likeP h p) (hn : h.size = n) (hp : ∀ j, j < n → ¬ bt p j = 46) : ∀ j, j < n → ¬ bt h j = 46 := fun j hj e => by
  obtain ⟨a, b⟩ := hl.2 j (by omega)
  by_cases g : bt p j = 48
  · have := a g; omega
  · have := b g
    exact hp j hj (by omega)
/-- What the program finds of a text. -/
def progT (s : ByteArray) : Prop := zP s ∧ likeP (hdP (noZ s)) P19 ∧ (ptS (noZ s) < (noZ s).size → 1 ≤ (tlP (noZ s)).size ∧ (tlP (noZ s)).size ≤ 6) ∧ allD (tlP (noZ s)).data.toList
theorem P19_size : P19.size = 19 := rfl
theorem P10_size : P10.size = 10 := rfl
theorem prog_text {s : ByteArray} (g : progT s) : textP s ∧ hdP (noZ s) = s.extract 0 19 ∧ microV s = numL (tlP (noZ s)).data.toList * tenI (6 - (tlP (noZ s)).size) := by
  obtain ⟨z, lk, sz, ad⟩ := g
  have hr : noZ s = s.extract 0 (s.size - 1) := if_pos z
  obtain ⟨z1, z2⟩ := z
  have rs : (noZ s).size = s.size - 1 := by rw [hr, size_ext s _ _ (by omega)]; omega
  have hq : ptS (noZ s) = 19 := by
    have := lk.1
    rw [P19_size] at this
    have le := ptS_le (noZ s)
    unfold hdP at this
    rw [size_ext _ _ _ le] at this
    omega
  have hle := ptS_le (noZ s)
  have hh : hdP (noZ s) = s.extract 0 19 := by
    unfold hdP
    rw [hq, hr, ext_ext s _ _ (by omega) (by omega)]
  rw [hh] at lk
  by_cases hp : ptS (noZ s) < (noZ s).size
  · have ht : tlP (noZ s) = s.extract 20 (s.size - 1) := by
      unfold tlP
      rw [if_pos hp, hq, rs, hr, ext_ext2 s _ _ (by omega)]
    have hs := sz hp
    rw [ht, size_ext s _ _ (by omega)] at hs
    have h46 := pt_at (noZ s) hp
    rw [hq, hr, bt_ext s 0 (s.size - 1) 19 (by omega) (by omega)] at h46
    have ad' := ad
    rw [ht] at ad'
    refine ⟨⟨by omega, by omega, by omega, z2, lk, fun _ => ⟨by simpa using h46, (numV_nn _).2 ad'⟩⟩, hh, ?_⟩
    unfold microV nm
    rw [if_neg (by omega), numV_yes ad', ht, size_ext s _ _ (by omega), show 6 - (s.size - 1 - 20) = 27 - s.size by omega]
  · have ht : tlP (noZ s) = ⟨#[]⟩ := if_neg hp
    refine ⟨⟨by omega, by omega, by omega, z2, lk, fun h => absurd h (by omega)⟩, hh, ?_⟩
    unfold microV
    rw [if_pos (by omega), ht]
    rfl
theorem text_prog {s : ByteArray} (g : textP s) : progT s := by
  obtain ⟨h20, h21, h27, hz, lk, hm⟩ := g
  have z : zP s := ⟨by omega, hz⟩
  have hr : noZ s = s.extract 0 (s.size - 1) := if_pos z
  have rs : (noZ s).size = s.size - 1 := by rw [hr, size_ext s _ _ (by omega)]; omega
  have no := like_no46 lk (by rw [size_ext s _ _ (by omega)]) P19_no
  have hq : ptS (noZ s) = 19 := by
    refine pt_uniq (by omega) (fun j hj => ?_) (fun h => ?_)
    · have := no j (by omega)
      rw [bt_ext s 0 19 j (by omega) (by omega)] at this
      rw [hr, bt_ext s 0 _ j (by omega) (by omega)]
      exact this
    · rw [hr, bt_ext s 0 _ 19 (by omega) (by omega)]
      have := (hm (by omega)).1
      simpa using this
  have hh : hdP (noZ s) = s.extract 0 19 := by
    unfold hdP
    rw [hq, hr, ext_ext s _ _ (by omega) (by omega)]
  refine ⟨z, by rw [hh]; exact lk, fun hp => ?_, ?_⟩
  · have ht : tlP (noZ s) = s.extract 20 (s.size - 1) := by
      unfold tlP
      rw [if_pos hp, hq, rs, hr, ext_ext2 s _ _ (by omega)]
    rw [ht, size_ext s _ _ (by omega)]
    omega
  · by_cases hp : ptS (noZ s) < (noZ s).size
    · have ht : tlP (noZ s) = s.extract 20 (s.size - 1) := by
        unfold tlP
        rw [if_pos hp, hq, rs, hr, ext_ext2 s _ _ (by omega)]
      rw [ht]
      exact (numV_nn _).1 (hm (by omega)).2
    · have ht : tlP (noZ s) = ⟨#[]⟩ := if_neg hp
      rw [ht]
      exact fun c hc => absurd hc (by simp)
end Ap
end Go.Proofs.YtafeigpmldgifaaDoor
/-
  The texts of times: Text of package moment and of the reference.
-/
namespace Go.Proofs.YtafeigpmldgifaaDoor
namespace At
open Go.RowKit Lw Ap Go.Proofs.YtafeigpmldgifaaDoor.Mp Go.Proofs.YtafeigpmldgifaaDoor.Mw

/-- The last digits of a number, as a string. -/
def dS (n k : Nat) : ByteArray := ⟨(decL n k).toArray⟩
theorem dS_size (n k : Nat) : (dS n k).size = k := by
  have : (dS n k).size = (decL n k).length := by simp [dS, ByteArray.size]
  rw [this, decL_len]
theorem add_fact {a b c : ByteArray} (h : c = a ++ b) (hs : a.size + b.size ≤ 9223372036854775807) : ∀ w' : World, (Op.stringOp .add a b).run Tryd.prog w' = .ok (.string c) w' := fun w' => by
  rw [run_string_add_sum (P := Tryd.prog) (w := w') _ _ hs, h]
def baseS (Y M D H I S : Nat) : ByteArray := dS Y 4 ++ (⟨#[45]⟩ : ByteArray) ++ dS M 2 ++ (⟨#[45]⟩ : ByteArray) ++ dS D 2 ++ (⟨#[84]⟩ : ByteArray) ++ dS H 2 ++ (⟨#[58]⟩ : ByteArray) ++ dS I 2 ++ (⟨#[58]⟩ : ByteArray) ++ dS S 2
/-- The text of a time. -/
def textS (Y M D H I S U d : Nat) : ByteArray := (if 0 < d then baseS Y M D H I S ++ ((⟨#[46]⟩ : ByteArray) ++ (dS U 6).extract 0 d) else baseS Y M D H I S) ++ (⟨#[90]⟩ : ByteArray)
/-- What Text returns: the text, and the error. -/
def TextIs (t d : Int) (s : ByteArray) (c : Int) : Prop :=
  ((d < 0 ∨ 6 < d) ∧ s = ⟨#[]⟩ ∧ c = 2) ∨ (0 ≤ d ∧ d ≤ 6 ∧ (t < bgv (-10227) 1972 1 ∨ bgv 36525 2100 1 ≤ t) ∧ s = ⟨#[]⟩ ∧ c = 16) ∨
  (0 ≤ d ∧ d ≤ 6 ∧ bgv (-10227) 1972 1 ≤ t ∧ t < bgv 36525 2100 1 ∧ ∃ n y m z k, DayOf t n y m z k ∧ s = textS y.toNat m.toNat (n - mo y m + 1).toNat (mins (t - bgv n y m) / 60).toNat (mins (t - bgv n y m) % 60).toNat ((t - bgv n y m) / 1000000 - 60 * mins (t - bgv n y m)).toNat ((t - bgv n y m) % 1000000).toNat d.toNat ∧ c = 0)
theorem TextIs.uniq {t d : Int} {s s' : ByteArray} {c c' : Int} (a : TextIs t d s c) (b : TextIs t d s' c') : s = s' ∧ c = c' := by
  rcases a with ⟨a0, a1, a2⟩ | ⟨a0, a1, a2, a3, a4⟩ | ⟨a0, a1, a2, a3, n, y, m, z, k, a4, a5, a6⟩ <;> rcases b with ⟨b0, b1, b2⟩ | ⟨b0, b1, b2, b3, b4⟩ | ⟨b0, b1, b2, b3, n', y', m', z', k', b4, b5, b6⟩
  · exact ⟨by rw [a1, b1], by omega⟩
  · omega
  · omega
  · omega
  · exact ⟨by rw [a3, b3], by omega⟩
  · omega
  · omega
  · omega
  · obtain ⟨rfl, rfl, rfl, _, _⟩ := a4.uniq b4
    exact ⟨by rw [a5, b5], by omega⟩
def TextPost (t d : Int) (w : World) (e : Ending) (w' : World) : Prop := ∃ (s : ByteArray) (c : Int), e = .returned (.tuple #[.string s, .int .i64 c]) ∧ TextIs t d s c ∧ Below w.heap.size w w'
/-- The parts of a date, as naturals. -/
theorem date_nat {t n y m z k : Int} (h : DayOf t n y m z k) : ∃ Y M D H I S U : Nat, y = Y ∧ m = M ∧ n - mo y m + 1 = D ∧ mins (t - bgv n y m) / 60 = H ∧ mins (t - bgv n y m) % 60 = I ∧ (t - bgv n y m) / 1000000 - 60 * mins (t - bgv n y m) = S ∧ (t - bgv n y m) % 1000000 = U ∧
    Y < 10 ^ 4 ∧ M < 10 ^ 2 ∧ D < 10 ^ 2 ∧ H < 10 ^ 2 ∧ I < 10 ^ 2 ∧ S < 10 ^ 2 ∧ U < 10 ^ 6 := by
  obtain ⟨p1, p2⟩ := h.pass
  have y1 := h.y1
  have y2 := h.y2
  have m1 := h.ym.m1
  have m2 := h.ym.m12
  have ml := mo_bd2 h
  generalize t - bgv n y m = p at *
  generalize n - mo y m + 1 = dd at *
  have hm : 0 ≤ mins p ∧ mins p ≤ 1439 ∧ 60 * mins p ≤ p / 1000000 ∧ p / 1000000 - 60 * mins p ≤ 60 := by unfold mins; split <;> omega
  generalize mins p = q at *
  refine ⟨y.toNat, m.toNat, dd.toNat, (q / 60).toNat, (q % 60).toNat, (p / 1000000 - 60 * q).toNat, (p % 1000000).toNat, ?_⟩
  omega
/-- The date in its block, the table, and what was there before. -/
structure XS (w : World) (b : Nat) (w' : World) : Prop where
  lt : b < w'.heap.size
  tab : Tab w'
  below : Below w.heap.size w w'
theorem XS.call {w : World} {b : Nat} {a c : World} (h : XS w b a) (hb : Below a.heap.size a c) : XS w b c := ⟨Nat.lt_of_lt_of_le h.lt hb.size, h.tab.below hb, below_then h.below hb⟩
theorem XS.drew {w : World} {b : Nat} {a : World} (h : XS w b a) : XS w b a.drew := ⟨h.lt, h.tab, h.below.drew⟩
structure XSr (w : World) (b : Nat) (w' : World) : Prop where
  lt : b < w'.heap.size
  below : Below w.heap.size w w'
theorem XSr.drew {w : World} {b : Nat} {a : World} (h : XSr w b a) : XSr w b a.drew := ⟨h.lt, h.below.drew⟩
theorem app_left (a b c : ByteArray) : a ++ (b ++ c) ++ (⟨#[90]⟩ : ByteArray) = a ++ b ++ c ++ (⟨#[90]⟩ : ByteArray) := by rw [← ByteArray.append_assoc]
theorem text_frac {Y M D H I S U d : Nat} {A X Z : ByteArray} (hb : baseS Y M D H I S = A) (hd : 0 < d) (hx : X = (dS U 6).extract 0 d) (hz : Z = A ++ ((⟨#[46]⟩ : ByteArray) ++ X)) : Z ++ (⟨#[90]⟩ : ByteArray) = textS Y M D H I S U d := by
  unfold textS; rw [if_pos hd, hb, hz, hx]
theorem text_whole {Y M D H I S U d : Nat} {A : ByteArray} (hb : baseS Y M D H I S = A) (hd : ¬ 0 < d) : A ++ (⟨#[90]⟩ : ByteArray) = textS Y M D H I S U d := by
  unfold textS; rw [if_neg hd, hb]
theorem text_arg {t d : Int} (h : d < 0 ∨ 6 < d) : TextIs t d ⟨#[]⟩ 2 := Or.inl ⟨h, rfl, rfl⟩
end At
end Go.Proofs.YtafeigpmldgifaaDoor
/-
  Plain arithmetic under math/bits.Div64: a quotient of two digits of 32 bits; no program in sight.
-/
namespace Go.Proofs.YtafeigpmldgifaaDoor
namespace Dv

theorem q_mul (q y1 y0 : Nat) : q * (y1 * 4294967296 + y0) = q * y1 * 4294967296 + q * y0 := by rw [Nat.mul_add, Nat.mul_assoc]
/-- A guess of a digit that is not too small, with what the guess leaves of the first digits. -/
structure Dig (u y1 y0 x q r : Nat) : Prop where
  eq : u = q * y1 + r
  ge : (u * 4294967296 + x) / (y1 * 4294967296 + y0) ≤ q
theorem dig_start {u y1 y0 x : Nat} (h1 : 0 < y1) (hx : x < 4294967296) : Dig u y1 y0 x (u / y1) (u - u / y1 * y1) := by
  have e := Nat.div_mul_le_self u y1
  refine ⟨by omega, ?_⟩
  have h2 : (u * 4294967296 + x) / (y1 * 4294967296 + y0) ≤ (u * 4294967296 + x) / (4294967296 * y1) := Nat.div_le_div_left (by omega) (by omega)
  rw [← Nat.div_div_eq_div_mul] at h2
  have h3 : (u * 4294967296 + x) / 4294967296 = u := by omega
  rw [h3] at h2
  exact h2
theorem lin_lt {u P r x Z : Nat} (h : u = P + r) (hc : r * 4294967296 + x < Z) : u * 4294967296 + x < P * 4294967296 + Z := by
  rw [h, Nat.add_mul, Nat.add_assoc]; exact Nat.add_lt_add_left hc _
theorem lin_le {u P r x Z : Nat} (h : u = P + r) (hc : Z ≤ r * 4294967296 + x) : P * 4294967296 + Z ≤ u * 4294967296 + x := by omega
theorem lin_one {u x : Nat} (hx : x < 4294967296) : u * 4294967296 + x < (u + 1) * 4294967296 := by rw [Nat.add_mul]; omega
theorem lin_B {u Y x Z : Nat} (hu : u < Y) (hx : x < 4294967296) (h : Y * 4294967296 ≤ Z) : u * 4294967296 + x < Z :=
  Nat.lt_of_lt_of_le (lin_one hx) (Nat.le_trans (Nat.mul_le_mul_right _ hu) h)
theorem dig_step {u y1 y0 x q r : Nat} (h : Dig u y1 y0 x q r) (hu : u < y1 * 4294967296 + y0) (hx : x < 4294967296) (hc : 4294967296 ≤ q ∨ r * 4294967296 + x < q * y0) : 1 ≤ q ∧ Dig u y1 y0 x (q - 1) (r + y1) := by
  have hl : (u * 4294967296 + x) / (y1 * 4294967296 + y0) < q := by
    rw [Nat.div_lt_iff_lt_mul (by omega)]
    rcases hc with hc | hc
    · exact lin_B hu hx (by rw [Nat.mul_comm]; exact Nat.mul_le_mul_right (y1 * 4294967296 + y0) hc)
    · rw [q_mul]
      exact lin_lt h.eq hc
  have hq : 1 ≤ q := Nat.lt_of_le_of_lt (Nat.zero_le _) hl
  refine ⟨hq, ?_, Nat.le_sub_one_of_lt hl⟩
  obtain ⟨k, rfl⟩ : ∃ k, q = k + 1 := ⟨q - 1, by omega⟩
  have := h.eq
  rw [Nat.add_mul] at this
  simp only [Nat.add_sub_cancel]
  omega
theorem dig_end {u y1 y0 x q r : Nat} (h : Dig u y1 y0 x q r) (hY : 0 < y1 * 4294967296 + y0) (hc : q * y0 ≤ r * 4294967296 + x) : q = (u * 4294967296 + x) / (y1 * 4294967296 + y0) :=
  Nat.le_antisymm ((Nat.le_div_iff_mul_le hY).2 (by
    rw [q_mul]
    exact lin_le h.eq hc)) h.ge
theorem lin_brk {Z y0 r x : Nat} (h : Z ≤ y0 * 4294967296) (h0 : y0 < 4294967296) (hr : 4294967296 ≤ r) : Z ≤ r * 4294967296 + x :=
  Nat.le_trans h (Nat.le_trans (Nat.mul_le_mul_right _ (Nat.le_trans (Nat.le_of_lt h0) hr)) (Nat.le_add_right _ _))
theorem dig_break {q y0 r x : Nat} (hq : q ≤ 4294967296) (h0 : y0 < 4294967296) (hr : 4294967296 ≤ r) : q * y0 ≤ r * 4294967296 + x := by
  have h1 := Nat.mul_le_mul_right y0 hq
  rw [Nat.mul_comm 4294967296 y0] at h1
  exact lin_brk h1 h0 hr
theorem lin_two {u Y y1 y0 q : Nat} (hu : u < Y + y0) (h0 : y0 < 4294967296) (h1 : 2147483648 ≤ y1) (h : Y + 2 * y1 ≤ u) : q ≤ 4294967297 := by omega
theorem dig_bd {u y1 y0 q : Nat} (hu : u < y1 * 4294967296 + y0) (h0 : y0 < 4294967296) (h1 : 2147483648 ≤ y1) (hq : q * y1 ≤ u) : q ≤ 4294967297 := by
  rcases Nat.lt_or_ge 4294967297 q with h | h
  · have h2 := Nat.mul_le_mul_right y1 (show 4294967298 ≤ q from h)
    have h3 : 4294967298 * y1 = y1 * 4294967296 + 2 * y1 := by rw [Nat.mul_comm, ← Nat.mul_comm y1 2, ← Nat.mul_add]
    rw [h3] at h2
    exact lin_two hu h0 h1 (Nat.le_trans h2 hq)
  · exact h
theorem dig_bd0 {u y1 y0 : Nat} (hu : u < y1 * 4294967296 + y0) (h0 : y0 < 4294967296) (h1 : 2147483648 ≤ y1) : u / y1 ≤ 4294967297 := dig_bd hu h0 h1 (Nat.div_mul_le_self u y1)
theorem lin_dm {A r V x : Nat} (h : A + r = V) : V * 4294967296 + x = A * 4294967296 + (r * 4294967296 + x) := by omega
theorem lin_sh {A q L r : Nat} (h : 18446744073709551616 * q + r = L) : (A + q) * 18446744073709551616 + r = A * 18446744073709551616 + L := by omega
theorem lin_sz {A r Z : Nat} (h : A * 18446744073709551616 + r < Z * 18446744073709551616) : A < Z := by omega
theorem lin_64 {u L : Nat} : (u * 4294967296 + L % 18446744073709551616 / 4294967296) * 4294967296 + L % 18446744073709551616 % 4294967296 = u * 18446744073709551616 + L % 18446744073709551616 := by omega
theorem lin_hl {hi lo y : Nat} (hy : hi < y) (hl : lo < 18446744073709551616) : hi * 18446744073709551616 + lo < y * 18446744073709551616 := by omega
/-- Two digits, one behind the other. -/
theorem two_digits (V x0 Y : Nat) (hY : 0 < Y) :
    (V * 4294967296 + x0) / Y = V / Y * 4294967296 + (V % Y * 4294967296 + x0) / Y ∧ (V * 4294967296 + x0) % Y = (V % Y * 4294967296 + x0) % Y := by
  have e : V * 4294967296 + x0 = Y * (V / Y * 4294967296) + (V % Y * 4294967296 + x0) := by
    rw [← Nat.mul_assoc]
    exact lin_dm (Nat.div_add_mod V Y)
  rw [e]
  exact ⟨Nat.mul_add_div hY _ _, Nat.mul_add_mod _ _ _⟩
/-- What Div64 does with shifted numbers: P is the power of two of the shift, Q what is left of 2^64. -/
theorem div_shift (hi lo y P Q : Nat) (hP : P * Q = 18446744073709551616) (hy : hi < y) (hl : lo < 18446744073709551616) :
    (hi * P + lo / Q) * 18446744073709551616 + lo * P % 18446744073709551616 = (hi * 18446744073709551616 + lo) * P ∧ hi * P + lo / Q < y * P := by
  have hP0 : 0 < P := Nat.pos_of_ne_zero fun h => by subst h; simp at hP
  have hQ0 : 0 < Q := Nat.pos_of_ne_zero fun h => by subst h; simp at hP
  have e1 : lo * P / 18446744073709551616 = lo / Q := by rw [← hP, Nat.mul_comm P Q, Nat.mul_div_mul_right _ _ hP0]
  have e2 := Nat.div_add_mod (lo * P) 18446744073709551616
  rw [e1] at e2
  have e3 : (hi * P + lo / Q) * 18446744073709551616 + lo * P % 18446744073709551616 = (hi * 18446744073709551616 + lo) * P := by
    rw [Nat.add_mul (hi * 18446744073709551616) lo P, Nat.mul_right_comm]
    exact lin_sh e2
  refine ⟨e3, ?_⟩
  have h1 : (hi * 18446744073709551616 + lo) * P < y * 18446744073709551616 * P := Nat.mul_lt_mul_of_pos_right (lin_hl hy hl) hP0
  rw [← e3, Nat.mul_right_comm y] at h1
  exact lin_sz h1
theorem div_all (hi lo y P Q : Nat) (hP : P * Q = 18446744073709551616) (hy : hi < y) (hl : lo < 18446744073709551616) (u x1 x0 : Nat)
    (hu : u = hi * P + lo / Q) (h1 : x1 = lo * P % 18446744073709551616 / 4294967296) (h0 : x0 = lo * P % 18446744073709551616 % 4294967296) :
    (u * 4294967296 + x1) / (y * P) * 4294967296 + ((u * 4294967296 + x1) % (y * P) * 4294967296 + x0) / (y * P) = (hi * 18446744073709551616 + lo) / y ∧
    ((u * 4294967296 + x1) % (y * P) * 4294967296 + x0) % (y * P) / P = (hi * 18446744073709551616 + lo) % y := by
  obtain ⟨e, _⟩ := div_shift hi lo y P Q hP hy hl
  have hP0 : 0 < P := Nat.pos_of_ne_zero fun h => by subst h; simp at hP
  have hy0 : 0 < y := by omega
  have hY : 0 < y * P := Nat.mul_pos hy0 hP0
  obtain ⟨t1, t2⟩ := two_digits (u * 4294967296 + x1) x0 (y * P) hY
  have e2 : (u * 4294967296 + x1) * 4294967296 + x0 = (hi * 18446744073709551616 + lo) * P := by
    rw [← e, ← hu, h1, h0]
    exact lin_64
  rw [e2] at t1 t2
  rw [← t1, ← t2, Nat.mul_div_mul_right _ _ hP0, Nat.mul_mod_mul_right, Nat.mul_div_cancel _ hP0]
  exact ⟨rfl, rfl⟩
end Dv
end Go.Proofs.YtafeigpmldgifaaDoor
/-
  The walk of math/bits.Div64.
-/
namespace Go.Proofs.YtafeigpmldgifaaDoor
namespace Dv
open Go.RowKit Lw

theorem len_aux : ∀ f x : Nat, x < 2 ^ f → x < 2 ^ Lib.bitLenAux f x ∧ (0 < x → 1 ≤ Lib.bitLenAux f x ∧ 2 ^ (Lib.bitLenAux f x - 1) ≤ x) ∧ Lib.bitLenAux f x ≤ f
  | 0, x, h => ⟨by simpa [Lib.bitLenAux] using h, fun g => by simp at h; omega, by simp [Lib.bitLenAux]⟩
  | f + 1, x, h => by
    have ih := len_aux f (x / 2) (by rw [Nat.pow_succ] at h; omega)
    by_cases hx : x = 0
    · subst hx
      simp [Lib.bitLenAux]
    · have e : Lib.bitLenAux (f + 1) x = 1 + Lib.bitLenAux f (x / 2) := by
        show (if x = 0 then 0 else 1 + Lib.bitLenAux f (x / 2)) = _
        rw [if_neg hx]
      rw [e]
      by_cases hx2 : x / 2 = 0
      · have h1 : x = 1 := by omega
        have z : Lib.bitLenAux f 0 = 0 := by cases f <;> simp [Lib.bitLenAux]
        rw [hx2, z, h1]
        exact ⟨by decide, fun _ => ⟨by decide, by decide⟩, by omega⟩
      · obtain ⟨i1, i2, i3⟩ := ih
        obtain ⟨j1, j2⟩ := i2 (by omega)
        obtain ⟨m, hm⟩ : ∃ m, Lib.bitLenAux f (x / 2) = m + 1 := ⟨Lib.bitLenAux f (x / 2) - 1, by omega⟩
        rw [hm] at i1 i3 j2 ⊢
        rw [Nat.add_sub_cancel] at j2
        refine ⟨by rw [Nat.add_comm, Nat.pow_succ]; omega, fun _ => ⟨by omega, ?_⟩, by omega⟩
        rw [Nat.add_sub_cancel_left, Nat.pow_succ]
        omega
theorem bitLen_pos {y : Nat} (h : 0 < y) (h2 : y < 2 ^ 64) : 2 ^ (Lib.bitLen y - 1) ≤ y ∧ y < 2 ^ Lib.bitLen y ∧ 1 ≤ Lib.bitLen y ∧ Lib.bitLen y ≤ 64 := by
  obtain ⟨a, b, c⟩ := len_aux 64 y h2
  obtain ⟨b1, b2⟩ := b h
  exact ⟨b2, a, b1, c⟩
/-- The shift that moves a number's highest bit to the top. -/
theorem shift_ex {y : Nat} (h : 0 < y) (h2 : y < 18446744073709551616) : ∃ s P Q : Nat, s = 64 - Lib.bitLen y ∧ s ≤ 63 ∧ P = 2 ^ s ∧ Q = 2 ^ (64 - s) ∧ P * Q = 18446744073709551616 ∧ 9223372036854775808 ≤ y * P ∧ y * P < 18446744073709551616 ∧ Lib.bitLen y ≤ 64 := by
  obtain ⟨b1, b2, b3, b4⟩ := bitLen_pos h h2
  refine ⟨64 - Lib.bitLen y, _, _, rfl, by omega, rfl, rfl, ?_, ?_, ?_, b4⟩
  · rw [← Nat.pow_add, show 64 - Lib.bitLen y + (64 - (64 - Lib.bitLen y)) = 64 by omega]
  · have := Nat.mul_le_mul_right (2 ^ (64 - Lib.bitLen y)) b1
    rw [← Nat.pow_add, show Lib.bitLen y - 1 + (64 - Lib.bitLen y) = 63 by omega] at this
    exact this
  · have := Nat.mul_lt_mul_of_pos_right b2 (show 0 < 2 ^ (64 - Lib.bitLen y) from Nat.pow_pos (by omega))
    rw [← Nat.pow_add, show Lib.bitLen y + (64 - Lib.bitLen y) = 64 by omega] at this
    exact this
/-! ### The walk's numbers, as naturals -/
theorem w_id {a : Nat} (h : a < 18446744073709551616) : IntKind.u64.wrap (a : Int) = (a : Int) := by rw [IntKind.wrap_u64]; omega
theorem w_mod (a : Nat) : IntKind.u64.wrap (a : Int) = ((a % 18446744073709551616 : Nat) : Int) := by rw [IntKind.wrap_u64]; omega
theorem w_mul {a b c : Nat} (h : a * b % 18446744073709551616 = c) : IntKind.u64.wrap ((a : Int) * (b : Int)) = (c : Int) := by
  rw [show (a : Int) * (b : Int) = ((a * b : Nat) : Int) from (Int.natCast_mul a b).symm, w_mod, h]
theorem w_add {a b c : Nat} (h : (a + b) % 18446744073709551616 = c) : IntKind.u64.wrap ((a : Int) + (b : Int)) = (c : Int) := by
  rw [show (a : Int) + (b : Int) = ((a + b : Nat) : Int) from (Int.natCast_add a b).symm, w_mod, h]
theorem w_sub {a b c : Nat} (hb : b < 18446744073709551616) (h : (a + 18446744073709551616 - b) % 18446744073709551616 = c) : IntKind.u64.wrap ((a : Int) - (b : Int)) = (c : Int) := by
  rw [IntKind.wrap_u64]; omega
theorem w_div {a b c : Nat} (h : a / b = c) (hc : c < 18446744073709551616) : IntKind.u64.wrap ((a : Int).tdiv (b : Int)) = (c : Int) := by
  rw [Int.tdiv_eq_ediv_of_nonneg (by omega), show (a : Int) / (b : Int) = ((a / b : Nat) : Int) from (Int.natCast_ediv a b).symm, h, w_id hc]
theorem and_mask (a : Nat) (ha : a < 18446744073709551616) : bits .and .u64 (a : Int) 4294967295 = ((a % 4294967296 : Nat) : Int) := by
  have h := bits_and_u64_nat a 4294967295 ha (by omega)
  have e : a &&& 4294967295 = a % 4294967296 := Nat.and_two_pow_sub_one_eq_mod a 32
  rw [e] at h
  exact h
/-! ### The walk -/
theorem dig_test {a b x y0 Z T T2 : Nat} (hx : x < 4294967296) (hy : y0 < 4294967296) (hb : b < 4294967296) (eZ : Z = a * y0 % 18446744073709551616) (eT : T = 4294967296 * b % 18446744073709551616) (eT2 : T2 = (T + x) % 18446744073709551616) :
    a < 4294967296 → (T2 < Z ↔ b * 4294967296 + x < a * y0) ∧ Z < 18446744073709551616 := fun ha => by
  have h1 : a * y0 < 18446744073709551616 := Nat.lt_of_le_of_lt (Nat.mul_le_mul (show a ≤ 4294967295 by omega) (show y0 ≤ 4294967295 by omega)) (by decide)
  rw [Nat.mod_eq_of_lt h1] at eZ
  omega
end Dv
end Go.Proofs.YtafeigpmldgifaaDoor
/-
  The walk of part of the reference: a product divided, rounded down.
-/
namespace Go.Proofs.YtafeigpmldgifaaDoor
namespace Dv
open Go.RowKit Lw

end Dv
end Go.Proofs.YtafeigpmldgifaaDoor
/-
  The day texts of times: Day of package moment.
-/
namespace Go.Proofs.YtafeigpmldgifaaDoor
namespace At
open Go.RowKit Lw Ap Go.Proofs.YtafeigpmldgifaaDoor.Mp Go.Proofs.YtafeigpmldgifaaDoor.Mw

def dbS (Y M D : Nat) : ByteArray := dS Y 4 ++ (⟨#[32]⟩ : ByteArray) ++ dS M 2 ++ (⟨#[32]⟩ : ByteArray) ++ dS D 2
def daytS (Y M D q d : Nat) : ByteArray := if 0 < d then dbS Y M D ++ ((⟨#[46]⟩ : ByteArray) ++ dS q d) else dbS Y M D
/-- The digits of the part of a day. -/
def fracQ (p L : Int) (d : Nat) : Nat := p.toNat * 10 ^ d / L.toNat
/-- What Day returns: the text, and the error. -/
def DayIs (t d : Int) (s : ByteArray) (c : Int) : Prop :=
  ((d < 0 ∨ 9 < d) ∧ s = ⟨#[]⟩ ∧ c = 2) ∨ (0 ≤ d ∧ d ≤ 9 ∧ (t < bgv (-10227) 1972 1 ∨ bgv 36525 2100 1 ≤ t) ∧ s = ⟨#[]⟩ ∧ c = 16) ∨
  (0 ≤ d ∧ d ≤ 9 ∧ bgv (-10227) 1972 1 ≤ t ∧ t < bgv 36525 2100 1 ∧ ∃ n y m z k, DayOf t n y m z k ∧ s = daytS y.toNat m.toNat (n - mo y m + 1).toNat (fracQ (t - bgv n y m) (bgv (n + 1) z k - bgv n y m) d.toNat) d.toNat ∧ c = 0)
theorem DayIs.uniq {t d : Int} {s s' : ByteArray} {c c' : Int} (a : DayIs t d s c) (b : DayIs t d s' c') : s = s' ∧ c = c' := by
  rcases a with ⟨a0, a1, a2⟩ | ⟨a0, a1, a2, a3, a4⟩ | ⟨a0, a1, a2, a3, n, y, m, z, k, a4, a5, a6⟩ <;> rcases b with ⟨b0, b1, b2⟩ | ⟨b0, b1, b2, b3, b4⟩ | ⟨b0, b1, b2, b3, n', y', m', z', k', b4, b5, b6⟩
  · exact ⟨by rw [a1, b1], by omega⟩
  · omega
  · omega
  · omega
  · exact ⟨by rw [a3, b3], by omega⟩
  · omega
  · omega
  · omega
  · obtain ⟨rfl, rfl, rfl, rfl, rfl⟩ := a4.uniq b4
    exact ⟨by rw [a5, b5], by omega⟩
def DayPost (t d : Int) (w : World) (e : Ending) (w' : World) : Prop := ∃ (s : ByteArray) (c : Int), e = .returned (.tuple #[.string s, .int .i64 c]) ∧ DayIs t d s c ∧ Below w.heap.size w w'
theorem zk_bd {t n y m z k : Int} (h : DayOf t n y m z k) : 1971 ≤ z ∧ z ≤ 2100 := by
  have a1 := h.y1
  have a2 := h.y2
  have a3 := h.ym.m1
  have a4 := h.ym.m12
  have a5 := h.zk.m1
  have a6 := h.zk.m12
  rcases next_ym h.ym h.zk with ⟨r1, _, _⟩ | ⟨r1, _⟩ <;> omega
/-- The part of the day that has passed, and the day's length, as naturals. -/
theorem part_nat {t n y m z k : Int} (h : DayOf t n y m z k) (d : Nat) (hd : d ≤ 9) : ∃ P L T : Nat, t - bgv n y m = P ∧ bgv (n + 1) z k - bgv n y m = L ∧ T = 10 ^ d ∧ P < L ∧ L ≤ 86401000000 ∧ 1 ≤ T ∧ T ≤ 1000000000 ∧ fracQ (t - bgv n y m) (bgv (n + 1) z k - bgv n y m) d = P * T / L ∧ P * T < L * 18446744073709551616 ∧ P * T / L < 10 ^ d ∧ P * T / L ≤ 1000000000 ∧
    L = (if n - mo y m + 1 = mo y (m + 1) - mo y m ∧ lps (12 * y + m) = lps (12 * y + m - 1) + 1 then 86401000000 else 86400000000) := by
  obtain ⟨p1, p2⟩ := h.pass
  have hi := h.hi
  have hw : wholeP y m (n - mo y m + 1) := ⟨h.y1, by have := h.y2; omega, h.ym.m1, h.ym.m12, by have := h.ym.lo; omega, by have := h.ym.hi; omega⟩
  have en : dn y m (n - mo y m + 1) = n := by rw [dn_mo]; omega
  have dl := day_len (z := z) (k := k) hw (by rw [en]; exact h.zk)
  rw [en] at dl
  obtain ⟨P, eP⟩ : ∃ P : Nat, t - bgv n y m = P := ⟨(t - bgv n y m).toNat, by omega⟩
  obtain ⟨L, eL⟩ : ∃ L : Nat, bgv (n + 1) z k - bgv n y m = L := ⟨(bgv (n + 1) z k - bgv n y m).toNat, by omega⟩
  have hPL : P < L := by omega
  have hL : L ≤ 86401000000 := by rcases dl with ⟨a, _⟩ | ⟨a, _⟩ <;> omega
  have T1 : 1 ≤ 10 ^ d := Nat.pow_pos (by omega)
  have T9 : 10 ^ d ≤ 1000000000 := by
    have h9 : ∀ r : Nat, r ≤ 9 → 10 ^ r ≤ 1000000000 := by decide
    exact h9 d hd
  have q1 : P * 10 ^ d / L < 10 ^ d := Nat.div_lt_of_lt_mul (Nat.mul_lt_mul_of_pos_right hPL T1)
  refine ⟨P, L, 10 ^ d, eP, eL, rfl, hPL, hL, T1, T9, ?_, ?_, q1, by omega, ?_⟩
  · unfold fracQ
    rw [eP, eL]
    rfl
  · exact Nat.lt_of_lt_of_le (Nat.mul_lt_mul_of_pos_right hPL T1) (Nat.mul_le_mul_left _ (by omega))
  · rcases dl with ⟨a, b⟩ | ⟨a, b⟩
    · unfold leapday at b
      rw [if_neg b]; omega
    · unfold leapday at b
      rw [if_pos b]; omega
end At
end Go.Proofs.YtafeigpmldgifaaDoor
/-
  Plain laws of MomentRounds: texts and times correspond; no walk here.
-/
namespace Go.Proofs.YtafeigpmldgifaaDoor
namespace At
open Go.RowKit Lw Ap Go.Proofs.YtafeigpmldgifaaDoor.Mp Go.Proofs.YtafeigpmldgifaaDoor.Mw

/-! ### Strings as lists -/
theorem toL_inj {s t : ByteArray} (h : s.data.toList = t.data.toList) : s = t := by
  cases s; cases t
  simp only at h
  rw [Array.toList_inj.1 h]
theorem ext_L (s : ByteArray) (i j : Nat) (hj : j ≤ s.size) : (s.extract i j).data.toList = (s.data.toList.drop i).take (j - i) := by
  simp
theorem bt_L (s : ByteArray) (k : Nat) (hk : k < s.size) : bt s k = ((s.data.toList.getD k 0).toNat : Int) := by
  rw [bt_of s k hk]
  have h : k < s.data.toList.length := by simpa using hk
  rw [List.getD_eq_getElem?_getD, List.getElem?_eq_getElem h]
  rfl
theorem app_L (a b : ByteArray) : (a ++ b).data.toList = a.data.toList ++ b.data.toList := by simp
theorem dS_L (n k : Nat) : (dS n k).data.toList = decL n k := rfl
/-- A digit. -/
abbrev isD (c : UInt8) : Prop := 48 ≤ (c.toNat : Int) ∧ (c.toNat : Int) ≤ 57
theorem num2 {a b : UInt8} (ha : isD a) (hb : isD b) : allD [a, b] ∧ 0 ≤ numL [a, b] ∧ numL [a, b] < 100 := by
  refine ⟨fun c hc => ?_, ?_⟩
  · simp only [List.mem_cons, List.not_mem_nil, or_false] at hc
    rcases hc with rfl | rfl
    · exact ha
    · exact hb
  · simp only [numL, List.foldl]; omega
theorem num4 {a b c d : UInt8} (ha : isD a) (hb : isD b) (hc : isD c) (hd : isD d) : allD [a, b, c, d] ∧ 0 ≤ numL [a, b, c, d] ∧ numL [a, b, c, d] < 10000 := by
  refine ⟨fun x hx => ?_, ?_⟩
  · simp only [List.mem_cons, List.not_mem_nil, or_false] at hx
    rcases hx with rfl | rfl | rfl | rfl
    · exact ha
    · exact hb
    · exact hc
    · exact hd
  · simp only [numL, List.foldl]; omega
/-- Digits are the digits of their number. -/
theorem dec_of {l : List UInt8} (h : allD l) : decL (numL l).toNat l.length = l := by
  have hb := numL_bd l l.length (Nat.le_refl _) (by rw [List.take_length]; exact h)
  rw [List.take_length] at hb
  obtain ⟨e1, e2⟩ := decL_num l.length (numL l).toNat
  refine num_inj l.length _ _ (decL_len _ _) rfl e2 h ?_
  rw [e1]
  have c : (numL l).toNat < 10 ^ l.length := by
    have := hb.2
    have e : ((10 ^ l.length : Nat) : Int) = 10 ^ l.length := by simp
    omega
  rw [Nat.mod_eq_of_lt c]
  omega
theorem dec_all (n k : Nat) : allD (decL n k) := (decL_num k n).2
theorem dec_val {n k : Nat} (h : n < 10 ^ k) : numV (decL n k) = n := by
  rw [numV_yes (dec_all n k), (decL_num k n).1, Nat.mod_eq_of_lt h]
theorem dec2 (n : Nat) : ∃ a b, decL n 2 = [a, b] ∧ isD a ∧ isD b := by
  refine ⟨_, _, rfl, ?_, ?_⟩
  · exact dec_all n 2 _ (by simp [decL])
  · exact dec_all n 2 _ (by simp [decL])
theorem dec4 (n : Nat) : ∃ a b c d, decL n 4 = [a, b, c, d] ∧ isD a ∧ isD b ∧ isD c ∧ isD d := by
  refine ⟨_, _, _, _, rfl, ?_, ?_, ?_, ?_⟩
  · exact dec_all n 4 _ (by simp [decL])
  · exact dec_all n 4 _ (by simp [decL])
  · exact dec_all n 4 _ (by simp [decL])
  · exact dec_all n 4 _ (by simp [decL])
/-- The first nineteen bytes, and the rest. -/
abbrev l19 (a b c d e f g h i j k l m n : UInt8) (r : List UInt8) : List UInt8 := a :: b :: c :: d :: 45 :: e :: f :: 45 :: g :: h :: 84 :: i :: j :: 58 :: k :: l :: 58 :: m :: n :: r
abbrev l10 (a b c d e f g h : UInt8) (r : List UInt8) : List UInt8 := a :: b :: c :: d :: 32 :: e :: f :: 32 :: g :: h :: r
theorem lt_19 {k : Nat} (h : k < 19) : k = 0 ∨ k = 1 ∨ k = 2 ∨ k = 3 ∨ k = 4 ∨ k = 5 ∨ k = 6 ∨ k = 7 ∨ k = 8 ∨ k = 9 ∨ k = 10 ∨ k = 11 ∨ k = 12 ∨ k = 13 ∨ k = 14 ∨ k = 15 ∨ k = 16 ∨ k = 17 ∨ k = 18 := by omega
theorem okD {s p : ByteArray} {k : Nat} (hk : k < s.size) (hp : bt p k = 48) (h : isD (s.data.toList.getD k 0)) : okAt s p k :=
  ⟨fun _ => by rw [bt_L s k hk]; exact h, fun g => absurd hp g⟩
theorem okC {s p : ByteArray} {k : Nat} (hk : k < s.size) (hp : ¬ bt p k = 48) (h : ((s.data.toList.getD k 0).toNat : Int) = bt p k) : okAt s p k :=
  ⟨fun g => absurd g hp, fun _ => by rw [bt_L s k hk]; exact h⟩
theorem like19 {s : ByteArray} {a b c d e f g h i j k l m n : UInt8} (hs : s.data.toList = l19 a b c d e f g h i j k l m n [])
    (ha : isD a) (hb : isD b) (hc : isD c) (hd : isD d) (he : isD e) (hf : isD f) (hg : isD g) (hh : isD h) (hi : isD i) (hj : isD j) (hk : isD k) (hl : isD l) (hm : isD m) (hn : isD n) : likeP s P19 := by
  have sz : s.size = 19 := by have := congrArg List.length hs; simpa using this
  refine ⟨sz, fun q hq => ?_⟩
  rw [sz] at hq
  rcases lt_19 hq with rfl | rfl | rfl | rfl | rfl | rfl | rfl | rfl | rfl | rfl | rfl | rfl | rfl | rfl | rfl | rfl | rfl | rfl | rfl
  all_goals first
    | (refine okD (by omega) (by decide) ?_; rw [hs]; assumption)
    | (refine okC (by omega) (by decide) ?_; rw [hs]; rfl)
theorem lt_10 {k : Nat} (h : k < 10) : k = 0 ∨ k = 1 ∨ k = 2 ∨ k = 3 ∨ k = 4 ∨ k = 5 ∨ k = 6 ∨ k = 7 ∨ k = 8 ∨ k = 9 := by omega
theorem like10 {s : ByteArray} {a b c d e f g h : UInt8} (hs : s.data.toList = l10 a b c d e f g h [])
    (ha : isD a) (hb : isD b) (hc : isD c) (hd : isD d) (he : isD e) (hf : isD f) (hg : isD g) (hh : isD h) : likeP s P10 := by
  have sz : s.size = 10 := by have := congrArg List.length hs; simpa using this
  refine ⟨sz, fun q hq => ?_⟩
  rw [sz] at hq
  rcases lt_10 hq with rfl | rfl | rfl | rfl | rfl | rfl | rfl | rfl | rfl | rfl
  all_goals first
    | (refine okD (by omega) (by decide) ?_; rw [hs]; assumption)
    | (refine okC (by omega) (by decide) ?_; rw [hs]; rfl)
theorem list_n (l : List UInt8) : ∀ n, n ≤ l.length → ∃ a r, l = a ++ r ∧ a.length = n := fun n h => ⟨l.take n, l.drop n, (List.take_append_drop n l).symm, by rw [List.length_take]; omega⟩
theorem u8_val {c : UInt8} {n : Nat} (hn : n < 256) (h : (c.toNat : Int) = n) : c = UInt8.ofNat n := by
  apply UInt8.toNat_inj.1
  rw [UInt8.toNat_ofNat_of_lt' (by simpa [UInt8.size] using hn)]
  omega
theorem at_d {s p : ByteArray} {k : Nat} (hl : likeP s p) (hk : k < s.size) (hp : bt p k = 48) : isD (s.data.toList.getD k 0) := by
  have := (hl.2 k hk).1 hp
  rwa [bt_L s k hk] at this
theorem at_c {s p : ByteArray} {k n : Nat} (hl : likeP s p) (hk : k < s.size) (hp : bt p k = (n : Int)) (h48 : n ≠ 48) (hn : n < 256) : s.data.toList.getD k 0 = UInt8.ofNat n := by
  have := (hl.2 k hk).2 (by omega)
  rw [bt_L s k hk, hp] at this
  exact u8_val hn this
/-- A string that begins as a text of a time does. -/
theorem split19 {s : ByteArray} (hn : 19 ≤ s.size) (hl : likeP (s.extract 0 19) P19) : ∃ a b c d e f g h i j k l m n r, s.data.toList = l19 a b c d e f g h i j k l m n r ∧
    isD a ∧ isD b ∧ isD c ∧ isD d ∧ isD e ∧ isD f ∧ isD g ∧ isD h ∧ isD i ∧ isD j ∧ isD k ∧ isD l ∧ isD m ∧ isD n := by
  have e0 := ext_L s 0 19 hn
  obtain ⟨p, r, hp, pl⟩ := list_n s.data.toList 19 (by simpa using hn)
  have e1 : (s.extract 0 19).data.toList = p := by
    rw [e0, hp, List.drop_zero, Nat.sub_zero, ← pl, List.take_left]
  have sz := hl.1
  rw [P19_size] at sz
  match p, pl with
  | [a, b, c, d, x1, e, f, x2, g, h, x3, i, j, x4, k, l, x5, m, n], _ =>
    have y1 := at_c (k := 4) (n := 45) hl (by omega) (by decide) (by decide) (by decide)
    have y2 := at_c (k := 7) (n := 45) hl (by omega) (by decide) (by decide) (by decide)
    have y3 := at_c (k := 10) (n := 84) hl (by omega) (by decide) (by decide) (by decide)
    have y4 := at_c (k := 13) (n := 58) hl (by omega) (by decide) (by decide) (by decide)
    have y5 := at_c (k := 16) (n := 58) hl (by omega) (by decide) (by decide) (by decide)
    have q0 := at_d (k := 0) hl (by omega) (by decide)
    have q1 := at_d (k := 1) hl (by omega) (by decide)
    have q2 := at_d (k := 2) hl (by omega) (by decide)
    have q3 := at_d (k := 3) hl (by omega) (by decide)
    have q5 := at_d (k := 5) hl (by omega) (by decide)
    have q6 := at_d (k := 6) hl (by omega) (by decide)
    have q8 := at_d (k := 8) hl (by omega) (by decide)
    have q9 := at_d (k := 9) hl (by omega) (by decide)
    have q11 := at_d (k := 11) hl (by omega) (by decide)
    have q12 := at_d (k := 12) hl (by omega) (by decide)
    have q14 := at_d (k := 14) hl (by omega) (by decide)
    have q15 := at_d (k := 15) hl (by omega) (by decide)
    have q17 := at_d (k := 17) hl (by omega) (by decide)
    have q18 := at_d (k := 18) hl (by omega) (by decide)
    rw [e1] at y1 y2 y3 y4 y5 q0 q1 q2 q3 q5 q6 q8 q9 q11 q12 q14 q15 q17 q18
    simp only [List.getD_cons_zero, List.getD_cons_succ] at y1 y2 y3 y4 y5 q0 q1 q2 q3 q5 q6 q8 q9 q11 q12 q14 q15 q17 q18
    subst y1 y2 y3 y4 y5
    exact ⟨a, b, c, d, e, f, g, h, i, j, k, l, m, n, r, hp, q0, q1, q2, q3, q5, q6, q8, q9, q11, q12, q14, q15, q17, q18⟩
theorem split10 {s : ByteArray} (hn : 10 ≤ s.size) (hl : likeP (s.extract 0 10) P10) : ∃ a b c d e f g h r, s.data.toList = l10 a b c d e f g h r ∧
    isD a ∧ isD b ∧ isD c ∧ isD d ∧ isD e ∧ isD f ∧ isD g ∧ isD h := by
  have e0 := ext_L s 0 10 hn
  obtain ⟨p, r, hp, pl⟩ := list_n s.data.toList 10 (by simpa using hn)
  have e1 : (s.extract 0 10).data.toList = p := by
    rw [e0, hp, List.drop_zero, Nat.sub_zero, ← pl, List.take_left]
  have sz := hl.1
  rw [P10_size] at sz
  match p, pl with
  | [a, b, c, d, x1, e, f, x2, g, h], _ =>
    have y1 := at_c (k := 4) (n := 32) hl (by omega) (by decide) (by decide) (by decide)
    have y2 := at_c (k := 7) (n := 32) hl (by omega) (by decide) (by decide) (by decide)
    have q0 := at_d (k := 0) hl (by omega) (by decide)
    have q1 := at_d (k := 1) hl (by omega) (by decide)
    have q2 := at_d (k := 2) hl (by omega) (by decide)
    have q3 := at_d (k := 3) hl (by omega) (by decide)
    have q5 := at_d (k := 5) hl (by omega) (by decide)
    have q6 := at_d (k := 6) hl (by omega) (by decide)
    have q8 := at_d (k := 8) hl (by omega) (by decide)
    have q9 := at_d (k := 9) hl (by omega) (by decide)
    rw [e1] at y1 y2 q0 q1 q2 q3 q5 q6 q8 q9
    simp only [List.getD_cons_zero, List.getD_cons_succ] at y1 y2 q0 q1 q2 q3 q5 q6 q8 q9
    subst y1 y2
    exact ⟨a, b, c, d, e, f, g, h, r, hp, q0, q1, q2, q3, q5, q6, q8, q9⟩
/-! ### The parts of such a string -/
theorem nm_L {s : ByteArray} {l : List UInt8} (hs : s.data.toList = l) (i j : Nat) (hj : j ≤ s.size) : nm s i j = numV ((l.drop i).take (j - i)) := by
  unfold nm
  rw [ext_L s i j hj, hs]
/-- The numbers of a text of a time. -/
theorem text_nums {s : ByteArray} {a b c d e f g h i j k l m n : UInt8} {r : List UInt8} (hs : s.data.toList = l19 a b c d e f g h i j k l m n r) :
    nm s 0 4 = numV [a, b, c, d] ∧ nm s 5 7 = numV [e, f] ∧ nm s 8 10 = numV [g, h] ∧ nm s 11 13 = numV [i, j] ∧ nm s 14 16 = numV [k, l] ∧ nm s 17 19 = numV [m, n] := by
  have sz : 19 ≤ s.size := by have := congrArg List.length hs; simp at this; omega
  refine ⟨?_, ?_, ?_, ?_, ?_, ?_⟩ <;> rw [nm_L hs _ _ (by omega)] <;> rfl
theorem day_nums {s : ByteArray} {a b c d e f g h : UInt8} {r : List UInt8} (hs : s.data.toList = l10 a b c d e f g h r) :
    nm s 0 4 = numV [a, b, c, d] ∧ nm s 5 7 = numV [e, f] ∧ nm s 8 10 = numV [g, h] := by
  have sz : 10 ≤ s.size := by have := congrArg List.length hs; simp at this; omega
  refine ⟨?_, ?_, ?_⟩ <;> rw [nm_L hs _ _ (by omega)] <;> rfl
theorem base_L (Y M D H I S : Nat) : (baseS Y M D H I S).data.toList = decL Y 4 ++ (45 :: (decL M 2 ++ (45 :: (decL D 2 ++ (84 :: (decL H 2 ++ (58 :: (decL I 2 ++ (58 :: decL S 2))))))))) := by
  unfold baseS
  simp only [app_L, dS_L, List.append_assoc]
  rfl
theorem text_L (Y M D H I S U d : Nat) : (textS Y M D H I S U d).data.toList = decL Y 4 ++ (45 :: (decL M 2 ++ (45 :: (decL D 2 ++ (84 :: (decL H 2 ++ (58 :: (decL I 2 ++ (58 :: (decL S 2 ++ ((if 0 < d then 46 :: (decL U 6).take d else []) ++ [90]))))))))))) := by
  unfold textS
  by_cases h : 0 < d
  · rw [if_pos h, if_pos h]
    simp only [app_L, base_L, List.append_assoc, List.cons_append]
    have e : ((dS U 6).extract 0 d).data.toList = (decL U 6).take d := by
      by_cases h6 : d ≤ 6
      · rw [ext_L _ _ _ (by rw [dS_size]; exact h6)]; rfl
      · simp [dS_L]
    rw [e]
    rfl
  · rw [if_neg h, if_neg h]
    simp only [app_L, base_L, List.append_assoc, List.cons_append]
    rfl
theorem dayt_L (Y M D q d : Nat) : (daytS Y M D q d).data.toList = decL Y 4 ++ (32 :: (decL M 2 ++ (32 :: (decL D 2 ++ (if 0 < d then 46 :: decL q d else []))))) := by
  unfold daytS dbS
  by_cases h : 0 < d
  · rw [if_pos h, if_pos h]
    simp only [app_L, dS_L, List.append_assoc]
    rfl
  · rw [if_neg h, if_neg h]
    simp only [app_L, dS_L, List.append_assoc, List.append_nil]
    rfl
end At
end Go.Proofs.YtafeigpmldgifaaDoor
/-
  Reading numbers between separators: fields of package moment and its function literal.
-/
namespace Go.Proofs.YtafeigpmldgifaaDoor
namespace Ap
open Go.RowKit Lw

theorem owns_set {w : World} {base : Nat} {e : TypeId} {g n cap : Nat} {xs : List Value} {u : Value} (h : w.ownsRow base e 1 (.slice (some ⟨g, 0, none⟩) n cap) n (xs ++ [u])) (u' : Value) :
    (w.setCell ⟨g, xs.length, none⟩ u').ownsRow base e 1 (.slice (some ⟨g, 0, none⟩) n cap) n (xs ++ [u']) := by
  obtain ⟨h1, h2⟩ := h
  refine ⟨by simpa using h1, ?_⟩
  rcases h2 with ⟨h2, _⟩ | ⟨g', cap', cur, hv, hg, hh, hc1, hc2, hsz, ht⟩
  · cases h2
  · cases hv
    refine Or.inr ⟨g, cap, cur.set! xs.length u', rfl, hg, ?_, hc1, hc2, by simpa using hsz, ?_⟩
    · have hlt := lt_of_block hh
      have h' : w.heap[g] = .cells cur e (0, 0) := by simpa [Array.getElem?_eq_getElem hlt] using hh
      show (w.heap.modify g _)[g]? = _
      rw [Array.getElem?_eq_getElem (by simpa using hlt), Array.getElem_modify_self, h']
      rfl
    · have hn : n = xs.length + 1 := by simpa using h1.symm
      subst hn
      simp only [Nat.mul_one] at ht ⊢
      rw [Array.set!_eq_setIfInBounds, Array.toList_setIfInBounds]
      have hl : xs.length < cur.toList.length := by simp at hsz ⊢; omega
      rw [List.take_set, ht]
      simp
theorem info_int : (Tryd.prog.info? 3).map (fun i => (i.zero, i.size, i.bytes)) = some (some (.int .i64 0), 1, 8) := by kernel_rfl
end Ap
end Go.Proofs.YtafeigpmldgifaaDoor
/-
  The walk of fields of package moment.
-/
namespace Go.Proofs.YtafeigpmldgifaaDoor
namespace Ap
open Go.RowKit Lw

/-- What fields returns: the numbers, or that the string does not follow the pattern. -/
def FldPost (s p : ByteArray) (w : World) (e : Ending) (w' : World) : Prop := Below w.heap.size w w' ∧
  ((likeP s p ∧ ∃ v, e = .returned (.tuple #[v, .bool true]) ∧ w'.ownsRow (w.heap.size + 4) 3 1 v (grpL s p s.size).length ((grpL s p s.size).map (Value.int .i64))) ∨
   (¬ likeP s p ∧ e = .returned (.tuple #[.slice none 0 0, .bool false])))
end Ap
end Go.Proofs.YtafeigpmldgifaaDoor
/-
  The walk of Parse of package moment.
-/
namespace Go.Proofs.YtafeigpmldgifaaDoor
namespace Ap
open Go.RowKit Lw Go.Proofs.YtafeigpmldgifaaDoor.Mp

theorem digs {h p : ByteArray} {i j : Nat} (hl : likeP h p) (hj : j ≤ h.size) (hp : ∀ k, i ≤ k → k < j → bt p k = 48) : allD (h.extract i j).data.toList := by
  rw [allD_bt]
  intro k hk
  rw [size_ext h i j hj] at hk
  rw [bt_ext h i j k hj (by omega)]
  exact (hl.2 (i + k) (by omega)).1 (hp (i + k) (by omega) (by omega))
theorem P19_d : ∀ k, k < 19 → (bt P19 k = 48 ↔ ¬ (k = 4 ∨ k = 7 ∨ k = 10 ∨ k = 13 ∨ k = 16)) := by decide
theorem P10_d : ∀ k, k < 10 → (bt P10 k = 48 ↔ ¬ (k = 4 ∨ k = 7)) := by decide
theorem grp19 (h : ByteArray) (hs : h.size = 19) : grpL h P19 19 = [numL (h.extract 0 4).data.toList, numL (h.extract 5 7).data.toList, numL (h.extract 8 10).data.toList, numL (h.extract 11 13).data.toList, numL (h.extract 14 16).data.toList, numL (h.extract 17 19).data.toList] := by
  have d : ∀ i n, i + n ≤ 19 → (¬ (i ≤ 4 ∧ 4 < i + n) ∧ ¬ (i ≤ 7 ∧ 7 < i + n) ∧ ¬ (i ≤ 10 ∧ 10 < i + n) ∧ ¬ (i ≤ 13 ∧ 13 < i + n) ∧ ¬ (i ≤ 16 ∧ 16 < i + n)) → ∀ j, i ≤ j → j < i + n → bt P19 j = 48 := fun i n h1 h2 j a b => (P19_d j (by omega)).2 (by omega)
  have n : ∀ k, k < 19 → (k = 4 ∨ k = 7 ∨ k = 10 ∨ k = 13 ∨ k = 16) → ¬ bt P19 k = 48 := fun k hk h e => (P19_d k hk).1 e h
  have r0 := grp_run h P19 0 rfl 4 (by omega) (by omega) (d 0 4 (by omega) (by omega))
  have r1 := grp_run h P19 5 (decide_eq_false (n 4 (by omega) (by omega))) 2 (by omega) (by omega) (d 5 2 (by omega) (by omega))
  have r2 := grp_run h P19 8 (decide_eq_false (n 7 (by omega) (by omega))) 2 (by omega) (by omega) (d 8 2 (by omega) (by omega))
  have r3 := grp_run h P19 11 (decide_eq_false (n 10 (by omega) (by omega))) 2 (by omega) (by omega) (d 11 2 (by omega) (by omega))
  have r4 := grp_run h P19 14 (decide_eq_false (n 13 (by omega) (by omega))) 2 (by omega) (by omega) (d 14 2 (by omega) (by omega))
  have r5 := grp_run h P19 17 (decide_eq_false (n 16 (by omega) (by omega))) 2 (by omega) (by omega) (d 17 2 (by omega) (by omega))
  have s4 := grp_skip (s := h) (n 4 (by omega) (by omega))
  have s7 := grp_skip (s := h) (n 7 (by omega) (by omega))
  have s10 := grp_skip (s := h) (n 10 (by omega) (by omega))
  have s13 := grp_skip (s := h) (n 13 (by omega) (by omega))
  have s16 := grp_skip (s := h) (n 16 (by omega) (by omega))
  simp only [Nat.reduceAdd] at r0 r1 r2 r3 r4 r5 s4 s7 s10 s13 s16
  rw [r5, s16, r4, s13, r3, s10, r2, s7, r1, s4, r0]
  rfl
theorem grp10 (h : ByteArray) (hs : h.size = 10) : grpL h P10 10 = [numL (h.extract 0 4).data.toList, numL (h.extract 5 7).data.toList, numL (h.extract 8 10).data.toList] := by
  have d : ∀ i n, i + n ≤ 10 → (¬ (i ≤ 4 ∧ 4 < i + n) ∧ ¬ (i ≤ 7 ∧ 7 < i + n)) → ∀ j, i ≤ j → j < i + n → bt P10 j = 48 := fun i n h1 h2 j a b => (P10_d j (by omega)).2 (by omega)
  have n : ∀ k, k < 10 → (k = 4 ∨ k = 7) → ¬ bt P10 k = 48 := fun k hk h e => (P10_d k hk).1 e h
  have r0 := grp_run h P10 0 rfl 4 (by omega) (by omega) (d 0 4 (by omega) (by omega))
  have r1 := grp_run h P10 5 (decide_eq_false (n 4 (by omega) (by omega))) 2 (by omega) (by omega) (d 5 2 (by omega) (by omega))
  have r2 := grp_run h P10 8 (decide_eq_false (n 7 (by omega) (by omega))) 2 (by omega) (by omega) (d 8 2 (by omega) (by omega))
  have s4 := grp_skip (s := h) (n 4 (by omega) (by omega))
  have s7 := grp_skip (s := h) (n 7 (by omega) (by omega))
  simp only [Nat.reduceAdd] at r0 r1 r2 s4 s7
  rw [r2, s7, r1, s4, r0]
  rfl
theorem nm_of {s p : ByteArray} {m i j : Nat} (hl : likeP (s.extract 0 m) p) (hm : m ≤ s.size) (hj : j ≤ m) (hp : ∀ k, i ≤ k → k < j → bt p k = 48) : numL ((s.extract 0 m).extract i j).data.toList = nm s i j := by
  have hs : (s.extract 0 m).size = m := by rw [size_ext s _ _ hm]; omega
  have d := digs hl (by omega) hp
  have e : (s.extract 0 m).extract i j = s.extract i j := by rw [ByteArray.extract_extract]; congr 1 <;> omega
  rw [e] at d ⊢
  exact (numV_yes d).symm
theorem vals19 {s : ByteArray} (hl : likeP (s.extract 0 19) P19) (hs : 19 ≤ s.size) : grpL (s.extract 0 19) P19 (s.extract 0 19).size = [nm s 0 4, nm s 5 7, nm s 8 10, nm s 11 13, nm s 14 16, nm s 17 19] := by
  have h19 : (s.extract 0 19).size = 19 := by rw [size_ext s _ _ hs]
  have d : ∀ i j, j ≤ 19 → (¬ (i ≤ 4 ∧ 4 < j) ∧ ¬ (i ≤ 7 ∧ 7 < j) ∧ ¬ (i ≤ 10 ∧ 10 < j) ∧ ¬ (i ≤ 13 ∧ 13 < j) ∧ ¬ (i ≤ 16 ∧ 16 < j)) → ∀ k, i ≤ k → k < j → bt P19 k = 48 := fun i j h1 h2 k a b => (P19_d k (by omega)).2 (by omega)
  rw [h19, grp19 _ h19]
  rw [nm_of hl hs (by omega) (d 0 4 (by omega) (by omega)), nm_of hl hs (by omega) (d 5 7 (by omega) (by omega)), nm_of hl hs (by omega) (d 8 10 (by omega) (by omega)), nm_of hl hs (by omega) (d 11 13 (by omega) (by omega)), nm_of hl hs (by omega) (d 14 16 (by omega) (by omega)), nm_of hl hs (by omega) (d 17 19 (by omega) (by omega))]
theorem vals10 {s : ByteArray} (hl : likeP (s.extract 0 10) P10) (hs : 10 ≤ s.size) : grpL (s.extract 0 10) P10 (s.extract 0 10).size = [nm s 0 4, nm s 5 7, nm s 8 10] := by
  have h10 : (s.extract 0 10).size = 10 := by rw [size_ext s _ _ hs]
  have d : ∀ i j, j ≤ 10 → (¬ (i ≤ 4 ∧ 4 < j) ∧ ¬ (i ≤ 7 ∧ 7 < j)) → ∀ k, i ≤ k → k < j → bt P10 k = 48 := fun i j h1 h2 k a b => (P10_d k (by omega)).2 (by omega)
  rw [h10, grp10 _ h10]
  rw [nm_of hl hs (by omega) (d 0 4 (by omega) (by omega)), nm_of hl hs (by omega) (d 5 7 (by omega) (by omega)), nm_of hl hs (by omega) (d 8 10 (by omega) (by omega))]
theorem run19 : ∀ k, k < P19.size → runAt P19 k ≤ 8 := by decide
theorem run10 : ∀ k, k < P10.size → runAt P10 k ≤ 8 := by decide
theorem run6 : ∀ k, k < P6.size → runAt P6 k ≤ 8 := by decide
theorem row_cells {w : World} {base : Nat} {e : TypeId} {v : Value} {n : Nat} {xs : List Value} (h : w.ownsRow base e 1 v n xs) (hn : 0 < n) :
    ∃ g cap, v = .slice (some ⟨g, 0, none⟩) n cap ∧ g < w.heap.size ∧ ∀ j u, xs[j]? = some u → w.cell? ⟨g, j, none⟩ = some u := by
  obtain ⟨g, cap, rfl, _, hg⟩ := h.form hn
  refine ⟨g, cap, rfl, hg, fun j u hu => ?_⟩
  have ce := h.cells (g := g) rfl j u hu
  have ae : (⟨g, 0, none⟩ : Addr).add j = ⟨g, j, none⟩ := by
    unfold Addr.add
    split
    · simp [*]
    · simp
  rwa [ae] at ce
theorem empty_yes {t : ByteArray} (h : t.size = 0) : t.toList.isEmpty = true := by
  rw [Lib.toList_data, List.isEmpty_iff_length_eq_zero]; simpa using h
theorem empty_no {t : ByteArray} (h : t.size ≠ 0) : t.toList.isEmpty = false := by
  rw [Lib.toList_data, Bool.eq_false_iff, ne_eq, List.isEmpty_iff_length_eq_zero]; simpa using h
def ParsePost (s : ByteArray) (w : World) (e : Ending) (w' : World) : Prop := ∃ t c : Int, e = .returned (.tuple #[.int .i64 t, .int .i64 c]) ∧ ParseIs s t c ∧ Below w.heap.size w w'
theorem parse_not {s : ByteArray} (h : ¬ progT s) : ParseIs s 0 12 := Or.inr ⟨fun g => h (text_prog g.1), rfl, rfl⟩
end Ap
end Go.Proofs.YtafeigpmldgifaaDoor
/-
  What ParseDay calls: slices.ContainsFunc at bytes, strconv.ParseUint at digits; and what its text says.
-/
namespace Go.Proofs.YtafeigpmldgifaaDoor
namespace Ap
open Go.RowKit Lw Go.Proofs.YtafeigpmldgifaaDoor.Mp

/-- The bytes of a string in a block. -/
def Held (s : ByteArray) (B : Nat) (w' : World) : Prop := B < w'.heap.size ∧ ∀ j (h : j < s.size), w'.cell? ⟨B, j, none⟩ = some (.int .u8 (s[j].toNat : Int))
theorem bytes_in (w : World) (s : ByteArray) : ∃ (W : World) (cap : Nat), (convert 9 58 (.string s)).run Tryd.prog w = .ok (.slice (some ⟨w.heap.size, 0, none⟩) s.size cap) W ∧ Held s w.heap.size W ∧ Below w.heap.size w W ∧ s.size ≤ cap := by
  refine ⟨_, _, run_bytes_of_string (P := Tryd.prog) w 9 58 5 s Tryd.underlying9 Tryd.underlying58 Tryd.underlying5, ⟨by simp, fun j hj => ?_⟩, ((Below.refl _ w).drew).alloc (Nat.le_refl _) _, ?_⟩
  · rw [cell_of_row (World.alloc _ _) w.heap.size j (bytesRow s (grownCap w s.size 0 5)) 5 ((bytesRow s (grownCap w s.size 0 5)).size, (bytesRow s (grownCap w s.size 0 5)).size + 1) (by show (w.heap.push _)[w.heap.size]? = _; simp)]
    have hj' : j < s.data.size := hj
    unfold bytesRow
    rw [Array.getElem?_append_left (by simpa using hj'), Array.getElem?_map, Array.getElem?_eq_getElem hj']
    rfl
  · exact grownCap_ge w s.size 0 _
theorem allD_no {s : ByteArray} {k : Nat} (hk : k < s.size) (h : ¬ (48 ≤ (s[k].toNat : Int) ∧ (s[k].toNat : Int) ≤ 57)) : ¬ allD s.data.toList := fun g => by
  have := (allD_bt s).1 g k hk
  rw [bt_of s k hk] at this
  exact h this
theorem allD_yes {s : ByteArray} {k : Nat} (hk : ¬ k < s.size) (h : allD (s.data.toList.take k)) : allD s.data.toList := by rwa [take_all s k hk] at h
theorem numL_cons (l : List UInt8) : numL (48 :: l) = numL l := by
  have h48 : ((48 : UInt8).toNat : Int) = 48 := rfl
  unfold numL
  rw [List.foldl_cons, h48]
  rfl
/-- What ParseUint makes of digits. -/
theorem parse_m : ∀ (l : List UInt8) (acc : Nat), allD l → acc * 10 ^ l.length + 10 ^ l.length ≤ 1000000000000000000 → ∃ u : Nat, Lib.parseUintM (2 ^ 64 - 1) acc l = .ok u ∧ (u : Int) = l.foldl (fun n c => 10 * n + ((c.toNat : Int) - 48)) (acc : Int)
  | [], acc, _, _ => ⟨acc, rfl, rfl⟩
  | c :: r, acc, hd, hb => by
    obtain ⟨h1, h2⟩ := hd c (List.mem_cons_self ..)
    have hp : 1 ≤ 10 ^ r.length := Nat.pow_pos (by omega)
    rw [List.length_cons, Nat.pow_succ] at hb
    have hm : acc * (10 ^ r.length * 10) = acc * 10 * 10 ^ r.length := by rw [Nat.mul_comm (10 ^ r.length) 10, Nat.mul_assoc]
    rw [hm] at hb
    have hle : acc * 10 ≤ acc * 10 * 10 ^ r.length := Nat.le_mul_of_pos_right _ hp
    have hb2 : (acc * 10 + (c.toNat - 48)) * 10 ^ r.length + 10 ^ r.length ≤ 1000000000000000000 := by
      rw [Nat.add_mul]
      have : (c.toNat - 48) * 10 ^ r.length ≤ 9 * 10 ^ r.length := Nat.mul_le_mul_right _ (by omega)
      omega
    obtain ⟨u, hu, hv⟩ := parse_m r (acc * 10 + (c.toNat - 48)) (fun x hx => hd x (List.mem_cons_of_mem _ hx)) hb2
    refine ⟨u, ?_, ?_⟩
    · unfold Lib.parseUintM
      rw [if_pos ⟨by omega, by omega⟩, if_neg (by omega), if_neg (by omega)]
      exact hu
    · rw [hv, List.foldl_cons]
      congr 1
      omega
theorem parse_u (t : ByteArray) (h : allD t.data.toList) (hs : t.size ≤ 9) : ∃ u : Nat, Lib.parseUintB 64 ((⟨#[48]⟩ : ByteArray) ++ t).data.toList = .ok u ∧ (u : Int) = numL t.data.toList := by
  have e : ((⟨#[48]⟩ : ByteArray) ++ t).data.toList = 48 :: t.data.toList := by simp
  have hl : t.data.toList.length = t.size := rfl
  obtain ⟨u, hu, hv⟩ := parse_m (48 :: t.data.toList) 0 (fun c hc => by
    rcases List.mem_cons.1 hc with rfl | hc
    · exact ⟨by decide, by decide⟩
    · exact h c hc) (by
    rw [List.length_cons, hl]
    have : ∀ r : Nat, r ≤ 9 → 0 * 10 ^ (r + 1) + 10 ^ (r + 1) ≤ 1000000000000000000 := by decide
    exact this _ hs)
  refine ⟨u, ?_, ?_⟩
  · rw [e]
    unfold Lib.parseUintB
    rw [if_neg (by simp)]
    exact hu
  · rw [hv]
    exact numL_cons _
/-! ### What the program finds of a day text -/
def progD (s : ByteArray) : Prop := likeP (hdP s) P10 ∧ (ptS s < s.size → 1 ≤ (tlP s).size ∧ (tlP s).size ≤ 9) ∧ allD (tlP s).data.toList
theorem up_zero : upI (0 * 0) 1 = 0 := by decide
theorem prog_day {s : ByteArray} (g : progD s) : dayP s ∧ hdP s = s.extract 0 10 ∧ partV s = upI (numL (tlP s).data.toList * dayLen (nm s 0 4) (nm s 5 7) (nm s 8 10)) (tenI (tlP s).size) := by
  obtain ⟨lk, sz, ad⟩ := g
  have hq : ptS s = 10 := by
    have := lk.1
    rw [P10_size] at this
    have le := ptS_le s
    unfold hdP at this
    rw [size_ext _ _ _ le] at this
    omega
  have hle := ptS_le s
  have hh : hdP s = s.extract 0 10 := by unfold hdP; rw [hq]
  rw [hh] at lk
  by_cases hp : ptS s < s.size
  · have ht : tlP s = s.extract 11 s.size := by
      unfold tlP
      rw [if_pos hp, hq]
    have hs := sz hp
    rw [ht, size_ext s _ _ (by omega)] at hs
    have h46 := pt_at s hp
    rw [hq] at h46
    have ad' := ad
    rw [ht] at ad'
    refine ⟨⟨by omega, by omega, by omega, lk, fun _ => ⟨h46, (numV_nn _).2 ad'⟩⟩, hh, ?_⟩
    unfold partV
    rw [if_neg (by omega), ht, size_ext s _ _ (by omega)]
    have : nm s 11 s.size = numL (s.extract 11 s.size).data.toList := numV_yes ad'
    rw [this]
  · have ht : tlP s = ⟨#[]⟩ := if_neg hp
    refine ⟨⟨by omega, by omega, by omega, lk, fun h => absurd h (by omega)⟩, hh, ?_⟩
    unfold partV
    rw [if_pos (by omega), ht]
    have e0 : numL (⟨#[]⟩ : ByteArray).data.toList = 0 := rfl
    have e1 : tenI (⟨#[]⟩ : ByteArray).size = 1 := rfl
    rw [e0, e1, Int.zero_mul]
    rfl
theorem day_prog {s : ByteArray} (g : dayP s) : progD s := by
  obtain ⟨h10, h11, h20, lk, hm⟩ := g
  have no := like_no46 lk (by rw [size_ext s _ _ (by omega)]) P10_no
  have hq : ptS s = 10 := by
    refine pt_uniq (by omega) (fun j hj => ?_) (fun h => (hm h).1)
    have := no j (by omega)
    rw [bt_ext s 0 10 j (by omega) (by omega)] at this
    simpa using this
  have hh : hdP s = s.extract 0 10 := by unfold hdP; rw [hq]
  refine ⟨by rw [hh]; exact lk, fun hp => ?_, ?_⟩
  · have ht : tlP s = s.extract 11 s.size := by
      unfold tlP
      rw [if_pos hp, hq]
    rw [ht, size_ext s _ _ (by omega)]
    omega
  · by_cases hp : ptS s < s.size
    · have ht : tlP s = s.extract 11 s.size := by
        unfold tlP
        rw [if_pos hp, hq]
      rw [ht]
      exact (numV_nn _).1 (hm (by omega)).2
    · have ht : tlP s = ⟨#[]⟩ := if_neg hp
      rw [ht]
      exact fun c hc => absurd hc (by simp)
/-- The length of a day is the time between two beginnings. -/
theorem day_diff {y m d z k : Int} (hw : wholeP y m d) (hz : IsYM (dn y m d + 1) z k) : bgv (dn y m d + 1) z k - bgv (dn y m d) y m = dayLen y m d := by
  unfold dayLen
  rcases day_len hw hz with ⟨a, b⟩ | ⟨a, b⟩
  · unfold leapday at b
    rw [if_neg b]; omega
  · unfold leapday at b
    rw [if_pos b]; omega
theorem dayLen_bd (y m d : Int) : 86400000000 ≤ dayLen y m d ∧ dayLen y m d ≤ 86401000000 := by unfold dayLen; split <;> omega
theorem secs_len (y m d : Int) : Mw.secs y m d * 1000000 = dayLen y m d := by unfold Mw.secs dayLen; split <;> rfl
end Ap
end Go.Proofs.YtafeigpmldgifaaDoor
