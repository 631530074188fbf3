/-
  Lemmas and walks, texts joined: MBPl, MRdPl, MFld2, MParse, MDayA, MRdPl2, MPDay, MNmPl, RMake.
-/
import Derived.Deep.RegionHeld3
import Derived.LoopTactic
import Derived.Lib.AtoiErrMem
import Derived.Test.YtmgehfakcnmdnaaGreatDoorTa01
import Derived.Test.YtmgehfakcnmdnaaGreatDoorTa07
import Derived.Test.YtmgehfakcnmdnaaGreatDoorTa02
import Derived.Test.YtmgehfakcnmdnaaGreatDoorTa06
set_option linter.unusedSimpArgs false
set_option linter.unusedVariables false
/-
  Plain laws: ToUtc and FromUtc are inverse, and later times have later dates.
-/
namespace Go.Proofs.YtmgehfakcnmdnaaGreatDoor
namespace Mp

theorem dec_abs {x : Int} (h : 0 ≤ x) : 60 * (x / 60) + x % 60 = x := by omega
/-- The date of a time is a date, and its time is the time. -/
theorem to_from {t n y m z k : Int} (hd : DayOf t n y m z k) :
    fromOk y m (n - mo y m + 1) (mins (t - bgv n y m) / 60) (mins (t - bgv n y m) % 60) ((t - bgv n y m) / 1000000 - 60 * mins (t - bgv n y m)) ((t - bgv n y m) % 1000000) ∧
    timeOf y m (n - mo y m + 1) (mins (t - bgv n y m) / 60) (mins (t - bgv n y m) % 60) ((t - bgv n y m) / 1000000 - 60 * mins (t - bgv n y m)) ((t - bgv n y m) % 1000000) = t := by
  have hw : wholeP y m (n - mo y m + 1) := ⟨hd.y1, by have := hd.y2; omega, hd.ym.m1, hd.ym.m12, by have := hd.ym.lo; omega, by have := hd.ym.hi; omega⟩
  have e : dn y m (n - mo y m + 1) = n := by rw [dn_mo]; omega
  have dl := day_len (z := z) (k := k) hw (by rw [e]; exact hd.zk)
  rw [e] at dl
  obtain ⟨p0, p1⟩ := hd.pass
  have hi := hd.hi
  obtain ⟨p, hp⟩ : ∃ p, t - bgv n y m = p := ⟨_, rfl⟩
  rw [hp] at p0 p1 ⊢
  have mb : 0 ≤ mins p ∧ mins p ≤ 1439 := by unfold mins; split <;> omega
  constructor
  · refine ⟨hw, by omega, by omega, by omega, by omega, ?_, by omega, by omega, ?_⟩
    · unfold mins; split <;> omega
    · by_cases c : p / 1000000 / 60 ≤ 1439
      · left
        have em : mins p = p / 1000000 / 60 := if_pos c
        rw [em]; omega
      · right
        have em : mins p = 1439 := if_neg c
        rw [em]
        refine ⟨by omega, by omega, by omega, ?_⟩
        rcases dl with ⟨a, _⟩ | ⟨_, b⟩
        · omega
        · exact b
  · unfold timeOf
    rw [e]
    omega
/-- The time of a date has the date. -/
theorem from_to {y m d h i s u : Int} (ok : fromOk y m d h i s u) : ∃ z k, DayOf (timeOf y m d h i s u) (dn y m d) y m z k ∧
    d = dn y m d - mo y m + 1 ∧ h = mins (timeOf y m d h i s u - bgv (dn y m d) y m) / 60 ∧ i = mins (timeOf y m d h i s u - bgv (dn y m d) y m) % 60 ∧
    s = (timeOf y m d h i s u - bgv (dn y m d) y m) / 1000000 - 60 * mins (timeOf y m d h i s u - bgv (dn y m d) y m) ∧ u = (timeOf y m d h i s u - bgv (dn y m d) y m) % 1000000 := by
  obtain ⟨hw, h1, h2, h3, h4, h5, h6, h7, h8⟩ := ok
  have wr := wholeP_range hw
  obtain ⟨z, k, z1, z2, zk⟩ := ym_ex (dn y m d + 1) (by omega) (by omega)
  have dl := day_len hw zk
  have ep : timeOf y m d h i s u - bgv (dn y m d) y m = (3600 * h + 60 * i + s) * 1000000 + u := by unfold timeOf; omega
  refine ⟨z, k, ⟨wholeP_ym hw, zk, by omega, ?_, by omega, by omega, hw.1, by have := hw.2.1; omega⟩, by rw [dn_mo]; omega, ?_⟩
  · rcases h8 with c | ⟨c1, c2, c3, c4⟩
    · rcases dl with ⟨a, _⟩ | ⟨a, _⟩ <;> omega
    · rcases dl with ⟨_, b⟩ | ⟨a, _⟩
      · exact absurd c4 b
      · omega
  · rw [ep]
    rcases h8 with c | ⟨c1, c2, c3, c4⟩
    · have em : mins ((3600 * h + 60 * i + s) * 1000000 + u) = 60 * h + i := by
        unfold mins
        rw [if_pos (by omega)]
        omega
      rw [em]; omega
    · subst c1 c2 c3
      have em : mins ((3600 * 23 + 60 * 59 + 60) * 1000000 + u) = 1439 := by
        unfold mins
        rw [if_neg (by omega)]
      rw [em]; omega
theorem ToIs.back {t y m d h i s u : Int} (a : ToIs t y m d h i s u 0) : FromIs y m d h i s u t 0 := by
  rcases a with ⟨_, _, _, _, _, _, _, _, c⟩ | ⟨a1, a2, n, z, k, hd, rfl, rfl, rfl, rfl, rfl, _⟩
  · omega
  · obtain ⟨b1, b2⟩ := to_from hd
    exact Or.inl ⟨b1, b2.symm, rfl⟩
theorem FromIs.back {t y m d h i s u : Int} (a : FromIs y m d h i s u t 0) : ToIs t y m d h i s u 0 := by
  rcases a with ⟨ok, rfl, _⟩ | ⟨_, _, c⟩
  · obtain ⟨z, k, hd, e1, e2, e3, e4, e5⟩ := from_to ok
    refine Or.inr ⟨?_, ?_, dn y m d, z, k, hd, e1, e2, e3, e4, e5, rfl⟩
    · have := bgv_mono hd.ym ym_72 hd.n1; have := hd.lo; omega
    · have := bgv_mono ym_00 hd.zk (by have := hd.n2; omega); have := hd.hi; omega
  · omega
theorem ToIs.code {t y m d h i s u c : Int} (a : ToIs t y m d h i s u c) : c = 0 ∨ (c = 16 ∧ y = 0 ∧ m = 0 ∧ d = 0 ∧ h = 0 ∧ i = 0 ∧ s = 0 ∧ u = 0) := by
  rcases a with ⟨_, b1, b2, b3, b4, b5, b6, b7, c⟩ | ⟨_, _, _, _, _, _, _, _, _, _, _, c⟩
  · exact Or.inr ⟨c, b1, b2, b3, b4, b5, b6, b7⟩
  · exact Or.inl c
theorem FromIs.code {t y m d h i s u c : Int} (a : FromIs y m d h i s u t c) : c = 0 ∨ (c = 2 ∧ t = 0) := by
  rcases a with ⟨_, _, c⟩ | ⟨_, b, c⟩
  · exact Or.inl c
  · exact Or.inr ⟨c, b⟩
theorem DayOf.bd {t n y m z k : Int} (h : DayOf t n y m z k) : -1000000000000000 ≤ t ∧ t ≤ 4000000000000000 := by
  have a := bgv_bd n y m (by have := h.n1; omega) (by have := h.n2; omega)
  have b := bgv_bd (n + 1) z k (by have := h.n1; omega) (by have := h.n2; omega)
  have := h.lo
  have := h.hi
  omega
theorem FromIs.bd {t y m d h i s u c : Int} (a : FromIs y m d h i s u t c) : -1000000000000000 ≤ t ∧ t ≤ 4000000000000000 := by
  rcases a with ⟨ok, rfl, _⟩ | ⟨_, rfl, c⟩
  · obtain ⟨z, k, hd, _⟩ := from_to ok
    exact hd.bd
  · omega
theorem ToIs.bd {t y m d h i s u : Int} (a : ToIs t y m d h i s u 0) : -1000000000000000 ≤ t ∧ t ≤ 4000000000000000 := a.back.bd
/-! ### The order of dates -/
def lexB : List Int → List Int → Bool
  | a :: l, b :: r => if a = b then lexB l r else decide (a < b)
  | _, _ => false
theorem ym_lt {n y m n' y' m' : Int} (h : IsYM n y m) (g : IsYM n' y' m') (lt : n < n') : y < y' ∨ y = y' ∧ (m < m' ∨ m = m' ∧ n - mo y m + 1 < n' - mo y' m' + 1) := by
  rcases Int.lt_trichotomy y y' with c | c | c
  · exact Or.inl c
  · subst c
    rcases Int.lt_trichotomy m m' with e | e | e
    · exact Or.inr ⟨rfl, Or.inl e⟩
    · subst e
      exact Or.inr ⟨rfl, Or.inr ⟨rfl, by omega⟩⟩
    · have := mo_le y (m' + 1) m (by have := g.m1; omega) (by omega)
      have := h.lo
      have := g.hi
      omega
  · have := mo_year_le (y' + 1) y (by omega)
    have := h.ylo
    have := g.yhi
    omega
theorem lex_lt {t u y m d h i s c y' m' d' h' i' s' c' : Int} (a : ToIs t y m d h i s c 0) (b : ToIs u y' m' d' h' i' s' c' 0) (lt : t < u) :
    lexB [y, m, d, h, i, s, c] [y', m', d', h', i', s', c'] = true := by
  rcases a with ⟨_, _, _, _, _, _, _, _, k⟩ | ⟨a1, a2, n, z, k, hd, rfl, rfl, rfl, rfl, rfl, _⟩
  · omega
  rcases b with ⟨_, _, _, _, _, _, _, _, k⟩ | ⟨b1, b2, n', z', k', hd', rfl, rfl, rfl, rfl, rfl, _⟩
  · omega
  have le : n ≤ n' := hd'.le hd.ym (by have := hd.lo; omega)
  rcases Int.lt_or_eq_of_le le with c | c
  · rcases ym_lt hd.ym hd'.ym c with e | ⟨rfl, e | ⟨rfl, e⟩⟩
    · simp only [lexB]; rw [if_neg (by omega)]; exact decide_eq_true e
    · simp only [lexB, if_true]; rw [if_neg (by omega)]; exact decide_eq_true e
    · simp only [lexB, if_true]; rw [if_neg (by omega)]; exact decide_eq_true e
  · subst c
    obtain ⟨rfl, rfl⟩ := ym_uniq hd.ym hd'.ym
    obtain ⟨p0, p1⟩ := hd.pass
    obtain ⟨q0, q1⟩ := hd'.pass
    obtain ⟨p, hp⟩ : ∃ p, t - bgv n y m = p := ⟨_, rfl⟩
    obtain ⟨q, hq⟩ : ∃ q, u - bgv n y m = q := ⟨_, rfl⟩
    rw [hp] at p0 p1 ⊢
    rw [hq] at q0 q1 ⊢
    have pq : p < q := by omega
    clear hp hq hd hd' a1 a2 b1 b2 lt le
    have em : mins p = if p / 1000000 / 60 ≤ 1439 then p / 1000000 / 60 else 1439 := rfl
    have en : mins q = if q / 1000000 / 60 ≤ 1439 then q / 1000000 / 60 else 1439 := rfl
    have ml : mins p ≤ mins q := by rw [em, en]; split <;> split <;> omega
    have hm : mins p < mins q ∨ mins p = mins q := by omega
    simp only [lexB, if_true]
    rcases hm with c | c
    · by_cases e1 : mins p / 60 = mins q / 60
      · rw [if_pos e1, if_neg (by omega)]; exact decide_eq_true (by omega)
      · rw [if_neg e1]; exact decide_eq_true (by omega)
    · rw [c, if_pos rfl, if_pos rfl]
      by_cases e1 : p / 1000000 - 60 * mins q = q / 1000000 - 60 * mins q
      · rw [if_pos e1, if_neg (by omega)]; exact decide_eq_true (by omega)
      · rw [if_neg e1]; exact decide_eq_true (by omega)
theorem lexB_irr : ∀ l : List Int, lexB l l = false
  | [] => rfl
  | a :: l => by simp only [lexB, if_true]; exact lexB_irr l
theorem lexB_asymm : ∀ l r : List Int, lexB l r = true → lexB r l = false
  | [], _, h => by simp [lexB] at h
  | _ :: _, [], h => by simp [lexB] at h
  | a :: l, b :: r, h => by
    simp only [lexB] at *
    by_cases e : a = b
    · subst e
      rw [if_pos rfl] at h ⊢
      exact lexB_asymm l r h
    · rw [if_neg e] at h
      rw [if_neg (fun x => e x.symm)]
      have := of_decide_eq_true h
      exact decide_eq_false (by omega)
theorem lex_is {t u y m d h i s c y' m' d' h' i' s' c' : Int} (a : ToIs t y m d h i s c 0) (b : ToIs u y' m' d' h' i' s' c' 0) :
    lexB [y, m, d, h, i, s, c] [y', m', d', h', i', s', c'] = decide (t < u) := by
  rcases Int.lt_trichotomy t u with e | e | e
  · rw [lex_lt a b e, decide_eq_true e]
  · subst e
    obtain ⟨rfl, rfl, rfl, rfl, rfl, rfl, rfl, _⟩ := a.uniq b
    rw [lexB_irr, decide_eq_false (by omega)]
  · rw [lexB_asymm _ _ (lex_lt b a e), decide_eq_false (by omega)]
theorem date_eq {t u y m d h i s c y' m' d' h' i' s' c' : Int} (a : ToIs t y m d h i s c 0) (b : ToIs u y' m' d' h' i' s' c' 0) :
    (y = y' ∧ m = m' ∧ d = d' ∧ h = h' ∧ i = i' ∧ s = s' ∧ c = c') ↔ t = u := by
  constructor
  · rintro ⟨rfl, rfl, rfl, rfl, rfl, rfl, rfl⟩
    exact (a.back.uniq b.back).1
  · rintro rfl
    obtain ⟨e1, e2, e3, e4, e5, e6, e7, _⟩ := a.uniq b
    exact ⟨e1, e2, e3, e4, e5, e6, e7⟩
/-! ### Months -/
/-- The first second of a month. -/
theorem first_ok {y m : Int} (h : 1972 ≤ y) (g : y < 2100) (a : 1 ≤ m) (b : m ≤ 12) : FromIs y m 1 0 0 0 0 (bgv (mo y m) y m) 0 := by
  have e : timeOf y m 1 0 0 0 0 = bgv (mo y m) y m := by unfold timeOf mo; omega
  refine Or.inl ⟨⟨⟨h, g, a, b, by omega, by have := mo_len y m a b; omega⟩, by omega, by omega, by omega, by omega, by omega, by omega, by omega, Or.inl (by omega)⟩, e.symm, rfl⟩
theorem first_no {y m : Int} (g : ¬ y < 2100) : FromIs y m 1 0 0 0 0 0 2 := Or.inr ⟨fun ⟨⟨_, h, _⟩, _⟩ => g h, rfl, rfl⟩
/-- A time, its month and the next one. -/
theorem month_of {t y m d h i s u : Int} (a : ToIs t y m d h i s u 0) : 1972 ≤ y ∧ y < 2100 ∧ 1 ≤ m ∧ m ≤ 12 ∧ bgv (mo y m) y m ≤ t ∧
    (∀ z k, (z = y ∧ k = m + 1 ∧ m < 12) ∨ (z = y + 1 ∧ k = 1 ∧ m = 12) → 
      t < bgv (mo z k) z k ∧ mo y m + 28 ≤ mo z k ∧ mo z k ≤ mo y m + 31 ∧ bgv (mo z k) z k = bgv (mo y m) y m + (mo z k - mo y m) * 86400000000 + (lps (12 * z + k - 1) - lps (12 * y + m - 1)) * 1000000) := by
  rcases a with ⟨_, _, _, _, _, _, _, _, k⟩ | ⟨a1, a2, n, z, k, hd, rfl, rfl, rfl, rfl, rfl, _⟩
  · omega
  have m1 := hd.ym.m1
  have m12 := hd.ym.m12
  refine ⟨hd.y1, by have := hd.y2; omega, m1, m12, ?_, ?_⟩
  · have := bgv_mono hd.ym (ym_first y m m1 m12) hd.ym.lo
    have := hd.lo
    omega
  · intro z' k' hz
    have ml := mo_len y m m1 m12
    have e : mo z' k' = mo y (m + 1) := by
      rcases hz with ⟨rfl, rfl, _⟩ | ⟨rfl, rfl, rfl⟩
      · rfl
      · exact (mo_13 y).symm
    have hk : 1 ≤ k' ∧ k' ≤ 12 := by omega
    refine ⟨hd.gt (ym_first z' k' hk.1 hk.2) (by rw [e]; exact hd.ym.hi), by omega, by omega, ?_⟩
    unfold bgv
    rw [e]
    omega
end Mp
end Go.Proofs.YtmgehfakcnmdnaaGreatDoor
/-
  Plain laws of MomentRounds: texts and times correspond; no walk here.
-/
namespace Go.Proofs.YtmgehfakcnmdnaaGreatDoor
namespace At
open Go.RowKit Lw Ap Go.Proofs.YtmgehfakcnmdnaaGreatDoor.Mp Go.Proofs.YtmgehfakcnmdnaaGreatDoor.Mw

/-! ### Strings as lists -/
theorem toL_inj {s t : ByteArray} (h : s.data.toList = t.data.toList) : s = t := by
  cases s; cases t
  simp only at h
  rw [Array.toList_inj.1 h]
theorem ext_L (s : ByteArray) (i j : Nat) (hj : j ≤ s.size) : (s.extract i j).data.toList = (s.data.toList.drop i).take (j - i) := by
  simp
theorem bt_L (s : ByteArray) (k : Nat) (hk : k < s.size) : bt s k = ((s.data.toList.getD k 0).toNat : Int) := by
  rw [bt_of s k hk]
  have h : k < s.data.toList.length := by simpa using hk
  rw [List.getD_eq_getElem?_getD, List.getElem?_eq_getElem h]
  rfl
theorem app_L (a b : ByteArray) : (a ++ b).data.toList = a.data.toList ++ b.data.toList := by simp
theorem dS_L (n k : Nat) : (dS n k).data.toList = decL n k := rfl
/-- A digit. -/
abbrev isD (c : UInt8) : Prop := 48 ≤ (c.toNat : Int) ∧ (c.toNat : Int) ≤ 57
theorem num2 {a b : UInt8} (ha : isD a) (hb : isD b) : allD [a, b] ∧ 0 ≤ numL [a, b] ∧ numL [a, b] < 100 := by
  refine ⟨fun c hc => ?_, ?_⟩
  · simp only [List.mem_cons, List.not_mem_nil, or_false] at hc
    rcases hc with rfl | rfl
    · exact ha
    · exact hb
  · simp only [numL, List.foldl]; omega
theorem num4 {a b c d : UInt8} (ha : isD a) (hb : isD b) (hc : isD c) (hd : isD d) : allD [a, b, c, d] ∧ 0 ≤ numL [a, b, c, d] ∧ numL [a, b, c, d] < 10000 := by
  refine ⟨fun x hx => ?_, ?_⟩
  · simp only [List.mem_cons, List.not_mem_nil, or_false] at hx
    rcases hx with rfl | rfl | rfl | rfl
    · exact ha
    · exact hb
    · exact hc
    · exact hd
  · simp only [numL, List.foldl]; omega
/-- Digits are the digits of their number. -/
theorem dec_of {l : List UInt8} (h : allD l) : decL (numL l).toNat l.length = l := by
  have hb := numL_bd l l.length (Nat.le_refl _) (by rw [List.take_length]; exact h)
  rw [List.take_length] at hb
  obtain ⟨e1, e2⟩ := decL_num l.length (numL l).toNat
  refine num_inj l.length _ _ (decL_len _ _) rfl e2 h ?_
  rw [e1]
  have c : (numL l).toNat < 10 ^ l.length := by
    have := hb.2
    have e : ((10 ^ l.length : Nat) : Int) = 10 ^ l.length := by simp
    omega
  rw [Nat.mod_eq_of_lt c]
  omega
theorem dec_all (n k : Nat) : allD (decL n k) := (decL_num k n).2
theorem dec_val {n k : Nat} (h : n < 10 ^ k) : numV (decL n k) = n := by
  rw [numV_yes (dec_all n k), (decL_num k n).1, Nat.mod_eq_of_lt h]
theorem dec2 (n : Nat) : ∃ a b, decL n 2 = [a, b] ∧ isD a ∧ isD b := by
  refine ⟨_, _, rfl, ?_, ?_⟩
  · exact dec_all n 2 _ (by simp [decL])
  · exact dec_all n 2 _ (by simp [decL])
theorem dec4 (n : Nat) : ∃ a b c d, decL n 4 = [a, b, c, d] ∧ isD a ∧ isD b ∧ isD c ∧ isD d := by
  refine ⟨_, _, _, _, rfl, ?_, ?_, ?_, ?_⟩
  · exact dec_all n 4 _ (by simp [decL])
  · exact dec_all n 4 _ (by simp [decL])
  · exact dec_all n 4 _ (by simp [decL])
  · exact dec_all n 4 _ (by simp [decL])
/-- The first nineteen bytes, and the rest. -/
abbrev l19 (a b c d e f g h i j k l m n : UInt8) (r : List UInt8) : List UInt8 := a :: b :: c :: d :: 45 :: e :: f :: 45 :: g :: h :: 84 :: i :: j :: 58 :: k :: l :: 58 :: m :: n :: r
abbrev l10 (a b c d e f g h : UInt8) (r : List UInt8) : List UInt8 := a :: b :: c :: d :: 32 :: e :: f :: 32 :: g :: h :: r
theorem lt_19 {k : Nat} (h : k < 19) : k = 0 ∨ k = 1 ∨ k = 2 ∨ k = 3 ∨ k = 4 ∨ k = 5 ∨ k = 6 ∨ k = 7 ∨ k = 8 ∨ k = 9 ∨ k = 10 ∨ k = 11 ∨ k = 12 ∨ k = 13 ∨ k = 14 ∨ k = 15 ∨ k = 16 ∨ k = 17 ∨ k = 18 := by omega
theorem okD {s p : ByteArray} {k : Nat} (hk : k < s.size) (hp : bt p k = 48) (h : isD (s.data.toList.getD k 0)) : okAt s p k :=
  ⟨fun _ => by rw [bt_L s k hk]; exact h, fun g => absurd hp g⟩
theorem okC {s p : ByteArray} {k : Nat} (hk : k < s.size) (hp : ¬ bt p k = 48) (h : ((s.data.toList.getD k 0).toNat : Int) = bt p k) : okAt s p k :=
  ⟨fun g => absurd g hp, fun _ => by rw [bt_L s k hk]; exact h⟩
theorem like19 {s : ByteArray} {a b c d e f g h i j k l m n : UInt8} (hs : s.data.toList = l19 a b c d e f g h i j k l m n [])
    (ha : isD a) (hb : isD b) (hc : isD c) (hd : isD d) (he : isD e) (hf : isD f) (hg : isD g) (hh : isD h) (hi : isD i) (hj : isD j) (hk : isD k) (hl : isD l) (hm : isD m) (hn : isD n) : likeP s P19 := by
  have sz : s.size = 19 := by have := congrArg List.length hs; simpa using this
  refine ⟨sz, fun q hq => ?_⟩
  rw [sz] at hq
  rcases lt_19 hq with rfl | rfl | rfl | rfl | rfl | rfl | rfl | rfl | rfl | rfl | rfl | rfl | rfl | rfl | rfl | rfl | rfl | rfl | rfl
  all_goals first
    | (refine okD (by omega) (by decide) ?_; rw [hs]; assumption)
    | (refine okC (by omega) (by decide) ?_; rw [hs]; rfl)
theorem lt_10 {k : Nat} (h : k < 10) : k = 0 ∨ k = 1 ∨ k = 2 ∨ k = 3 ∨ k = 4 ∨ k = 5 ∨ k = 6 ∨ k = 7 ∨ k = 8 ∨ k = 9 := by omega
theorem like10 {s : ByteArray} {a b c d e f g h : UInt8} (hs : s.data.toList = l10 a b c d e f g h [])
    (ha : isD a) (hb : isD b) (hc : isD c) (hd : isD d) (he : isD e) (hf : isD f) (hg : isD g) (hh : isD h) : likeP s P10 := by
  have sz : s.size = 10 := by have := congrArg List.length hs; simpa using this
  refine ⟨sz, fun q hq => ?_⟩
  rw [sz] at hq
  rcases lt_10 hq with rfl | rfl | rfl | rfl | rfl | rfl | rfl | rfl | rfl | rfl
  all_goals first
    | (refine okD (by omega) (by decide) ?_; rw [hs]; assumption)
    | (refine okC (by omega) (by decide) ?_; rw [hs]; rfl)
theorem list_n (l : List UInt8) : ∀ n, n ≤ l.length → ∃ a r, l = a ++ r ∧ a.length = n := fun n h => ⟨l.take n, l.drop n, (List.take_append_drop n l).symm, by rw [List.length_take]; omega⟩
theorem u8_val {c : UInt8} {n : Nat} (hn : n < 256) (h : (c.toNat : Int) = n) : c = UInt8.ofNat n := by
  apply UInt8.toNat_inj.1
  rw [UInt8.toNat_ofNat_of_lt' (by simpa [UInt8.size] using hn)]
  omega
theorem at_d {s p : ByteArray} {k : Nat} (hl : likeP s p) (hk : k < s.size) (hp : bt p k = 48) : isD (s.data.toList.getD k 0) := by
  have := (hl.2 k hk).1 hp
  rwa [bt_L s k hk] at this
theorem at_c {s p : ByteArray} {k n : Nat} (hl : likeP s p) (hk : k < s.size) (hp : bt p k = (n : Int)) (h48 : n ≠ 48) (hn : n < 256) : s.data.toList.getD k 0 = UInt8.ofNat n := by
  have := (hl.2 k hk).2 (by omega)
  rw [bt_L s k hk, hp] at this
  exact u8_val hn this
/-- A string that begins as a text of a time does. -/
theorem split19 {s : ByteArray} (hn : 19 ≤ s.size) (hl : likeP (s.extract 0 19) P19) : ∃ a b c d e f g h i j k l m n r, s.data.toList = l19 a b c d e f g h i j k l m n r ∧
    isD a ∧ isD b ∧ isD c ∧ isD d ∧ isD e ∧ isD f ∧ isD g ∧ isD h ∧ isD i ∧ isD j ∧ isD k ∧ isD l ∧ isD m ∧ isD n := by
  have e0 := ext_L s 0 19 hn
  obtain ⟨p, r, hp, pl⟩ := list_n s.data.toList 19 (by simpa using hn)
  have e1 : (s.extract 0 19).data.toList = p := by
    rw [e0, hp, List.drop_zero, Nat.sub_zero, ← pl, List.take_left]
  have sz := hl.1
  rw [P19_size] at sz
  match p, pl with
  | [a, b, c, d, x1, e, f, x2, g, h, x3, i, j, x4, k, l, x5, m, n], _ =>
    have y1 := at_c (k := 4) (n := 45) hl (by omega) (by decide) (by decide) (by decide)
    have y2 := at_c (k := 7) (n := 45) hl (by omega) (by decide) (by decide) (by decide)
    have y3 := at_c (k := 10) (n := 84) hl (by omega) (by decide) (by decide) (by decide)
    have y4 := at_c (k := 13) (n := 58) hl (by omega) (by decide) (by decide) (by decide)
    have y5 := at_c (k := 16) (n := 58) hl (by omega) (by decide) (by decide) (by decide)
    have q0 := at_d (k := 0) hl (by omega) (by decide)
    have q1 := at_d (k := 1) hl (by omega) (by decide)
    have q2 := at_d (k := 2) hl (by omega) (by decide)
    have q3 := at_d (k := 3) hl (by omega) (by decide)
    have q5 := at_d (k := 5) hl (by omega) (by decide)
    have q6 := at_d (k := 6) hl (by omega) (by decide)
    have q8 := at_d (k := 8) hl (by omega) (by decide)
    have q9 := at_d (k := 9) hl (by omega) (by decide)
    have q11 := at_d (k := 11) hl (by omega) (by decide)
    have q12 := at_d (k := 12) hl (by omega) (by decide)
    have q14 := at_d (k := 14) hl (by omega) (by decide)
    have q15 := at_d (k := 15) hl (by omega) (by decide)
    have q17 := at_d (k := 17) hl (by omega) (by decide)
    have q18 := at_d (k := 18) hl (by omega) (by decide)
    rw [e1] at y1 y2 y3 y4 y5 q0 q1 q2 q3 q5 q6 q8 q9 q11 q12 q14 q15 q17 q18
    simp only [List.getD_cons_zero, List.getD_cons_succ] at y1 y2 y3 y4 y5 q0 q1 q2 q3 q5 q6 q8 q9 q11 q12 q14 q15 q17 q18
    subst y1 y2 y3 y4 y5
    exact ⟨a, b, c, d, e, f, g, h, i, j, k, l, m, n, r, hp, q0, q1, q2, q3, q5, q6, q8, q9, q11, q12, q14, q15, q17, q18⟩
theorem split10 {s : ByteArray} (hn : 10 ≤ s.size) (hl : likeP (s.extract 0 10) P10) : ∃ a b c d e f g h r, s.data.toList = l10 a b c d e f g h r ∧
    isD a ∧ isD b ∧ isD c ∧ isD d ∧ isD e ∧ isD f ∧ isD g ∧ isD h := by
  have e0 := ext_L s 0 10 hn
  obtain ⟨p, r, hp, pl⟩ := list_n s.data.toList 10 (by simpa using hn)
  have e1 : (s.extract 0 10).data.toList = p := by
    rw [e0, hp, List.drop_zero, Nat.sub_zero, ← pl, List.take_left]
  have sz := hl.1
  rw [P10_size] at sz
  match p, pl with
  | [a, b, c, d, x1, e, f, x2, g, h], _ =>
    have y1 := at_c (k := 4) (n := 32) hl (by omega) (by decide) (by decide) (by decide)
    have y2 := at_c (k := 7) (n := 32) hl (by omega) (by decide) (by decide) (by decide)
    have q0 := at_d (k := 0) hl (by omega) (by decide)
    have q1 := at_d (k := 1) hl (by omega) (by decide)
    have q2 := at_d (k := 2) hl (by omega) (by decide)
    have q3 := at_d (k := 3) hl (by omega) (by decide)
    have q5 := at_d (k := 5) hl (by omega) (by decide)
    have q6 := at_d (k := 6) hl (by omega) (by decide)
    have q8 := at_d (k := 8) hl (by omega) (by decide)
    have q9 := at_d (k := 9) hl (by omega) (by decide)
    rw [e1] at y1 y2 q0 q1 q2 q3 q5 q6 q8 q9
    simp only [List.getD_cons_zero, List.getD_cons_succ] at y1 y2 q0 q1 q2 q3 q5 q6 q8 q9
    subst y1 y2
    exact ⟨a, b, c, d, e, f, g, h, r, hp, q0, q1, q2, q3, q5, q6, q8, q9⟩
/-! ### The parts of such a string -/
theorem nm_L {s : ByteArray} {l : List UInt8} (hs : s.data.toList = l) (i j : Nat) (hj : j ≤ s.size) : nm s i j = numV ((l.drop i).take (j - i)) := by
  unfold nm
  rw [ext_L s i j hj, hs]
/-- The numbers of a text of a time. -/
theorem text_nums {s : ByteArray} {a b c d e f g h i j k l m n : UInt8} {r : List UInt8} (hs : s.data.toList = l19 a b c d e f g h i j k l m n r) :
    nm s 0 4 = numV [a, b, c, d] ∧ nm s 5 7 = numV [e, f] ∧ nm s 8 10 = numV [g, h] ∧ nm s 11 13 = numV [i, j] ∧ nm s 14 16 = numV [k, l] ∧ nm s 17 19 = numV [m, n] := by
  have sz : 19 ≤ s.size := by have := congrArg List.length hs; simp at this; omega
  refine ⟨?_, ?_, ?_, ?_, ?_, ?_⟩ <;> rw [nm_L hs _ _ (by omega)] <;> rfl
theorem day_nums {s : ByteArray} {a b c d e f g h : UInt8} {r : List UInt8} (hs : s.data.toList = l10 a b c d e f g h r) :
    nm s 0 4 = numV [a, b, c, d] ∧ nm s 5 7 = numV [e, f] ∧ nm s 8 10 = numV [g, h] := by
  have sz : 10 ≤ s.size := by have := congrArg List.length hs; simp at this; omega
  refine ⟨?_, ?_, ?_⟩ <;> rw [nm_L hs _ _ (by omega)] <;> rfl
theorem base_L (Y M D H I S : Nat) : (baseS Y M D H I S).data.toList = decL Y 4 ++ (45 :: (decL M 2 ++ (45 :: (decL D 2 ++ (84 :: (decL H 2 ++ (58 :: (decL I 2 ++ (58 :: decL S 2))))))))) := by
  unfold baseS
  simp only [app_L, dS_L, List.append_assoc]
  rfl
theorem text_L (Y M D H I S U d : Nat) : (textS Y M D H I S U d).data.toList = decL Y 4 ++ (45 :: (decL M 2 ++ (45 :: (decL D 2 ++ (84 :: (decL H 2 ++ (58 :: (decL I 2 ++ (58 :: (decL S 2 ++ ((if 0 < d then 46 :: (decL U 6).take d else []) ++ [90]))))))))))) := by
  unfold textS
  by_cases h : 0 < d
  · rw [if_pos h, if_pos h]
    simp only [app_L, base_L, List.append_assoc, List.cons_append]
    have e : ((dS U 6).extract 0 d).data.toList = (decL U 6).take d := by
      by_cases h6 : d ≤ 6
      · rw [ext_L _ _ _ (by rw [dS_size]; exact h6)]; rfl
      · simp [dS_L]
    rw [e]
    rfl
  · rw [if_neg h, if_neg h]
    simp only [app_L, base_L, List.append_assoc, List.cons_append]
    rfl
theorem dayt_L (Y M D q d : Nat) : (daytS Y M D q d).data.toList = decL Y 4 ++ (32 :: (decL M 2 ++ (32 :: (decL D 2 ++ (if 0 < d then 46 :: decL q d else []))))) := by
  unfold daytS dbS
  by_cases h : 0 < d
  · rw [if_pos h, if_pos h]
    simp only [app_L, dS_L, List.append_assoc]
    rfl
  · rw [if_neg h, if_neg h]
    simp only [app_L, dS_L, List.append_assoc, List.append_nil]
    rfl
end At
end Go.Proofs.YtmgehfakcnmdnaaGreatDoor
/-
  The walk of fields of package moment.
-/
namespace Go.Proofs.YtmgehfakcnmdnaaGreatDoor
namespace Ap
open Go.RowKit Lw

/-- What fields returns: the numbers, or that the string does not follow the pattern. -/
def FldPost (s p : ByteArray) (w : World) (e : Ending) (w' : World) : Prop := Below w.heap.size w w' ∧
  ((likeP s p ∧ ∃ v, e = .returned (.tuple #[v, .bool true]) ∧ w'.ownsRow (w.heap.size + 4) 3 1 v (grpL s p s.size).length ((grpL s p s.size).map (Value.int .i64))) ∨
   (¬ likeP s p ∧ e = .returned (.tuple #[.slice none 0 0, .bool false])))
theorem read_any (s p : ByteArray) (w0 w : World) (B : Nat) (k : Nat) (hs : k < s.size) (hp : k < p.size) (hS : FS s p w0 B (grpL s p k) (ins p k) w) (hl : likeTo s p k) (hr : runAt p k ≤ 8) (hk : k ≤ 900) :
    Calls Tryz.prog 91 #[.int .i64 k, .pointer (some ⟨B, 0, none⟩), .pointer (some ⟨B + 1, 0, none⟩), .pointer (some ⟨B + 3, 0, none⟩), .pointer (some ⟨B + 2, 0, none⟩)] w fun e w' => e = .returned (.bool (decide (okAt s p k))) ∧ FS s p w0 B (grpL s p (k + 1)) (ins p (k + 1)) w' := by
  have gl := grp_len s p k
  by_cases hb : bt p k = 48
  · have hi : ins p (k + 1) = true := decide_eq_true hb
    rw [hi]
    cases hc : ins p k with
    | false =>
      rw [hc] at hS
      rw [grp_new hb hc]
      exact read_new s p w0 w B (grpL s p k) k hs hp hS hb (by omega)
    | true =>
      rw [hc] at hS
      obtain ⟨X, v, e, h0, h1, _⟩ := grp_last s p k hl hc
      rw [grp_on hb hc e]
      rw [e] at hS gl
      have h8 : (10 : Int) ^ runAt p k ≤ 100000000 := by
        have : ∀ r : Nat, r ≤ 8 → (10 : Int) ^ r ≤ 100000000 := by decide
        exact this _ hr
      exact read_on s p w0 w B X v k hs hp hS hb h0 (by omega) (by simp at gl; omega)
  · have hi : ins p (k + 1) = false := decide_eq_false hb
    rw [hi, grp_skip hb]
    exact read_sep s p w0 w B (grpL s p k) (ins p k) k hs hp hS hb
set_option maxRecDepth 100000 in
set_option maxHeartbeats 2000000 in
theorem fields_any (s p : ByteArray) (w : World) (hs : p.size ≤ 100) (hz : s.size ≤ maxLen) (hr : ∀ k, k < p.size → runAt p k ≤ 8) :
    Calls Tryz.prog 62 #[.string s, .string p] w (FldPost s p w) := by
  by_cases hn : s.size = p.size
  · have i0 : ((s.size : Int) != (p.size : Int)) = false := by simp; omega
    have S0 : FS s p w w.heap.size [] false ((((w.alloc (.cells #[.string s] 9)).alloc (.cells #[.string p] 9)).alloc (.cells #[.slice none 0 0] 99)).alloc (.cells #[.bool false] 4)) := by
      have z1 : (w.alloc (.cells #[.string s] 9)).heap.size = w.heap.size + 1 := by simp
      have z2 : ((w.alloc (.cells #[.string s] 9)).alloc (.cells #[.string p] 9)).heap.size = w.heap.size + 2 := by simp
      have z3 : (((w.alloc (.cells #[.string s] 9)).alloc (.cells #[.string p] 9)).alloc (.cells #[.slice none 0 0] 99)).heap.size = w.heap.size + 3 := by simp
      have n0 := heap_alloc_new w (.cells #[.string s] 9)
      have n1 := heap_alloc_new (w.alloc (.cells #[.string s] 9)) (.cells #[.string p] 9)
      have n2 := heap_alloc_new ((w.alloc (.cells #[.string s] 9)).alloc (.cells #[.string p] 9)) (.cells #[.slice none 0 0] 99)
      have n3 := heap_alloc_new (((w.alloc (.cells #[.string s] 9)).alloc (.cells #[.string p] 9)).alloc (.cells #[.slice none 0 0] 99)) (.cells #[.bool false] 4)
      rw [z1] at n1
      rw [z2] at n2
      rw [z3] at n3
      refine ⟨?_, ?_, ⟨.slice none 0 0, ?_, World.ownsRow_nil _ _ _ _⟩, n3, ?_⟩
      · rw [heap_alloc_old _ _ (by omega), heap_alloc_old _ _ (by omega), heap_alloc_old _ _ (by omega)]; exact n0
      · rw [heap_alloc_old _ _ (by omega), heap_alloc_old _ _ (by omega)]; exact n1
      · rw [heap_alloc_old _ _ (by omega)]; exact n2
      · exact ((((Below.refl _ _).alloc (Nat.le_refl _) _).alloc (by omega) _).alloc (by omega) _).alloc (by omega) _
    have H0 := Lib.hid S0
    clear S0
    go_enter Tryz.func62, Tryz.ntmps62
    go_wp2_with fail
    go_loopw [18] (fun i wr => ∃ k : Nat, k ≤ s.size ∧ i = .int .i64 k ∧ FS s p w w.heap.size (grpL s p k) (ins p k) wr ∧ Hid (likeTo s p k)) (fun i _ => s.size - (intOf i).toNat)
    case atStart => exact ⟨0, Nat.zero_le _, rfl, H0.out, Lib.hid fun k hk => absurd hk (by omega)⟩
    case round =>
      obtain ⟨k, hk, rfl, S1, D⟩ := hrel
      by_cases hlt : k < s.size
      · have i1 : (k : Int) < (s.size : Int) := by omega
        have S2 := Lib.hid S1
        clear S1
        go_wp2_with fail
        refine (read_any s p w _ w.heap.size k hlt (by omega) S2.out D.out (hr k (by omega)) (by omega)).mono ?_
        rintro e w2 ⟨rfl, S3⟩
        have S4 := Lib.hid S3
        clear S3
        by_cases ho : okAt s p k
        · have D2 := Lib.hid (likeTo_s D.out ho)
          rw [decide_eq_true ho]
          go_wp2_with fail
          go_roundw
          case rel => exact ⟨k + 1, by omega, by go_num, S4.out, D2⟩
          case measure => simp [intOf]; omega
        · have N := Lib.hid (show ¬ likeP s p from fun g => ho (g.2 k hlt))
          rw [decide_eq_false ho]
          clear ho
          go_wp2_with fail
          go_ret2
          exact ⟨S4.out.below, Or.inr ⟨N.out, rfl⟩⟩
      · obtain rfl : k = s.size := by omega
        obtain ⟨v, hv, hown⟩ := S1.co
        have c2 := cell_of_one hv
        have Z := Lib.hid (And.intro S1.below hown)
        clear S1 hv hown
        go_wp2_with fail
        go_ret2
        exact ⟨Z.out.1, Or.inl ⟨⟨hn, D.out⟩, v, rfl, Z.out.2⟩⟩
  · have i0 : ((s.size : Int) != (p.size : Int)) = true := by simp; omega
    have hno : ¬ likeP s p := fun g => hn g.1
    go_enter Tryz.func62, Tryz.ntmps62
    go_wp2_with fail
    go_ret2
    exact ⟨((Below.refl _ _).alloc (Nat.le_refl _) _).alloc (by simp) _, Or.inr ⟨hno, rfl⟩⟩
end Ap
end Go.Proofs.YtmgehfakcnmdnaaGreatDoor
/-
  The walk of Parse of package moment.
-/
namespace Go.Proofs.YtmgehfakcnmdnaaGreatDoor
namespace Ap
open Go.RowKit Lw Go.Proofs.YtmgehfakcnmdnaaGreatDoor.Mp

theorem digs {h p : ByteArray} {i j : Nat} (hl : likeP h p) (hj : j ≤ h.size) (hp : ∀ k, i ≤ k → k < j → bt p k = 48) : allD (h.extract i j).data.toList := by
  rw [allD_bt]
  intro k hk
  rw [size_ext h i j hj] at hk
  rw [bt_ext h i j k hj (by omega)]
  exact (hl.2 (i + k) (by omega)).1 (hp (i + k) (by omega) (by omega))
theorem P19_d : ∀ k, k < 19 → (bt P19 k = 48 ↔ ¬ (k = 4 ∨ k = 7 ∨ k = 10 ∨ k = 13 ∨ k = 16)) := by decide
theorem P10_d : ∀ k, k < 10 → (bt P10 k = 48 ↔ ¬ (k = 4 ∨ k = 7)) := by decide
theorem grp19 (h : ByteArray) (hs : h.size = 19) : grpL h P19 19 = [numL (h.extract 0 4).data.toList, numL (h.extract 5 7).data.toList, numL (h.extract 8 10).data.toList, numL (h.extract 11 13).data.toList, numL (h.extract 14 16).data.toList, numL (h.extract 17 19).data.toList] := by
  have d : ∀ i n, i + n ≤ 19 → (¬ (i ≤ 4 ∧ 4 < i + n) ∧ ¬ (i ≤ 7 ∧ 7 < i + n) ∧ ¬ (i ≤ 10 ∧ 10 < i + n) ∧ ¬ (i ≤ 13 ∧ 13 < i + n) ∧ ¬ (i ≤ 16 ∧ 16 < i + n)) → ∀ j, i ≤ j → j < i + n → bt P19 j = 48 := fun i n h1 h2 j a b => (P19_d j (by omega)).2 (by omega)
  have n : ∀ k, k < 19 → (k = 4 ∨ k = 7 ∨ k = 10 ∨ k = 13 ∨ k = 16) → ¬ bt P19 k = 48 := fun k hk h e => (P19_d k hk).1 e h
  have r0 := grp_run h P19 0 rfl 4 (by omega) (by omega) (d 0 4 (by omega) (by omega))
  have r1 := grp_run h P19 5 (decide_eq_false (n 4 (by omega) (by omega))) 2 (by omega) (by omega) (d 5 2 (by omega) (by omega))
  have r2 := grp_run h P19 8 (decide_eq_false (n 7 (by omega) (by omega))) 2 (by omega) (by omega) (d 8 2 (by omega) (by omega))
  have r3 := grp_run h P19 11 (decide_eq_false (n 10 (by omega) (by omega))) 2 (by omega) (by omega) (d 11 2 (by omega) (by omega))
  have r4 := grp_run h P19 14 (decide_eq_false (n 13 (by omega) (by omega))) 2 (by omega) (by omega) (d 14 2 (by omega) (by omega))
  have r5 := grp_run h P19 17 (decide_eq_false (n 16 (by omega) (by omega))) 2 (by omega) (by omega) (d 17 2 (by omega) (by omega))
  have s4 := grp_skip (s := h) (n 4 (by omega) (by omega))
  have s7 := grp_skip (s := h) (n 7 (by omega) (by omega))
  have s10 := grp_skip (s := h) (n 10 (by omega) (by omega))
  have s13 := grp_skip (s := h) (n 13 (by omega) (by omega))
  have s16 := grp_skip (s := h) (n 16 (by omega) (by omega))
  simp only [Nat.reduceAdd] at r0 r1 r2 r3 r4 r5 s4 s7 s10 s13 s16
  rw [r5, s16, r4, s13, r3, s10, r2, s7, r1, s4, r0]
  rfl
theorem grp10 (h : ByteArray) (hs : h.size = 10) : grpL h P10 10 = [numL (h.extract 0 4).data.toList, numL (h.extract 5 7).data.toList, numL (h.extract 8 10).data.toList] := by
  have d : ∀ i n, i + n ≤ 10 → (¬ (i ≤ 4 ∧ 4 < i + n) ∧ ¬ (i ≤ 7 ∧ 7 < i + n)) → ∀ j, i ≤ j → j < i + n → bt P10 j = 48 := fun i n h1 h2 j a b => (P10_d j (by omega)).2 (by omega)
  have n : ∀ k, k < 10 → (k = 4 ∨ k = 7) → ¬ bt P10 k = 48 := fun k hk h e => (P10_d k hk).1 e h
  have r0 := grp_run h P10 0 rfl 4 (by omega) (by omega) (d 0 4 (by omega) (by omega))
  have r1 := grp_run h P10 5 (decide_eq_false (n 4 (by omega) (by omega))) 2 (by omega) (by omega) (d 5 2 (by omega) (by omega))
  have r2 := grp_run h P10 8 (decide_eq_false (n 7 (by omega) (by omega))) 2 (by omega) (by omega) (d 8 2 (by omega) (by omega))
  have s4 := grp_skip (s := h) (n 4 (by omega) (by omega))
  have s7 := grp_skip (s := h) (n 7 (by omega) (by omega))
  simp only [Nat.reduceAdd] at r0 r1 r2 s4 s7
  rw [r2, s7, r1, s4, r0]
  rfl
theorem nm_of {s p : ByteArray} {m i j : Nat} (hl : likeP (s.extract 0 m) p) (hm : m ≤ s.size) (hj : j ≤ m) (hp : ∀ k, i ≤ k → k < j → bt p k = 48) : numL ((s.extract 0 m).extract i j).data.toList = nm s i j := by
  have hs : (s.extract 0 m).size = m := by rw [size_ext s _ _ hm]; omega
  have d := digs hl (by omega) hp
  have e : (s.extract 0 m).extract i j = s.extract i j := by rw [ByteArray.extract_extract]; congr 1 <;> omega
  rw [e] at d ⊢
  exact (numV_yes d).symm
theorem vals19 {s : ByteArray} (hl : likeP (s.extract 0 19) P19) (hs : 19 ≤ s.size) : grpL (s.extract 0 19) P19 (s.extract 0 19).size = [nm s 0 4, nm s 5 7, nm s 8 10, nm s 11 13, nm s 14 16, nm s 17 19] := by
  have h19 : (s.extract 0 19).size = 19 := by rw [size_ext s _ _ hs]
  have d : ∀ i j, j ≤ 19 → (¬ (i ≤ 4 ∧ 4 < j) ∧ ¬ (i ≤ 7 ∧ 7 < j) ∧ ¬ (i ≤ 10 ∧ 10 < j) ∧ ¬ (i ≤ 13 ∧ 13 < j) ∧ ¬ (i ≤ 16 ∧ 16 < j)) → ∀ k, i ≤ k → k < j → bt P19 k = 48 := fun i j h1 h2 k a b => (P19_d k (by omega)).2 (by omega)
  rw [h19, grp19 _ h19]
  rw [nm_of hl hs (by omega) (d 0 4 (by omega) (by omega)), nm_of hl hs (by omega) (d 5 7 (by omega) (by omega)), nm_of hl hs (by omega) (d 8 10 (by omega) (by omega)), nm_of hl hs (by omega) (d 11 13 (by omega) (by omega)), nm_of hl hs (by omega) (d 14 16 (by omega) (by omega)), nm_of hl hs (by omega) (d 17 19 (by omega) (by omega))]
theorem vals10 {s : ByteArray} (hl : likeP (s.extract 0 10) P10) (hs : 10 ≤ s.size) : grpL (s.extract 0 10) P10 (s.extract 0 10).size = [nm s 0 4, nm s 5 7, nm s 8 10] := by
  have h10 : (s.extract 0 10).size = 10 := by rw [size_ext s _ _ hs]
  have d : ∀ i j, j ≤ 10 → (¬ (i ≤ 4 ∧ 4 < j) ∧ ¬ (i ≤ 7 ∧ 7 < j)) → ∀ k, i ≤ k → k < j → bt P10 k = 48 := fun i j h1 h2 k a b => (P10_d k (by omega)).2 (by omega)
  rw [h10, grp10 _ h10]
  rw [nm_of hl hs (by omega) (d 0 4 (by omega) (by omega)), nm_of hl hs (by omega) (d 5 7 (by omega) (by omega)), nm_of hl hs (by omega) (d 8 10 (by omega) (by omega))]
theorem run19 : ∀ k, k < P19.size → runAt P19 k ≤ 8 := by decide
theorem run10 : ∀ k, k < P10.size → runAt P10 k ≤ 8 := by decide
theorem run6 : ∀ k, k < P6.size → runAt P6 k ≤ 8 := by decide
theorem row_cells {w : World} {base : Nat} {e : TypeId} {v : Value} {n : Nat} {xs : List Value} (h : w.ownsRow base e 1 v n xs) (hn : 0 < n) :
    ∃ g cap, v = .slice (some ⟨g, 0, none⟩) n cap ∧ g < w.heap.size ∧ ∀ j u, xs[j]? = some u → w.cell? ⟨g, j, none⟩ = some u := by
  obtain ⟨g, cap, rfl, _, hg⟩ := h.form hn
  refine ⟨g, cap, rfl, hg, fun j u hu => ?_⟩
  have ce := h.cells (g := g) rfl j u hu
  have ae : (⟨g, 0, none⟩ : Addr).add j = ⟨g, j, none⟩ := by
    unfold Addr.add
    split
    · simp [*]
    · simp
  rwa [ae] at ce
theorem empty_yes {t : ByteArray} (h : t.size = 0) : t.toList.isEmpty = true := by
  rw [Lib.toList_data, List.isEmpty_iff_length_eq_zero]; simpa using h
theorem empty_no {t : ByteArray} (h : t.size ≠ 0) : t.toList.isEmpty = false := by
  rw [Lib.toList_data, Bool.eq_false_iff, ne_eq, List.isEmpty_iff_length_eq_zero]; simpa using h
def ParsePost (s : ByteArray) (w : World) (e : Ending) (w' : World) : Prop := ∃ t c : Int, e = .returned (.tuple #[.int .i64 t, .int .i64 c]) ∧ ParseIs s t c ∧ Below w.heap.size w w'
theorem parse_not {s : ByteArray} (h : ¬ progT s) : ParseIs s 0 12 := Or.inr ⟨fun g => h (text_prog g.1), rfl, rfl⟩
set_option maxRecDepth 100000 in
set_option maxHeartbeats 4000000 in
theorem parse_any (s : ByteArray) (w : World) (hs : s.size ≤ 100) :
    Calls Tryz.prog 27 #[.string s] w (ParsePost s w) := by
  have M : maxLen = 9223372036854775807 := rfl
  have SU := suf_any s w (by omega)
  have rs : (noZ s).size ≤ 100 := by
    unfold noZ
    split
    · rw [size_ext s _ _ (by omega)]; omega
    · exact hs
  obtain ⟨r, er⟩ : ∃ r, noZ s = r := ⟨_, rfl⟩
  have ER := Lib.hid er
  rw [er] at SU rs
  clear er
  have CU := Lib.hid (fun w' => cut_any r w' (by omega))
  generalize hz : decide (zP s) = zb at SU
  generalize hp : decide (ptS r < r.size) = pb at CU
  replace hz := Lib.hid hz
  replace hp := Lib.hid hp
  go_enter Tryz.func27, Tryz.ntmps27
  go_wp2_with fail
  refine SU.mono ?_
  rintro e w1 ⟨rfl, rfl⟩
  go_wp2_with fail
  refine (CU.out _).mono ?_
  rintro e w1 ⟨rfl, hb1⟩
  have B1 := Lib.hid hb1
  clear hb1 SU CU
  have hsz : (hdP r).size ≤ 100 := by unfold hdP; rw [size_ext r _ _ (ptS_le r)]; have := ptS_le r; omega
  obtain ⟨h, eh⟩ : ∃ h, hdP r = h := ⟨_, rfl⟩
  obtain ⟨t, et⟩ : ∃ t, tlP r = t := ⟨_, rfl⟩
  rw [eh, et]
  rw [eh] at hsz
  have FH := Lib.hid (fun w' => fields_any h P19 w' (by decide) (by omega) run19)
  have EH := Lib.hid eh
  have ET := Lib.hid et
  clear eh et
  go_wp2_with fail
  refine (FH.out _).mono ?_
  rintro e w2 ⟨hb2, hf⟩
  have B2 := Lib.hid (below_then B1.out hb2)
  clear hb2 FH
  rcases hf with ⟨lk, v, rfl, hown⟩ | ⟨lk, rfl⟩
  · cases zb with
    | false =>
      have N := Lib.hid (parse_not (s := s) fun g => absurd g.1 (of_decide_eq_false hz.out))
      clear lk hown
      go_wp2_with fail
      go_ret2
      exact ⟨0, 12, rfl, N.out, B2.out⟩
    | true =>
      by_cases ht : pb = true ∧ (t.size = 0 ∨ 6 < t.size)
      · obtain ⟨rfl, ht⟩ := ht
        have N := Lib.hid (parse_not (s := s) fun g => by
          have := g.2.2.1
          rw [ER.out, ET.out] at this
          have := this (of_decide_eq_true hp.out)
          omega)
        rcases ht with ht | ht
        · have em := empty_yes ht
          clear hown lk ht
          go_wp2_with fail
          go_ret2
          exact ⟨0, 12, rfl, N.out, B2.out⟩
        · have em := empty_no (t := t) (by omega)
          have ht' : (6 : Int) < (t.size : Int) := by omega
          clear hown lk ht
          go_wp2_with fail
          go_ret2
          exact ⟨0, 12, rfl, N.out, B2.out⟩
      · have ht6 : t.size ≤ 6 ∧ (pb = true → 1 ≤ t.size) := by
          cases pb with
          | true => exact ⟨Nat.le_of_not_lt fun h => ht ⟨rfl, Or.inr h⟩, fun _ => Nat.pos_of_ne_zero fun h => ht ⟨rfl, Or.inl h⟩⟩
          | false =>
            have e : tlP r = ⟨#[]⟩ := if_neg (of_decide_eq_false hp.out)
            rw [ET.out] at e
            rw [e]
            exact ⟨by decide, fun g => by cases g⟩
        obtain ⟨ht6, ht1⟩ := ht6
        have GT : Hid (allD t.data.toList → progT s) := Lib.hid fun ad => ⟨of_decide_eq_true hz.out, by rw [ER.out, EH.out]; exact lk, by
          rw [ER.out, ET.out]
          intro hlt
          have := ht1 (hp.out.symm.trans (decide_eq_true hlt))
          omega, by rw [ER.out, ET.out]; exact ad⟩
        have T6 := Lib.hid ht6
        have HO := Lib.hid (And.intro lk hown)
        have hcase : pb = false ∨ (pb = true ∧ t.toList.isEmpty = false) := by
          cases pb with
          | true => exact Or.inr ⟨rfl, empty_no (by have := ht1 rfl; omega)⟩
          | false => exact Or.inl rfl
        have i0 : 0 ≤ (t.size : Int) := by omega
        have i6 : (t.size : Int) ≤ 6 := by omega
        have i7 : ¬ (6 : Int) < (t.size : Int) := by omega
        clear ht ht1 ht6 lk hown hz hp
        rcases hcase with rfl | ⟨rfl, em⟩
        all_goals
          go_wp2_with fail
          refine (fields_any (pad6 t) P6 w2 (by decide) (by rw [pad6_size t T6.out]; omega) run6).mono ?_
          rintro e w3 ⟨hb3, hf2⟩
          have B3 := Lib.hid (below_then B2.out hb3)
          have b3 := Lib.hid hb3
          clear hb3
          rcases hf2 with ⟨lk2, v2, rfl, hown2⟩ | ⟨lk2, rfl⟩
          · have g := GT.out ((like6 t T6.out).1 lk2)
            obtain ⟨tp, hh, mv⟩ := prog_text g
            rw [ER.out, EH.out] at hh
            rw [ER.out, ET.out] at mv
            rw [grp6 t T6.out] at hown2
            obtain ⟨lk, hown⟩ := HO.out
            rw [hh] at lk hown
            rw [vals19 lk (by have := tp.1; omega)] at hown
            obtain ⟨g1, cap1, rfl, hg1, hc1⟩ := row_cells hown (by simp)
            obtain ⟨g2, cap2, rfl, hg2, hc2⟩ := row_cells hown2 (by simp)
            have q0 := (b3.out.cell (p := ⟨g1, 0, none⟩) hg1).trans (hc1 0 _ rfl)
            have q1 := (b3.out.cell (p := ⟨g1, 1, none⟩) hg1).trans (hc1 1 _ rfl)
            have q2 := (b3.out.cell (p := ⟨g1, 2, none⟩) hg1).trans (hc1 2 _ rfl)
            have q3 := (b3.out.cell (p := ⟨g1, 3, none⟩) hg1).trans (hc1 3 _ rfl)
            have q4 := (b3.out.cell (p := ⟨g1, 4, none⟩) hg1).trans (hc1 4 _ rfl)
            have q5 := (b3.out.cell (p := ⟨g1, 5, none⟩) hg1).trans (hc1 5 _ rfl)
            have q6 := hc2 0 _ rfl
            rw [← mv] at q6
            have lg1 : g1 < w3.heap.size := Nat.lt_of_lt_of_le hg1 b3.out.size
            have TP := Lib.hid tp
            clear lk2 hown2 hown hc1 hc2 hg1 mv tp g lk hh HO GT b3
            have FU := Lib.hid (fun w' => Mw.from_any (nm s 0 4) (nm s 5 7) (nm s 8 10) (nm s 11 13) (nm s 14 16) (nm s 17 19) (microV s) w')
            have PI : Hid (∀ a c, FromIs (nm s 0 4) (nm s 5 7) (nm s 8 10) (nm s 11 13) (nm s 14 16) (nm s 17 19) (microV s) a c → (c = 0 ∧ ParseIs s a 0) ∨ (c = 2 ∧ ParseIs s 0 12)) := Lib.hid fun a c hf => by
              rcases hf with ⟨f1, f2, f3⟩ | ⟨f1, f2, f3⟩
              · exact Or.inl ⟨f3, Or.inl ⟨⟨TP.out, f1⟩, f2, rfl⟩⟩
              · exact Or.inr ⟨f3, Or.inr ⟨fun k => f1 k.2, rfl, rfl⟩⟩
            clear TP
            generalize nm s 0 4 = a0 at *
            generalize nm s 5 7 = a1 at *
            generalize nm s 8 10 = a2 at *
            generalize nm s 11 13 = a3 at *
            generalize nm s 14 16 = a4 at *
            generalize nm s 17 19 = a5 at *
            generalize microV s = a6 at *
            go_wp2_with fail
            go_region_held3 (fun w' => w'.cell? ⟨g1, 0, none⟩ = some (.int .i64 a0) ∧ w'.cell? ⟨g1, 1, none⟩ = some (.int .i64 a1) ∧ w'.cell? ⟨g1, 2, none⟩ = some (.int .i64 a2) ∧ w'.cell? ⟨g1, 3, none⟩ = some (.int .i64 a3) ∧ w'.cell? ⟨g1, 4, none⟩ = some (.int .i64 a4) ∧ w'.cell? ⟨g1, 5, none⟩ = some (.int .i64 a5) ∧ w'.cell? ⟨g2, 0, none⟩ = some (.int .i64 a6)) (go_keep) (first | (go_at_call 18; refine (FU.out _).mono ?_; rintro e w4 ⟨ti, c, rfl, hfi, hb4⟩; have m0 := (hb4.cell (p := ⟨g1, 0, none⟩) lg1).trans q0; have m1 := (hb4.cell (p := ⟨g1, 1, none⟩) lg1).trans q1; have m2 := (hb4.cell (p := ⟨g1, 2, none⟩) lg1).trans q2; have m3 := (hb4.cell (p := ⟨g1, 3, none⟩) lg1).trans q3; have m4 := (hb4.cell (p := ⟨g1, 4, none⟩) lg1).trans q4; have m5 := (hb4.cell (p := ⟨g1, 5, none⟩) lg1).trans q5; have m6 := (hb4.cell (p := ⟨g2, 0, none⟩) hg2).trans q6))
            have B4 := Lib.hid (below_then B3.out.drew hb4)
            rcases PI.out ti c hfi with ⟨rfl, hpi⟩ | ⟨rfl, hpi⟩
            · go_wp2_with fail
              go_ret2
              exact ⟨ti, 0, rfl, hpi, B4.out⟩
            · go_wp2_with fail
              go_ret2
              exact ⟨0, 12, rfl, hpi, B4.out⟩
          · have N := Lib.hid (parse_not (s := s) fun g => lk2 ((like6 t T6.out).2 (by have := g.2.2.2; rwa [ER.out, ET.out] at this)))
            go_wp2_with fail
            go_ret2
            exact ⟨0, 12, rfl, N.out, B3.out⟩
  · have N := Lib.hid (parse_not (s := s) fun g => lk (by have := g.2.1; rwa [ER.out, EH.out] at this))
    cases zb
    all_goals
      go_wp2_with fail
      go_ret2
      exact ⟨0, 12, rfl, N.out, B2.out⟩
end Ap
end Go.Proofs.YtmgehfakcnmdnaaGreatDoor
/-
  What ParseDay calls: slices.ContainsFunc at bytes, strconv.ParseUint at digits; and what its text says.
-/
namespace Go.Proofs.YtmgehfakcnmdnaaGreatDoor
namespace Ap
open Go.RowKit Lw Go.Proofs.YtmgehfakcnmdnaaGreatDoor.Mp

/-- The bytes of a string in a block. -/
def Held (s : ByteArray) (B : Nat) (w' : World) : Prop := B < w'.heap.size ∧ ∀ j (h : j < s.size), w'.cell? ⟨B, j, none⟩ = some (.int .u8 (s[j].toNat : Int))
theorem bytes_in (w : World) (s : ByteArray) : ∃ (W : World) (cap : Nat), (convert 9 103 (.string s)).run Tryz.prog w = .ok (.slice (some ⟨w.heap.size, 0, none⟩) s.size cap) W ∧ Held s w.heap.size W ∧ Below w.heap.size w W ∧ s.size ≤ cap := by
  refine ⟨_, _, run_bytes_of_string (P := Tryz.prog) w 9 103 5 s Tryz.underlying9 Tryz.underlying103 Tryz.underlying5, ⟨by simp, fun j hj => ?_⟩, ((Below.refl _ w).drew).alloc (Nat.le_refl _) _, ?_⟩
  · rw [cell_of_row (World.alloc _ _) w.heap.size j (bytesRow s (grownCap w s.size 0 5)) 5 ((bytesRow s (grownCap w s.size 0 5)).size, (bytesRow s (grownCap w s.size 0 5)).size + 1) (by show (w.heap.push _)[w.heap.size]? = _; simp)]
    have hj' : j < s.data.size := hj
    unfold bytesRow
    rw [Array.getElem?_append_left (by simpa using hj'), Array.getElem?_map, Array.getElem?_eq_getElem hj']
    rfl
  · exact grownCap_ge w s.size 0 _
theorem dig_any (c : Int) (w : World) : Calls Tryz.prog 64 #[.int .u8 c] w fun e w' => e = .returned (.bool (decide (¬ (48 ≤ c ∧ c ≤ 57)))) ∧ w = w' := by
  by_cases h1 : c < 48
  · have e : decide (¬ (48 ≤ c ∧ c ≤ 57)) = true := decide_eq_true (by omega)
    rw [e]
    go_enter Tryz.func64, Tryz.ntmps64
    go_wp2
    go_ret
    exact ⟨rfl, rfl⟩
  · by_cases h2 : 57 < c
    · have e : decide (¬ (48 ≤ c ∧ c ≤ 57)) = true := decide_eq_true (by omega)
      rw [e]
      go_enter Tryz.func64, Tryz.ntmps64
      go_wp2
      go_ret
      exact ⟨rfl, rfl⟩
    · have e : decide (¬ (48 ≤ c ∧ c ≤ 57)) = false := decide_eq_false (by omega)
      rw [e]
      go_enter Tryz.func64, Tryz.ntmps64
      go_wp2
      go_ret
      exact ⟨rfl, rfl⟩
theorem allD_no {s : ByteArray} {k : Nat} (hk : k < s.size) (h : ¬ (48 ≤ (s[k].toNat : Int) ∧ (s[k].toNat : Int) ≤ 57)) : ¬ allD s.data.toList := fun g => by
  have := (allD_bt s).1 g k hk
  rw [bt_of s k hk] at this
  exact h this
theorem allD_yes {s : ByteArray} {k : Nat} (hk : ¬ k < s.size) (h : allD (s.data.toList.take k)) : allD s.data.toList := by rwa [take_all s k hk] at h
set_option maxRecDepth 100000 in
set_option maxHeartbeats 2000000 in
theorem index_any (s : ByteArray) (B cap : Nat) (w : World) (hs : s.size ≤ 1000) (hH : Held s B w) :
    Calls Tryz.prog 92 #[.slice (some ⟨B, 0, none⟩) s.size cap, .func (.func 64) #[] #[]] w fun e w' => ∃ r : Int, e = .returned (.int .i64 r) ∧ (0 ≤ r ↔ ¬ allD s.data.toList) ∧ w = w' := by
  go_enter Tryz.func92, Tryz.ntmps92
  go_wp2_with fail
  go_loop [8] (fun i => ∃ k : Nat, k ≤ s.size ∧ i = .int .i64 k ∧ Hid (allD (s.data.toList.take k))) (fun i => s.size - (intOf i).toNat)
  case atStart => exact ⟨0, Nat.zero_le _, rfl, Lib.hid (by intro c hc; simp at hc)⟩
  case round =>
    obtain ⟨k, hk, rfl, D⟩ := hrel
    by_cases hlt : k < s.size
    · have i1 : (k : Int) < (s.size : Int) := by omega
      have i0 : 0 ≤ (k : Int) := by omega
      have ck := hH.2 k hlt
      by_cases d : 48 ≤ (s[k].toNat : Int) ∧ (s[k].toNat : Int) ≤ 57
      · have D2 := Lib.hid (show allD (s.data.toList.take (k + 1)) by rw [take_snoc s k hlt]; exact allD_snoc D.out d.1 d.2)
        have DA := fun w' => dig_any (s[k].toNat : Int) w'
        rw [show decide (¬ (48 ≤ (s[k].toNat : Int) ∧ (s[k].toNat : Int) ≤ 57)) = false from decide_eq_false (not_not_intro d)] at DA
        replace DA := Lib.hid DA
        clear d
        go_wp2_with (go_at_call 64; refine (DA.out _).mono ?_; rintro e w' ⟨rfl, rfl⟩)
        go_round
        case rel => exact ⟨k + 1, by omega, by go_num, D2⟩
        case measure => simp [intOf]; omega
      · have N := Lib.hid (allD_no hlt d)
        have DA := fun w' => dig_any (s[k].toNat : Int) w'
        rw [show decide (¬ (48 ≤ (s[k].toNat : Int) ∧ (s[k].toNat : Int) ≤ 57)) = true from decide_eq_true d] at DA
        replace DA := Lib.hid DA
        clear d
        go_wp2_with (go_at_call 64; refine (DA.out _).mono ?_; rintro e w' ⟨rfl, rfl⟩)
        go_ret
        exact ⟨k, rfl, ⟨fun _ => N.out, fun _ => by omega⟩, rfl⟩
    · have N := Lib.hid (allD_yes hlt D.out)
      go_wp2_with fail
      go_ret
      exact ⟨-1, rfl, ⟨fun g => absurd g (by decide), fun g => absurd N.out g⟩, rfl⟩
theorem contains_any (s : ByteArray) (B cap : Nat) (w : World) (hs : s.size ≤ 1000) (hH : Held s B w) :
    Calls Tryz.prog 63 #[.slice (some ⟨B, 0, none⟩) s.size cap, .func (.func 64) #[] #[]] w fun e w' => e = .returned (.bool (decide (¬ allD s.data.toList))) ∧ w = w' := by
  go_enter Tryz.func63, Tryz.ntmps63
  go_wp2_with fail
  refine (index_any s B cap w hs hH).mono ?_
  rintro e w1 ⟨r, rfl, hr, rfl⟩
  have E := Lib.hid (show decide (¬ allD s.data.toList) = decide (0 ≤ r) from decide_eq_decide.2 hr.symm)
  clear hr
  go_wp2_with fail
  go_ret
  exact ⟨ret_b E.out.symm, rfl⟩
theorem numL_cons (l : List UInt8) : numL (48 :: l) = numL l := by
  have h48 : ((48 : UInt8).toNat : Int) = 48 := rfl
  unfold numL
  rw [List.foldl_cons, h48]
  rfl
/-- What ParseUint makes of digits. -/
theorem parse_m : ∀ (l : List UInt8) (acc : Nat), allD l → acc * 10 ^ l.length + 10 ^ l.length ≤ 1000000000000000000 → ∃ u : Nat, Lib.parseUintM (2 ^ 64 - 1) acc l = .ok u ∧ (u : Int) = l.foldl (fun n c => 10 * n + ((c.toNat : Int) - 48)) (acc : Int)
  | [], acc, _, _ => ⟨acc, rfl, rfl⟩
  | c :: r, acc, hd, hb => by
    obtain ⟨h1, h2⟩ := hd c (List.mem_cons_self ..)
    have hp : 1 ≤ 10 ^ r.length := Nat.pow_pos (by omega)
    rw [List.length_cons, Nat.pow_succ] at hb
    have hm : acc * (10 ^ r.length * 10) = acc * 10 * 10 ^ r.length := by rw [Nat.mul_comm (10 ^ r.length) 10, Nat.mul_assoc]
    rw [hm] at hb
    have hle : acc * 10 ≤ acc * 10 * 10 ^ r.length := Nat.le_mul_of_pos_right _ hp
    have hb2 : (acc * 10 + (c.toNat - 48)) * 10 ^ r.length + 10 ^ r.length ≤ 1000000000000000000 := by
      rw [Nat.add_mul]
      have : (c.toNat - 48) * 10 ^ r.length ≤ 9 * 10 ^ r.length := Nat.mul_le_mul_right _ (by omega)
      omega
    obtain ⟨u, hu, hv⟩ := parse_m r (acc * 10 + (c.toNat - 48)) (fun x hx => hd x (List.mem_cons_of_mem _ hx)) hb2
    refine ⟨u, ?_, ?_⟩
    · unfold Lib.parseUintM
      rw [if_pos ⟨by omega, by omega⟩, if_neg (by omega), if_neg (by omega)]
      exact hu
    · rw [hv, List.foldl_cons]
      congr 1
      omega
theorem parse_u (t : ByteArray) (h : allD t.data.toList) (hs : t.size ≤ 9) : ∃ u : Nat, Lib.parseUintB 64 ((⟨#[48]⟩ : ByteArray) ++ t).data.toList = .ok u ∧ (u : Int) = numL t.data.toList := by
  have e : ((⟨#[48]⟩ : ByteArray) ++ t).data.toList = 48 :: t.data.toList := by simp
  have hl : t.data.toList.length = t.size := rfl
  obtain ⟨u, hu, hv⟩ := parse_m (48 :: t.data.toList) 0 (fun c hc => by
    rcases List.mem_cons.1 hc with rfl | hc
    · exact ⟨by decide, by decide⟩
    · exact h c hc) (by
    rw [List.length_cons, hl]
    have : ∀ r : Nat, r ≤ 9 → 0 * 10 ^ (r + 1) + 10 ^ (r + 1) ≤ 1000000000000000000 := by decide
    exact this _ hs)
  refine ⟨u, ?_, ?_⟩
  · rw [e]
    unfold Lib.parseUintB
    rw [if_neg (by simp)]
    exact hu
  · rw [hv]
    exact numL_cons _
/-! ### What the program finds of a day text -/
def progD (s : ByteArray) : Prop := likeP (hdP s) P10 ∧ (ptS s < s.size → 1 ≤ (tlP s).size ∧ (tlP s).size ≤ 9) ∧ allD (tlP s).data.toList
theorem up_zero : upI (0 * 0) 1 = 0 := by decide
theorem prog_day {s : ByteArray} (g : progD s) : dayP s ∧ hdP s = s.extract 0 10 ∧ partV s = upI (numL (tlP s).data.toList * dayLen (nm s 0 4) (nm s 5 7) (nm s 8 10)) (tenI (tlP s).size) := by
  obtain ⟨lk, sz, ad⟩ := g
  have hq : ptS s = 10 := by
    have := lk.1
    rw [P10_size] at this
    have le := ptS_le s
    unfold hdP at this
    rw [size_ext _ _ _ le] at this
    omega
  have hle := ptS_le s
  have hh : hdP s = s.extract 0 10 := by unfold hdP; rw [hq]
  rw [hh] at lk
  by_cases hp : ptS s < s.size
  · have ht : tlP s = s.extract 11 s.size := by
      unfold tlP
      rw [if_pos hp, hq]
    have hs := sz hp
    rw [ht, size_ext s _ _ (by omega)] at hs
    have h46 := pt_at s hp
    rw [hq] at h46
    have ad' := ad
    rw [ht] at ad'
    refine ⟨⟨by omega, by omega, by omega, lk, fun _ => ⟨h46, (numV_nn _).2 ad'⟩⟩, hh, ?_⟩
    unfold partV
    rw [if_neg (by omega), ht, size_ext s _ _ (by omega)]
    have : nm s 11 s.size = numL (s.extract 11 s.size).data.toList := numV_yes ad'
    rw [this]
  · have ht : tlP s = ⟨#[]⟩ := if_neg hp
    refine ⟨⟨by omega, by omega, by omega, lk, fun h => absurd h (by omega)⟩, hh, ?_⟩
    unfold partV
    rw [if_pos (by omega), ht]
    have e0 : numL (⟨#[]⟩ : ByteArray).data.toList = 0 := rfl
    have e1 : tenI (⟨#[]⟩ : ByteArray).size = 1 := rfl
    rw [e0, e1, Int.zero_mul]
    rfl
theorem day_prog {s : ByteArray} (g : dayP s) : progD s := by
  obtain ⟨h10, h11, h20, lk, hm⟩ := g
  have no := like_no46 lk (by rw [size_ext s _ _ (by omega)]) P10_no
  have hq : ptS s = 10 := by
    refine pt_uniq (by omega) (fun j hj => ?_) (fun h => (hm h).1)
    have := no j (by omega)
    rw [bt_ext s 0 10 j (by omega) (by omega)] at this
    simpa using this
  have hh : hdP s = s.extract 0 10 := by unfold hdP; rw [hq]
  refine ⟨by rw [hh]; exact lk, fun hp => ?_, ?_⟩
  · have ht : tlP s = s.extract 11 s.size := by
      unfold tlP
      rw [if_pos hp, hq]
    rw [ht, size_ext s _ _ (by omega)]
    omega
  · by_cases hp : ptS s < s.size
    · have ht : tlP s = s.extract 11 s.size := by
        unfold tlP
        rw [if_pos hp, hq]
      rw [ht]
      exact (numV_nn _).1 (hm (by omega)).2
    · have ht : tlP s = ⟨#[]⟩ := if_neg hp
      rw [ht]
      exact fun c hc => absurd hc (by simp)
/-- The length of a day is the time between two beginnings. -/
theorem day_diff {y m d z k : Int} (hw : wholeP y m d) (hz : IsYM (dn y m d + 1) z k) : bgv (dn y m d + 1) z k - bgv (dn y m d) y m = dayLen y m d := by
  unfold dayLen
  rcases day_len hw hz with ⟨a, b⟩ | ⟨a, b⟩
  · unfold leapday at b
    rw [if_neg b]; omega
  · unfold leapday at b
    rw [if_pos b]; omega
theorem dayLen_bd (y m d : Int) : 86400000000 ≤ dayLen y m d ∧ dayLen y m d ≤ 86401000000 := by unfold dayLen; split <;> omega
theorem secs_len (y m d : Int) : Mw.secs y m d * 1000000 = dayLen y m d := by unfold Mw.secs dayLen; split <;> rfl
end Ap
end Go.Proofs.YtmgehfakcnmdnaaGreatDoor
/-
  Plain laws of MomentRounds, second part: the time of a text, and the text of that time; no walk here.
-/
namespace Go.Proofs.YtmgehfakcnmdnaaGreatDoor
namespace At
open Go.RowKit Lw Ap Go.Proofs.YtmgehfakcnmdnaaGreatDoor.Mp Go.Proofs.YtmgehfakcnmdnaaGreatDoor.Mw

theorem take_dec (d : Nat) : ∀ j u, (decL u (d + j)).take d = decL (u / 10 ^ j) d
  | 0, u => by
    rw [Nat.add_zero, Nat.pow_zero, Nat.div_one]
    exact List.take_of_length_le (by rw [decL_len]; omega)
  | j + 1, u => by
    rw [← Nat.add_assoc, decL, List.take_append_of_le_length (by rw [decL_len]; omega), take_dec d j (u / 10), Nat.div_div_eq_div_mul, Nat.pow_succ, Nat.mul_comm (10 ^ j) 10]
theorem last_of {s : ByteArray} {x : List UInt8} {c : UInt8} (hs : s.data.toList = x ++ [c]) : bt s (s.size - 1) = (c.toNat : Int) := by
  have sz : s.size = x.length + 1 := by have := congrArg List.length hs; simpa using this
  rw [bt_L s _ (by omega), hs, sz, Nat.add_sub_cancel, List.getD_eq_getElem?_getD, List.getElem?_append_right (Nat.le_refl _), Nat.sub_self]
  rfl
theorem micro_le {u j : Nat} : u / 10 ^ j * 10 ^ j ≤ u ∧ u < u / 10 ^ j * 10 ^ j + 10 ^ j := by
  have e := Nat.div_add_mod u (10 ^ j)
  have l := Nat.mod_lt u (show 0 < 10 ^ j from Nat.pow_pos (by omega))
  rw [Nat.mul_comm] at e
  omega
theorem dec1 {u k : Nat} {l : List UInt8} (h : u < 10 ^ k) (e : decL u k = l) : numV l = u := by rw [← e, dec_val h]
theorem micro_of {s : ByteArray} {d U : Nat} (d6 : d ≤ 6) (z7 : U < 10 ^ 6) (sz : s.size = 20 + (if 0 < d then d + 1 else 0)) (hn : 0 < d → nm s 20 (s.size - 1) = numV ((decL U 6).take d)) :
    (0 < d → 0 ≤ nm s 20 (s.size - 1)) ∧ ∃ V : Nat, microV s = V ∧ V ≤ U ∧ U < V + 10 ^ (6 - d) := by
  by_cases c : 0 < d
  · have tk : (decL U 6).take d = decL (U / 10 ^ (6 - d)) d := by
      have := take_dec d (6 - d) U
      rwa [show d + (6 - d) = 6 by omega] at this
    have eN : nm s 20 (s.size - 1) = (U / 10 ^ (6 - d) : Nat) := by
      rw [hn c, tk]
      refine dec_val ?_
      refine Nat.div_lt_of_lt_mul ?_
      rw [← Nat.pow_add]
      rwa [show 6 - d + d = 6 by omega]
    rw [if_pos c] at sz
    refine ⟨fun _ => by rw [eN]; exact Int.natCast_nonneg _, U / 10 ^ (6 - d) * 10 ^ (6 - d), ?_, micro_le.1, micro_le.2⟩
    unfold microV tenI
    rw [if_neg (by omega), eN, show 27 - s.size = 6 - d by omega]
    exact (Int.natCast_mul _ _).symm
  · obtain rfl : d = 0 := by omega
    rw [if_neg (by omega)] at sz
    refine ⟨fun h => absurd h c, 0, ?_, by omega, by omega⟩
    unfold microV
    rw [if_pos (by omega)]
    rfl
/-- The time of a text is the time, with the digits left out. -/
theorem text_parse {t d : Int} {s : ByteArray} (a : TextIs t d s 0) : ∃ v, ParseIs s v 0 ∧ v ≤ t ∧ t - v < tenI (6 - d.toNat) ∧ s.size ≤ 27 := by
  rcases a with ⟨_, _, c⟩ | ⟨_, _, _, _, c⟩ | ⟨d0, d6, b1, b2, n, y, m, z, k, hd, hs, _⟩
  · omega
  · omega
  obtain ⟨d, rfl⟩ : ∃ e : Nat, d = e := ⟨d.toNat, by omega⟩
  rw [Int.toNat_natCast] at *
  obtain ⟨f1, f2⟩ := to_from hd
  obtain ⟨Y, M, D, H, I, S, U, e1, e2, e3, e4, e5, e6, e7, z1, z2, z3, z4, z5, z6, z7⟩ := date_nat hd
  rw [e3, e4, e5, e6, e7, e1, e2] at hs
  simp only [Int.toNat_natCast] at hs
  rw [e3, e4, e5, e6, e7] at f1 f2
  have hL := text_L Y M D H I S U d
  rw [← hs] at hL
  obtain ⟨c0, c1, c2, c3, x0, i0, i1, i2, i3⟩ := dec4 Y
  obtain ⟨c4, c5, x1, i4, i5⟩ := dec2 M
  obtain ⟨c6, c7, x2, i6, i7⟩ := dec2 D
  obtain ⟨c8, c9, x3, i8, i9⟩ := dec2 H
  obtain ⟨c10, c11, x4, i10, i11⟩ := dec2 I
  obtain ⟨c12, c13, x5, i12, i13⟩ := dec2 S
  rw [x0, x1, x2, x3, x4, x5] at hL
  obtain ⟨r, hr⟩ : ∃ r, (if 0 < d then 46 :: (decL U 6).take d else []) ++ [(90 : UInt8)] = r := ⟨_, rfl⟩
  rw [hr] at hL
  have hL : s.data.toList = l19 c0 c1 c2 c3 c4 c5 c6 c7 c8 c9 c10 c11 c12 c13 r := hL
  have rl : r.length = (if 0 < d then d + 1 else 0) + 1 := by
    rw [← hr]
    by_cases c : 0 < d
    · simp [c, decL_len]; omega
    · simp [c]
  have sz : s.size = 20 + (if 0 < d then d + 1 else 0) := by
    have := congrArg List.length hL
    simp [rl] at this
    omega
  have dd : d ≤ 6 := by omega
  have sz27 : s.size ≤ 27 := by rw [sz]; split <;> omega
  have sz20 : 20 ≤ s.size := by rw [sz]; omega
  obtain ⟨n1, n2, n3, n4, n5, n6⟩ := text_nums hL
  rw [dec1 z1 x0] at n1
  rw [dec1 z2 x1] at n2
  rw [dec1 z3 x2] at n3
  rw [dec1 z4 x3] at n4
  rw [dec1 z5 x4] at n5
  rw [dec1 z6 x5] at n6
  have hn : 0 < d → nm s 20 (s.size - 1) = numV ((decL U 6).take d) := fun c => by
    rw [nm_L hL _ _ (by omega)]
    have : s.size - 1 - 20 = d := by rw [sz, if_pos c]; omega
    rw [this]
    rw [if_pos c] at hr
    rw [← hr]
    have e : (List.drop 20 (l19 c0 c1 c2 c3 c4 c5 c6 c7 c8 c9 c10 c11 c12 c13 (46 :: List.take d (decL U 6) ++ [90]))) = List.take d (decL U 6) ++ [90] := rfl
    rw [e, List.take_append_of_le_length (by rw [List.length_take, decL_len]; omega), List.take_take]
    congr 2; omega
  obtain ⟨hp, V, mV, v1, v2⟩ := micro_of dd z7 sz hn
  have tp : textP s := by
    refine ⟨sz20, by rw [sz]; split <;> omega, sz27, ?_, ?_, fun h => ?_⟩
    · have : s.data.toList = l19 c0 c1 c2 c3 c4 c5 c6 c7 c8 c9 c10 c11 c12 c13 (if 0 < d then 46 :: (decL U 6).take d else []) ++ [90] := by rw [hL, ← hr]; rfl
      exact last_of this
    · refine like19 (a := c0) (b := c1) (c := c2) (d := c3) (e := c4) (f := c5) (g := c6) (h := c7) (i := c8) (j := c9) (k := c10) (l := c11) (m := c12) (n := c13) ?_ i0 i1 i2 i3 i4 i5 i6 i7 i8 i9 i10 i11 i12 i13
      rw [ext_L _ _ _ (by omega), hL]
      rfl
    · have c : 0 < d := by rw [sz] at h; split at h <;> omega
      refine ⟨?_, hp c⟩
      rw [bt_L s 19 (by omega), hL, ← hr, if_pos c]
      rfl
  obtain ⟨w1, w2, w3, w4, w5, w6, w7, w8, w9⟩ := f1
  refine ⟨textV s, Or.inl ⟨⟨tp, ?_⟩, rfl, rfl⟩, ?_, ?_, sz27⟩
  · rw [n1, n2, n3, n4, n5, n6, mV, ← e1, ← e2]
    exact ⟨w1, w2, w3, w4, w5, w6, by omega, by omega, w9⟩
  · unfold textV
    rw [n1, n2, n3, n4, n5, n6, mV, ← e1, ← e2, ← f2]
    unfold timeOf
    omega
  · unfold textV
    rw [n1, n2, n3, n4, n5, n6, mV, ← e1, ← e2]
    rw [← f2]
    unfold timeOf tenI
    omega
theorem val2 {a b : UInt8} (ha : isD a) (hb : isD b) : decL (numV [a, b]).toNat 2 = [a, b] := by
  rw [numV_yes (num2 ha hb).1]
  exact dec_of (num2 ha hb).1
theorem val4 {a b c d : UInt8} (ha : isD a) (hb : isD b) (hc : isD c) (hd : isD d) : decL (numV [a, b, c, d]).toNat 4 = [a, b, c, d] := by
  rw [numV_yes (num4 ha hb hc hd).1]
  exact dec_of (num4 ha hb hc hd).1
/-- The text of the time of a text is the text. -/
theorem parse_text {s : ByteArray} {v : Int} (a : ParseIs s v 0) : TextIs v (if 0 ≤ (s.size : Int) - 21 then (s.size : Int) - 21 else 0) s 0 ∧ s.size ≤ 27 := by
  rcases a with ⟨⟨⟨t1, t2, t3, t4, t5, t6⟩, ok⟩, rfl, _⟩ | ⟨_, _, c⟩
  · refine ⟨?_, t3⟩
    obtain ⟨c0, c1, c2, c3, c4, c5, c6, c7, c8, c9, c10, c11, c12, c13, r, hL, i0, i1, i2, i3, i4, i5, i6, i7, i8, i9, i10, i11, i12, i13⟩ := split19 (by omega) t5
    have sz : s.size = 19 + r.length := by have := congrArg List.length hL; simp at this; omega
    obtain ⟨n1, n2, n3, n4, n5, n6⟩ := text_nums hL
    obtain ⟨z, k, hd, e1, e2, e3, e4, e5⟩ := from_to ok
    have b1 := bgv_mono hd.ym ym_72 hd.n1
    have b2 := bgv_mono ym_00 hd.zk (by have := hd.n2; omega)
    have lo := hd.lo
    have hi := hd.hi
    obtain ⟨r', x, hr⟩ : ∃ r' x, r = r' ++ [x] := ⟨r.dropLast, r.getLast (by intro h; rw [h] at sz; simp at sz; omega), (List.dropLast_concat_getLast _).symm⟩
    have hx : x = 90 := by
      have : s.data.toList = l19 c0 c1 c2 c3 c4 c5 c6 c7 c8 c9 c10 c11 c12 c13 r' ++ [x] := by rw [hL, hr]; rfl
      rw [last_of this] at t4
      exact u8_val (n := 90) (by omega) t4
    subst hx
    have rl : s.size = 20 + r'.length := by rw [sz, hr]; simp; omega
    have key : (if 0 < s.size - 21 then 46 :: (decL (microV s).toNat 6).take (s.size - 21) else []) = r' := by
      match r', rl with
      | [], rl => rw [if_neg (by simp at rl; omega)]
      | y :: T, rl =>
        have rl : s.size = 21 + T.length := by simp at rl; omega
        rw [if_pos (by omega)]
        obtain ⟨p1, p2⟩ := t6 (by omega)
        rw [bt_L s 19 (by omega), hL, hr] at p1
        have hy : y = 46 := u8_val (n := 46) (by omega) p1
        subst hy
        have eN : nm s 20 (s.size - 1) = numV T := by
          rw [nm_L hL _ _ (by omega), hr]
          have e : (List.drop 20 (l19 c0 c1 c2 c3 c4 c5 c6 c7 c8 c9 c10 c11 c12 c13 (46 :: T ++ [90]))) = T ++ [90] := rfl
          rw [e, List.take_append_of_le_length (by omega), List.take_of_length_le (by omega)]
        have aT : allD T := (numV_nn T).1 (by rw [← eN]; exact p2)
        have aZ : allD (T ++ List.replicate (6 - T.length) 48) := fun c hc => by
          rcases List.mem_append.1 hc with h | h
          · exact aT c h
          · rw [(List.mem_replicate.1 h).2]; exact ⟨by decide, by decide⟩
        have eM : microV s = numL (T ++ List.replicate (6 - T.length) 48) := by
          unfold microV
          rw [if_neg (by omega), eN, numV_yes aT, numL_zeros, show 27 - s.size = 6 - T.length by omega]
        have := dec_of aZ
        rw [show (T ++ List.replicate (6 - T.length) (48 : UInt8)).length = 6 by rw [List.length_append, List.length_replicate]; omega] at this
        rw [eM, this, show s.size - 21 = T.length by omega, List.take_left]
    refine Or.inr (Or.inr ⟨by split <;> omega, by split <;> omega, Int.le_trans b1 lo, Int.lt_of_lt_of_le hi b2, _, _, _, z, k, hd, ?_, rfl⟩)
    unfold textV
    rw [← e1, ← e2, ← e3, ← e4, ← e5]
    apply toL_inj
    rw [text_L, n1, n2, n3, n4, n5, n6, val4 i0 i1 i2 i3, val2 i4 i5, val2 i6 i7, val2 i8 i9, val2 i10 i11, val2 i12 i13]
    have ed : (if 0 ≤ (s.size : Int) - 21 then (s.size : Int) - 21 else 0).toNat = s.size - 21 := by split <;> omega
    rw [ed, key, hL, hr]
    rfl
  · omega
/-! ### Texts of days -/
theorem day_in_len {y m d P : Int} (hw : wholeP y m d) (p0 : 0 ≤ P) (p1 : P < dayLen y m d) : ∃ z k, DayOf (bgv (dn y m d) y m + P) (dn y m d) y m z k ∧ bgv (dn y m d + 1) z k - bgv (dn y m d) y m = dayLen y m d := by
  have wr := wholeP_range hw
  obtain ⟨z, k, z1, z2, zk⟩ := ym_ex (dn y m d + 1) (by omega) (by omega)
  have dl := day_diff hw zk
  exact ⟨z, k, ⟨wholeP_ym hw, zk, by omega, by omega, by omega, by omega, hw.1, by have := hw.2.1; omega⟩, dl⟩
/-- A part of a day, rounded up, has the digits that it was made of. -/
theorem up_frac {q L T : Nat} (hT : 0 < T) (hL : T ≤ L) (hq : q < T) : ∃ P : Nat, upI ((q : Int) * L) T = P ∧ P < L ∧ P * T / L = q ∧ (∀ P0 : Nat, q = P0 * T / L → P ≤ P0) := by
  have hL0 : 0 < L := by omega
  obtain ⟨r, hr⟩ : ∃ r, q * L % T = r := ⟨_, rfl⟩
  obtain ⟨g, hg⟩ : ∃ g, q * L / T = g := ⟨_, rfl⟩
  have dm := Nat.div_add_mod (q * L) T
  have rl := Nat.mod_lt (q * L) hT
  rw [hr, hg] at dm
  rw [hr] at rl
  have e : upI ((q : Int) * L) T = ((g + if 0 < r then 1 else 0 : Nat) : Int) := by
    unfold upI
    rw [← Int.natCast_mul, ← Int.natCast_ediv, ← Int.natCast_emod, hr, hg]
    by_cases c : 0 < r
    · rw [if_pos (by omega), if_pos c]; rfl
    · rw [if_neg (by omega), if_neg c]; rfl
  obtain ⟨P, hP⟩ : ∃ P, g + (if 0 < r then 1 else 0) = P := ⟨_, rfl⟩
  rw [hP] at e
  have lo : q * L ≤ P * T := by
    rw [← hP]
    by_cases c : 0 < r
    · rw [if_pos c, Nat.add_mul, Nat.mul_comm g T]; omega
    · rw [if_neg c, Nat.add_zero, Nat.mul_comm g T]; omega
  have hi : P * T < q * L + T := by
    rw [← hP]
    by_cases c : 0 < r
    · rw [if_pos c, Nat.add_mul, Nat.mul_comm g T]; omega
    · rw [if_neg c, Nat.add_zero, Nat.mul_comm g T]; omega
  have eq : P * T / L = q := by
    apply Nat.div_eq_of_lt_le
    · exact lo
    · rw [Nat.add_mul, Nat.one_mul]; omega
  refine ⟨P, e, ?_, eq, fun P0 h0 => ?_⟩
  · have h1 : (q + 1) * L ≤ T * L := Nat.mul_le_mul_right L hq
    rw [Nat.add_mul, Nat.one_mul] at h1
    have h2 : P * T < L * T := by rw [Nat.mul_comm L T]; omega
    exact Nat.lt_of_mul_lt_mul_right h2
  · have h1 : q * L ≤ P0 * T := by rw [h0]; exact Nat.div_mul_le_self _ _
    have h2 : P * T < P0 * T + T := by omega
    rw [← Nat.succ_mul] at h2
    have := Nat.lt_of_mul_lt_mul_right h2
    omega
theorem ten_len (y m D : Int) (d : Nat) (hd : d ≤ 9) : ∃ L : Nat, dayLen y m D = L ∧ 10 ^ d ≤ L ∧ 0 < 10 ^ d := by
  have := dayLen_bd y m D
  have h9 : ∀ r : Nat, r ≤ 9 → 10 ^ r ≤ 1000000000 := by decide
  have := h9 d hd
  exact ⟨(dayLen y m D).toNat, by omega, by omega, Nat.pow_pos (by omega)⟩
/-- The text of a day is read as a time of the same text. -/
theorem day_core {s : ByteArray} {y m D : Int} {q d : Nat} (hd : d ≤ 9) (hw : wholeP y m D) (hq : q < 10 ^ d) (hs : s = daytS y.toNat m.toNat D.toNat q d) :
    ∃ P : Nat, PDayIs s (bgv (dn y m D) y m + P) 0 ∧ DayIs (bgv (dn y m D) y m + P) d s 0 ∧ s.size ≤ 20 ∧ (∀ P0 : Nat, (q : Int) = P0 * 10 ^ d / dayLen y m D → P ≤ P0) := by
  obtain ⟨L, eL, TL, T0⟩ := ten_len y m D d hd
  obtain ⟨P, e, pl, eq, mn⟩ := up_frac T0 TL hq
  have bo := hw
  obtain ⟨g1, g2, g3, g4, g5, g6⟩ := bo
  have ml := mo_len y m g3 g4
  obtain ⟨z, k, dy, dl⟩ := day_in_len hw (P := P) (by omega) (by rw [eL]; omega)
  have b1 := bgv_mono dy.ym ym_72 dy.n1
  have b2 := bgv_mono ym_00 dy.zk (by have := dy.n2; omega)
  have lo := dy.lo
  have hi := dy.hi
  have hL := dayt_L y.toNat m.toNat D.toNat q d
  rw [← hs] at hL
  obtain ⟨c0, c1, c2, c3, x0, i0, i1, i2, i3⟩ := dec4 y.toNat
  obtain ⟨c4, c5, x1, i4, i5⟩ := dec2 m.toNat
  obtain ⟨c6, c7, x2, i6, i7⟩ := dec2 D.toNat
  rw [x0, x1, x2] at hL
  obtain ⟨r, hr⟩ : ∃ r, (if 0 < d then (46 : UInt8) :: decL q d else []) = r := ⟨_, rfl⟩
  rw [hr] at hL
  have hL : s.data.toList = l10 c0 c1 c2 c3 c4 c5 c6 c7 r := hL
  have rl : r.length = (if 0 < d then d + 1 else 0) := by
    rw [← hr]
    by_cases c : 0 < d
    · simp [c, decL_len]
    · simp [c]
  have sz : s.size = 10 + (if 0 < d then d + 1 else 0) := by
    have := congrArg List.length hL
    simp [rl] at this
    omega
  have sz20 : s.size ≤ 20 := by rw [sz]; split <;> omega
  have sz10 : 10 ≤ s.size := by rw [sz]; omega
  obtain ⟨n1, n2, n3⟩ := day_nums hL
  rw [dec1 (by omega) x0, Int.toNat_of_nonneg (by omega)] at n1
  rw [dec1 (by omega) x1, Int.toNat_of_nonneg (by omega)] at n2
  rw [dec1 (by omega) x2, Int.toNat_of_nonneg (by omega)] at n3
  have hn : 0 < d → nm s 11 s.size = q := fun c => by
    rw [nm_L hL _ _ (Nat.le_refl _)]
    rw [if_pos c] at hr
    rw [← hr]
    have e : (List.drop 11 (l10 c0 c1 c2 c3 c4 c5 c6 c7 (46 :: decL q d))) = decL q d := rfl
    rw [e, List.take_of_length_le (by rw [decL_len, sz, if_pos c]; omega), dec_val hq]
  have dp : dayP s := by
    refine ⟨sz10, by rw [sz]; split <;> omega, sz20, ?_, fun h => ?_⟩
    · refine like10 (a := c0) (b := c1) (c := c2) (d := c3) (e := c4) (f := c5) (g := c6) (h := c7) ?_ i0 i1 i2 i3 i4 i5 i6 i7
      rw [ext_L _ _ _ (by omega), hL]
      rfl
    · have c : 0 < d := by rw [sz] at h; split at h <;> omega
      refine ⟨?_, by rw [hn c]; omega⟩
      rw [bt_L s 10 (by omega), hL, ← hr, if_pos c]
      rfl
  have pv : partV s = P := by
    unfold partV
    by_cases c : 0 < d
    · rw [if_neg (by rw [sz, if_pos c]; omega), hn c, n1, n2, n3, eL]
      have : s.size - 11 = d := by rw [sz, if_pos c]; omega
      rw [this]
      exact e
    · rw [if_pos (by rw [sz, if_neg c])]
      obtain rfl : d = 0 := by omega
      obtain rfl : q = 0 := by omega
      have : upI (((0 : Nat) : Int) * L) ((10 ^ 0 : Nat) : Int) = 0 := by simp [upI]
      rw [← e]
      exact this.symm
  refine ⟨P, Or.inl ⟨⟨dp, ?_⟩, ?_, rfl⟩, Or.inr (Or.inr ⟨by omega, by omega, Int.le_trans b1 lo, Int.lt_of_lt_of_le hi b2, _, _, _, z, k, dy, ?_, rfl⟩), sz20, fun P0 h0 => mn P0 ?_⟩
  · rw [n1, n2, n3]
    exact ⟨hw, by omega, by omega, by omega, by omega, by omega, by omega, by omega, Or.inl (by omega)⟩
  · unfold dayV
    rw [n1, n2, n3, pv]
    unfold timeOf
    omega
  · rw [dl, eL, hs]
    have : dn y m D - mo y m + 1 = D := by rw [dn_mo]; omega
    rw [this]
    congr 1
    unfold fracQ
    rw [show bgv (dn y m D) y m + (P : Int) - bgv (dn y m D) y m = P by omega]
    simp only [Int.toNat_natCast]
    exact eq.symm
  · rw [eL] at h0
    have e2 : ((10 ^ d : Nat) : Int) = 10 ^ d := by simp
    rw [← e2, ← Int.natCast_mul, ← Int.natCast_ediv] at h0
    omega
theorem day_parse {t d : Int} {s : ByteArray} (a : DayIs t d s 0) : ∃ v, PDayIs s v 0 ∧ v ≤ t ∧ DayIs v d s 0 ∧ s.size ≤ 20 := by
  rcases a with ⟨_, _, c⟩ | ⟨_, _, _, _, c⟩ | ⟨d0, d6, b1, b2, n, y, m, z, k, hd, hs, _⟩
  · omega
  · omega
  obtain ⟨d, rfl⟩ : ∃ e : Nat, d = e := ⟨d.toNat, by omega⟩
  rw [Int.toNat_natCast] at *
  have hw : wholeP y m (n - mo y m + 1) := ⟨hd.y1, by have := hd.y2; omega, hd.ym.m1, hd.ym.m12, by have := hd.ym.lo; omega, by have := hd.ym.hi; omega⟩
  have e : dn y m (n - mo y m + 1) = n := by rw [dn_mo]; omega
  obtain ⟨P0, L, T, p1, p2, p3, p4, p5, p6, p7, p8, p9, p10, p11, p12⟩ := part_nat hd d (by omega)
  have eL := day_diff hw (by rw [e]; exact hd.zk)
  rw [e, p2] at eL
  rw [p8, p3] at hs
  rw [p3] at p10
  obtain ⟨P, q1, q2, q3, q4⟩ := day_core (by omega) hw p10 hs
  rw [e] at q1 q2
  refine ⟨bgv n y m + P, q1, ?_, q2, q3⟩
  have := q4 P0 (by
    rw [← eL]
    have e2 : ((10 ^ d : Nat) : Int) = 10 ^ d := by simp
    rw [← e2, ← Int.natCast_mul, ← Int.natCast_ediv])
  omega
theorem parse_day {s : ByteArray} {v : Int} (a : PDayIs s v 0) : DayIs v (if 0 ≤ (s.size : Int) - 11 then (s.size : Int) - 11 else 0) s 0 ∧ s.size ≤ 20 := by
  have a' := a
  rcases a with ⟨⟨⟨t1, t2, t3, t5, t6⟩, ok⟩, hv, _⟩ | ⟨_, _, c⟩
  · refine ⟨?_, t3⟩
    obtain ⟨c0, c1, c2, c3, c4, c5, c6, c7, r, hL, i0, i1, i2, i3, i4, i5, i6, i7⟩ := split10 (by omega) t5
    have sz : s.size = 10 + r.length := by have := congrArg List.length hL; simp at this; omega
    obtain ⟨n1, n2, n3⟩ := day_nums hL
    have hw := ok.1
    have ed : (if 0 ≤ (s.size : Int) - 11 then (s.size : Int) - 11 else 0) = ((s.size - 11 : Nat) : Int) := by split <;> omega
    have key : ∃ q, q < 10 ^ (s.size - 11) ∧ (if 0 < s.size - 11 then 46 :: decL q (s.size - 11) else []) = r := by
      match r, sz with
      | [], sz => exact ⟨0, Nat.pow_pos (by omega), by rw [if_neg (by simp at sz; omega)]⟩
      | y :: T, sz =>
        have sz : s.size = 11 + T.length := by simp at sz; omega
        obtain ⟨p1, p2⟩ := t6 (by omega)
        rw [bt_L s 10 (by omega), hL] at p1
        have hy : y = 46 := u8_val (n := 46) (by omega) p1
        subst hy
        have eN : nm s 11 s.size = numV T := by
          rw [nm_L hL _ _ (Nat.le_refl _)]
          have e : (List.drop 11 (l10 c0 c1 c2 c3 c4 c5 c6 c7 (46 :: T))) = T := rfl
          rw [e, List.take_of_length_le (by omega)]
        have aT : allD T := (numV_nn T).1 (by rw [← eN]; exact p2)
        have hb := numL_bd T T.length (Nat.le_refl _) (by rw [List.take_length]; exact aT)
        rw [List.take_length] at hb
        have := dec_of aT
        have eT : s.size - 11 = T.length := by omega
        refine ⟨(numL T).toNat, ?_, ?_⟩
        · rw [eT]
          have e : ((10 ^ T.length : Nat) : Int) = 10 ^ T.length := by simp
          omega
        · rw [if_pos (by omega), eT, this]
    obtain ⟨q, hq, hr⟩ := key
    have hs : s = daytS (nm s 0 4).toNat (nm s 5 7).toNat (nm s 8 10).toNat q (s.size - 11) := by
      apply toL_inj
      rw [dayt_L, n1, n2, n3, val4 i0 i1 i2 i3, val2 i4 i5, val2 i6 i7, hr, hL]
      rfl
    obtain ⟨P, q1, q2, _, _⟩ := day_core (by omega) hw hq hs
    obtain ⟨ev, _⟩ := a'.uniq q1
    rw [ed, ev]
    exact q2
  · omega
end At
end Go.Proofs.YtmgehfakcnmdnaaGreatDoor
/-
  The walk of ParseDay of package moment.
-/
namespace Go.Proofs.YtmgehfakcnmdnaaGreatDoor
namespace Ap
open Go.RowKit Lw Go.Proofs.YtmgehfakcnmdnaaGreatDoor.Mp

def PDayPost (s : ByteArray) (w : World) (e : Ending) (w' : World) : Prop := ∃ t c : Int, e = .returned (.tuple #[.int .i64 t, .int .i64 c]) ∧ PDayIs s t c ∧ Below w.heap.size w w'
theorem pday_not {s : ByteArray} (h : ¬ progD s) : PDayIs s 0 12 := Or.inr ⟨fun g => h (day_prog g.1), rfl, rfl⟩
theorem time_bd {y m d : Int} (hw : wholeP y m d) : -1000000000000000 ≤ timeOf y m d 0 0 0 0 ∧ timeOf y m d 0 0 0 0 ≤ 4000000000000000 := by
  have r := wholeP_range hw
  have b := bgv_bd (dn y m d) y m (by omega) (by omega)
  unfold timeOf
  omega
set_option maxRecDepth 100000 in
set_option maxHeartbeats 8000000 in
theorem pday_any (s : ByteArray) (w : World) (hs : s.size ≤ 100) :
    Calls Tryz.prog 28 #[.string s] w (PDayPost s w) := by
  have M : maxLen = 9223372036854775807 := rfl
  have CU := cut_any s w (by omega)
  have hsz : (hdP s).size ≤ 100 := by unfold hdP; rw [size_ext s _ _ (ptS_le s)]; have := ptS_le s; omega
  have tsz : (tlP s).size ≤ 100 := by
    unfold tlP
    split
    · rw [size_ext s _ _ (by omega)]; omega
    · decide
  obtain ⟨h, eh⟩ : ∃ h, hdP s = h := ⟨_, rfl⟩
  obtain ⟨t, et⟩ : ∃ t, tlP s = t := ⟨_, rfl⟩
  have EH := Lib.hid eh
  have ET := Lib.hid et
  rw [eh] at hsz
  rw [et] at tsz
  rw [eh, et] at CU
  clear eh et
  have FH := Lib.hid (fun w' => fields_any h P10 w' (by decide) (by omega) run10)
  generalize hp : decide (ptS s < s.size) = pb at CU
  replace hp := Lib.hid hp
  go_enter Tryz.func28, Tryz.ntmps28
  go_wp2_with fail
  refine CU.mono ?_
  rintro e w1 ⟨rfl, hb1⟩
  have B1 := Lib.hid hb1
  clear hb1 CU
  go_wp2_with fail
  refine (FH.out _).mono ?_
  rintro e w2 ⟨hb2, hf⟩
  have B2 := Lib.hid (below_then B1.out hb2)
  clear hb2 FH
  rcases hf with ⟨lk, v, rfl, hown⟩ | ⟨lk, rfl⟩
  · by_cases ht : pb = true ∧ (t.size = 0 ∨ 9 < t.size)
    · obtain ⟨rfl, ht⟩ := ht
      have N := Lib.hid (pday_not (s := s) fun g => by
        have := g.2.1
        rw [ET.out] at this
        have := this (of_decide_eq_true hp.out)
        omega)
      rcases ht with ht | ht
      · have em := empty_yes ht
        clear hown lk ht
        go_wp2_with fail
        go_ret2
        exact ⟨0, 12, rfl, N.out, B2.out⟩
      · have em := empty_no (t := t) (by omega)
        have ht' : (9 : Int) < (t.size : Int) := by omega
        clear hown lk ht
        go_wp2_with fail
        go_ret2
        exact ⟨0, 12, rfl, N.out, B2.out⟩
    · have ht9 : t.size ≤ 9 ∧ (pb = true → 1 ≤ t.size) := by
        cases pb with
        | true => exact ⟨Nat.le_of_not_lt fun h => ht ⟨rfl, Or.inr h⟩, fun _ => Nat.pos_of_ne_zero fun h => ht ⟨rfl, Or.inl h⟩⟩
        | false =>
          have e : tlP s = ⟨#[]⟩ := if_neg (of_decide_eq_false hp.out)
          rw [ET.out] at e
          rw [e]
          exact ⟨by decide, fun g => by cases g⟩
      obtain ⟨ht9, ht1⟩ := ht9
      have GT : Hid (allD t.data.toList → progD s) := Lib.hid fun ad => ⟨by rw [EH.out]; exact lk, by
        rw [ET.out]
        intro hlt
        have := ht1 (hp.out.symm.trans (decide_eq_true hlt))
        omega, by rw [ET.out]; exact ad⟩
      have T9 := Lib.hid ht9
      have HO := Lib.hid (And.intro lk hown)
      have hcase : pb = false ∨ (pb = true ∧ t.toList.isEmpty = false) := by
        cases pb with
        | true => exact Or.inr ⟨rfl, empty_no (by have := ht1 rfl; omega)⟩
        | false => exact Or.inl rfl
      have i0 : 0 ≤ (t.size : Int) := by omega
      have i7 : ¬ (9 : Int) < (t.size : Int) := by omega
      clear ht ht1 ht9 lk hown hp
      obtain ⟨W, cap, hcv, hH, hBW, _⟩ := bytes_in w2 t
      have CO := contains_any t w2.heap.size cap W (by omega) hH
      have BW := Lib.hid (below_then B2.out hBW)
      have bW := Lib.hid hBW
      clear hBW hH
      by_cases ad : allD t.data.toList
      · rw [show decide (¬ allD t.data.toList) = false from decide_eq_false (not_not_intro ad)] at CO
        have g := GT.out ad
        obtain ⟨tp, hh, mv⟩ := prog_day g
        rw [EH.out] at hh
        rw [ET.out] at mv
        obtain ⟨lk, hown⟩ := HO.out
        rw [hh] at lk hown
        rw [vals10 lk (by have := tp.1; omega)] at hown
        obtain ⟨g1, cap1, rfl, hg1, hc1⟩ := row_cells hown (by simp)
        have q0 := (bW.out.cell (p := ⟨g1, 0, none⟩) hg1).trans (hc1 0 _ rfl)
        have q1 := (bW.out.cell (p := ⟨g1, 1, none⟩) hg1).trans (hc1 1 _ rfl)
        have q2 := (bW.out.cell (p := ⟨g1, 2, none⟩) hg1).trans (hc1 2 _ rfl)
        have lg1 : g1 < W.heap.size := Nat.lt_of_lt_of_le hg1 bW.out.size
        obtain ⟨n, hn, hnv⟩ := parse_u t ad T9.out
        have zs : ((⟨#[48]⟩ : ByteArray) ++ t).size = 1 + t.size := by rw [ByteArray.size_append]; rfl
        have PU := Lib.hid (fun w' => Tryz.strconv_ParseUint_10_at64_ok _ (by rw [zs]; omega) n hn w')
        have hn9 : n < 1000000000 := by
          have e : t.data.toList.take t.data.toList.length = t.data.toList := List.take_length
          have := numL_bd _ _ (Nat.le_refl _) (by rw [e]; exact ad)
          rw [e] at this
          have h9 : ∀ r : Nat, r ≤ 9 → (10 : Int) ^ r ≤ 1000000000 := by decide
          have := h9 t.data.toList.length T9.out
          omega
        rw [← hnv] at mv
        have MV0 := mv
        have TP := Lib.hid tp
        have AD := ad
        have HN := Lib.hid hnv.symm
        clear ad hown hc1 hg1 mv tp g lk hh HO GT bW hn hnv zs
        have FU := Lib.hid (fun w' => Mw.from_any (nm s 0 4) (nm s 5 7) (nm s 8 10) 0 0 0 0 w')
        obtain ⟨T, eT⟩ : ∃ T : Nat, T = 10 ^ t.size := ⟨_, rfl⟩
        have TE : Hid (∀ w', Calls Tryz.prog 36 #[.int .i64 t.size] w' fun e w'' => e = .returned (.int .u64 (T : Int)) ∧ w' = w'') := Lib.hid fun w' => by rw [eT]; exact ten_any t.size w' (by have := T9.out; omega)
        have n10 : n < T := by
          have e : t.data.toList.take t.data.toList.length = t.data.toList := List.take_length
          have := (numL_bd _ _ (Nat.le_refl _) (by rw [e]; exact AD)).2
          rw [e, HN.out] at this
          have hl : t.data.toList.length = t.size := rfl
          rw [hl] at this
          rw [eT]
          exact_mod_cast this
        have T10 : T ≤ 1000000000 := by
          have h9 : ∀ r : Nat, r ≤ 9 → 10 ^ r ≤ 1000000000 := by decide
          rw [eT]; exact h9 _ T9.out
        rw [show tenI t.size = (T : Int) by rw [eT]; rfl] at MV0
        have MV := Lib.hid MV0
        clear MV0 eT AD
        rcases (show pb = false ∨ (pb = true ∧ t.toList.isEmpty = false) from hcase) with rfl | ⟨rfl, em⟩
        all_goals
          go_wp2_with fail
          refine CO.mono ?_
          rintro e w' ⟨rfl, rfl⟩
          go_wp2_with fail
          go_region_held3 (fun w' => w'.cell? ⟨g1, 0, none⟩ = some (.int .i64 (nm s 0 4)) ∧ w'.cell? ⟨g1, 1, none⟩ = some (.int .i64 (nm s 5 7)) ∧ w'.cell? ⟨g1, 2, none⟩ = some (.int .i64 (nm s 8 10))) (go_keep) (first | (go_at_call 18; refine (FU.out _).mono ?_; rintro e w4 ⟨ti, c, rfl, hfi, hb4⟩; have m0 := (hb4.cell (p := ⟨g1, 0, none⟩) lg1).trans q0; have m1 := (hb4.cell (p := ⟨g1, 1, none⟩) lg1).trans q1; have m2 := (hb4.cell (p := ⟨g1, 2, none⟩) lg1).trans q2))
          have B4 := Lib.hid (below_then BW.out.drew hb4)
          have lg4 : g1 < w4.heap.size := Nat.lt_of_lt_of_le lg1 hb4.size
          clear q0 q1 q2 hb4
          rcases hfi with ⟨f1, f2, rfl⟩ | ⟨f1, rfl, rfl⟩
          · have hw := f1.1
            have F1 := Lib.hid f1
            have hI := wholeP_ym hw
            obtain ⟨n1, n2⟩ := wholeP_range hw
            obtain ⟨z, k, z1, z2, hzk⟩ := ym_ex (dn (nm s 0 4) (nm s 5 7) (nm s 8 10) + 1) (by omega) (by omega)
            have dd := day_diff hw hzk
            obtain ⟨D, eD⟩ : ∃ D : Nat, (D : Int) = dayLen (nm s 0 4) (nm s 5 7) (nm s 8 10) := ⟨(dayLen (nm s 0 4) (nm s 5 7) (nm s 8 10)).toNat, by have := dayLen_bd (nm s 0 4) (nm s 5 7) (nm s 8 10); omega⟩
            rw [← eD] at dd
            have dl := dayLen_bd (nm s 0 4) (nm s 5 7) (nm s 8 10)
            have D0 : D ≤ 86401000000 := by omega
            have bd := bgv_bd (dn (nm s 0 4) (nm s 5 7) (nm s 8 10)) (nm s 0 4) (nm s 5 7) (by omega) (by omega)
            have bd2 := bgv_bd (dn (nm s 0 4) (nm s 5 7) (nm s 8 10) + 1) z k (by omega) (by omega)
            have tbd := time_bd hw
            rw [← f2] at tbd
            have wD : IntKind.u64.wrap (D : Int) = (D : Int) := Dv.w_id (by omega)
            have PQ : n * D < T * 18446744073709551616 := Nat.lt_of_lt_of_le (Nat.mul_lt_mul_of_pos_right n10 (by omega)) (Nat.mul_le_mul_left _ (by omega))
            obtain ⟨H, L, hM, hD⟩ := Dv.mul_div n D T (by omega) (by omega) (by omega) PQ
            have qb : n * D / T ≤ D := by
              have : n * D ≤ T * D := Nat.mul_le_mul_right _ (Nat.le_of_lt n10)
              have h2 := Nat.div_le_div_right (c := T) this
              rw [Nat.mul_div_cancel_left _ (by omega)] at h2
              exact h2
            have FIN : Hid (∀ v : Int, v = ti + (((n * D / T : Nat) : Int) + (if 0 < n * D % T then 1 else 0)) → PDayIs s v 0) := Lib.hid fun v hv => Or.inl ⟨⟨TP.out, F1.out⟩, by
              rw [hv]
              unfold dayV
              rw [MV.out, ← eD, f2]
              unfold upI
              congr 1
              have e1 : (n : Int) * (D : Int) / (T : Int) = ((n * D / T : Nat) : Int) := by rw [← Int.natCast_mul, ← Int.natCast_ediv]
              have e2 : (n : Int) * (D : Int) % (T : Int) = ((n * D % T : Nat) : Int) := by rw [← Int.natCast_mul, ← Int.natCast_emod]
              rw [e1, e2]
              congr 1
              by_cases g : 0 < n * D % T
              · rw [if_pos g, if_pos (by omega)]
              · rw [if_neg g, if_neg (by omega)], rfl⟩
            have DY := Lib.hid (fun w' => Mw.days_any (nm s 0 4) (nm s 5 7) (nm s 8 10) w' (by have := hw.1; omega) (by have := hw.2.1; omega) hw.2.2.1 (by have := hw.2.2.2.1; omega) (by have := hw.2.2.2.2.1; omega) (by have := hw.2.2.2.2.2; have := mo_len (nm s 0 4) (nm s 5 7) hw.2.2.1 hw.2.2.2.1; omega))
            have BE := Lib.hid (fun w' => Mw.begin_any (dn (nm s 0 4) (nm s 5 7) (nm s 8 10) + 1) z k w' hzk z1 z2)
            have BG := Lib.hid (fun w' => Mw.begin_any (dn (nm s 0 4) (nm s 5 7) (nm s 8 10)) (nm s 0 4) (nm s 5 7) w' hI (by have := hw.1; omega) (by have := hw.2.1; omega))
            have HM := Lib.hid hM
            have HD := Lib.hid hD
            have P0 := Lib.hid PQ
            clear f1 f2 hw hI hzk hM hD PQ eD dl n10
            generalize n * D / T = q at *
            generalize n * D % T = r at *
            go_wp2_with fail
            refine (PU.out _).mono ?_
            rintro e w5 ⟨rfl, hw5⟩
            have hb5 : Below w4.heap.size w4 w5 := by
              rcases hw5 with h | h
              · rw [h]; exact Below.refl _ _
              · rw [h]; exact Lib.bytesWorld_below _ _ _
            have B5 := Lib.hid (below_then B4.out hb5)
            have p0 := (hb5.cell (p := ⟨g1, 0, none⟩) lg4).trans m0
            have p1 := (hb5.cell (p := ⟨g1, 1, none⟩) lg4).trans m1
            have p2 := (hb5.cell (p := ⟨g1, 2, none⟩) lg4).trans m2
            clear m0 m1 m2 hb5 hw5
            go_wp2_with fail
            go_region_held3 (fun w' => w'.cell? ⟨g1, 0, none⟩ = some (.int .i64 (nm s 0 4)) ∧ w'.cell? ⟨g1, 1, none⟩ = some (.int .i64 (nm s 5 7)) ∧ w'.cell? ⟨g1, 2, none⟩ = some (.int .i64 (nm s 8 10))) (go_keep) (first | (go_at_call 52; refine (DY.out _).mono ?_; rintro e w' ⟨rfl, rfl⟩))
            generalize dn (nm s 0 4) (nm s 5 7) (nm s 8 10) = nn at *
            clear p0 p1 p2 DY PU FU
            go_wp2_with fail
            refine (BE.out _).mono ?_
            rintro e w6 ⟨rfl, hb6⟩
            have B6 := Lib.hid (below_then B5.out.drew hb6)
            clear hb6 BE
            go_wp2_with fail
            refine (BG.out _).mono ?_
            rintro e w7 ⟨rfl, hb7⟩
            have B7 := Lib.hid (below_then B6.out hb7)
            clear hb7 BG
            generalize bgv (nn + 1) z k = b1 at *
            generalize bgv nn (nm s 0 4) (nm s 5 7) = b0 at *
            go_wp2_with fail
            refine (HM.out _).mono ?_
            rintro e w' ⟨rfl, rfl⟩
            go_wp2_with fail
            refine (TE.out _).mono ?_
            rintro e w' ⟨rfl, rfl⟩
            go_wp2_with fail
            refine (HD.out _).mono ?_
            rintro e w8 ⟨rfl, hb8⟩
            have B8 := Lib.hid (below_then B7.out hb8)
            clear hb8
            by_cases hr : 0 < r
            · have F := Lib.hid (FIN.out (ti + ((q : Int) + 1)) (by rw [if_pos hr]))
              have hr' : (0 : Int) < (r : Int) := by omega
              go_wp2_with fail
              go_ret2
              exact ⟨_, 0, rfl, F.out, B8.out⟩
            · have F := Lib.hid (FIN.out (ti + (q : Int)) (by rw [if_neg hr, Int.add_zero]))
              have hr' : ¬ (0 : Int) < (r : Int) := by omega
              go_wp2_with fail
              go_ret2
              exact ⟨_, 0, rfl, F.out, B8.out⟩
          · have N := Lib.hid (show PDayIs s 0 12 from Or.inr ⟨fun g => f1 (g.2), rfl, rfl⟩)
            go_wp2_with fail
            go_ret2
            exact ⟨0, 12, rfl, N.out, B4.out⟩
      · rw [show decide (¬ allD t.data.toList) = true from decide_eq_true ad] at CO
        have N := Lib.hid (pday_not (s := s) fun g => ad (by have := g.2.2; rwa [ET.out] at this))
        clear ad GT HO
        rcases hcase with rfl | ⟨rfl, em⟩
        all_goals
          go_wp2_with fail
          refine CO.mono ?_
          rintro e w' ⟨rfl, rfl⟩
          go_wp2_with fail
          go_ret2
          exact ⟨0, 12, rfl, N.out, BW.out⟩
  · have N := Lib.hid (pday_not (s := s) fun g => lk (by have := g.1; rwa [EH.out] at this))
    go_wp2_with fail
    go_ret2
    exact ⟨0, 12, rfl, N.out, B2.out⟩
end Ap
end Go.Proofs.YtmgehfakcnmdnaaGreatDoor
/-
  Plain facts of MomentNames: what the calls return at its constants; no walk here.
-/
namespace Go.Proofs.YtmgehfakcnmdnaaGreatDoor
namespace At
open Go.RowKit Lw Ap Go.Proofs.YtmgehfakcnmdnaaGreatDoor.Mp Go.Proofs.YtmgehfakcnmdnaaGreatDoor.Mw

instance (y m d h i s u : Int) : Decidable (fromOk y m d h i s u) := by unfold fromOk wholeP leapday; infer_instance
instance (s : ByteArray) : Decidable (textP s) := by unfold textP; infer_instance
instance (s : ByteArray) : Decidable (okText s) := by unfold okText; infer_instance
instance (s : ByteArray) : Decidable (dayP s) := by unfold dayP; infer_instance
instance (s : ByteArray) : Decidable (okDay s) := by unfold okDay; infer_instance
theorem from_k {y m d h i s u : Int} (t : Int) (a : fromOk y m d h i s u) (b : timeOf y m d h i s u = t) : FromIs y m d h i s u t 0 := Or.inl ⟨a, b.symm, rfl⟩
theorem from_n {y m d h i s u : Int} (a : ¬ fromOk y m d h i s u) : FromIs y m d h i s u 0 2 := Or.inr ⟨a, rfl, rfl⟩
theorem to_k {y m d h i s u t : Int} (a : fromOk y m d h i s u) (b : timeOf y m d h i s u = t) : ToIs t y m d h i s u 0 := (from_k t a b).back
theorem to_n {t : Int} (h : t < bgv (-10227) 1972 1 ∨ bgv 36525 2100 1 ≤ t) : ToIs t 0 0 0 0 0 0 0 16 := Or.inl ⟨h, rfl, rfl, rfl, rfl, rfl, rfl, rfl, rfl⟩
theorem text_k {y m d h i s u t : Int} {dd : Nat} {x : ByteArray} (hd : dd ≤ 6) (a : fromOk y m d h i s u) (b : timeOf y m d h i s u = t)
    (e : x = textS y.toNat m.toNat d.toNat h.toNat i.toNat s.toNat u.toNat dd) : TextIs t dd x 0 := by
  subst b
  obtain ⟨z, k, hd, e1, e2, e3, e4, e5⟩ := from_to a
  have b1 := bgv_mono hd.ym ym_72 hd.n1
  have b2 := bgv_mono ym_00 hd.zk (by have := hd.n2; omega)
  refine Or.inr (Or.inr ⟨by omega, by omega, Int.le_trans b1 hd.lo, Int.lt_of_lt_of_le hd.hi b2, _, _, _, z, k, hd, ?_, rfl⟩)
  rw [← e1, ← e2, ← e3, ← e4, ← e5]
  exact e
theorem day_k {y m d h i s u t : Int} {dd : Nat} {x : ByteArray} (hd : dd ≤ 9) (a : fromOk y m d h i s u) (b : timeOf y m d h i s u = t)
    (e : x = daytS y.toNat m.toNat d.toNat (fracQ (t - bgv (dn y m d) y m) (dayLen y m d) dd) dd) : DayIs t dd x 0 := by
  subst b
  obtain ⟨z, k, hd, e1, e2, e3, e4, e5⟩ := from_to a
  have b1 := bgv_mono hd.ym ym_72 hd.n1
  have b2 := bgv_mono ym_00 hd.zk (by have := hd.n2; omega)
  refine Or.inr (Or.inr ⟨by omega, by omega, Int.le_trans b1 hd.lo, Int.lt_of_lt_of_le hd.hi b2, _, _, _, z, k, hd, ?_, rfl⟩)
  rw [← e1, day_diff a.1 hd.zk]
  exact e
theorem parse_k {s : ByteArray} {t : Int} (a : okText s) (b : textV s = t) : ParseIs s t 0 := Or.inl ⟨a, b.symm, rfl⟩
theorem parse_n {s : ByteArray} (a : ¬ okText s) : ParseIs s 0 12 := Or.inr ⟨a, rfl, rfl⟩
theorem pday_k {s : ByteArray} {t : Int} (a : okDay s) (b : dayV s = t) : PDayIs s t 0 := Or.inl ⟨a, b.symm, rfl⟩
theorem pday_n {s : ByteArray} (a : ¬ okDay s) : PDayIs s 0 12 := Or.inr ⟨a, rfl, rfl⟩
/-! ### The constants of alive -/
theorem k_to0 : ToIs 0 2000 1 1 11 58 55 816000 0 := to_k (by decide +kernel) (by decide +kernel)
theorem k_from : FromIs 2016 12 31 23 59 60 0 536500868184000 0 := from_k _ (by decide +kernel) (by decide +kernel)
/-- 2017-01-01T00:00:00Z -/
abbrev sA : ByteArray := ⟨#[50, 48, 49, 55, 45, 48, 49, 45, 48, 49, 84, 48, 48, 58, 48, 48, 58, 48, 48, 90]⟩
theorem k_parse : ParseIs sA 536500869184000 0 := parse_k (by decide +kernel) (by decide +kernel)
/-- 2000 01 01.499 -/
abbrev sB : ByteArray := ⟨#[50, 48, 48, 48, 32, 48, 49, 32, 48, 49, 46, 52, 57, 57]⟩
theorem k_day : DayIs 0 3 sB 0 := day_k (dd := 3) (by decide) (y := 2000) (m := 1) (d := 1) (h := 11) (i := 58) (s := 55) (u := 816000) (by decide +kernel) (by decide +kernel) (by decide +kernel)
end At
end Go.Proofs.YtmgehfakcnmdnaaGreatDoor
/-
  The reference's fractions: Make and Of, of numbers above zero.
-/
namespace Go.Proofs.YtmgehfakcnmdnaaGreatDoor
namespace Wd
open Go.RowKit Lw

set_option maxRecDepth 100000 in
set_option maxHeartbeats 4000000 in
theorem rmake_walk (V1 V2 : Value) (X Y : Nat) (w : World) (h1 : Wide 0 w V1 (X : Int)) (h2 : Wide 0 w V2 (Y : Int)) (hX : 0 < X) (hY : 0 < Y) (hx : (canon X).length ≤ 4000) (hy : (canon Y).length ≤ 4000) :
    Calls Tryz.prog 84 #[V1, V2] w fun e w' => ∃ V, e = .returned (.tuple #[V, .int .i64 0]) ∧ FracV w.heap.size w' V (X / Nat.gcd X Y) (Y / Nat.gcd X Y) ∧ Below w.heap.size w w' := by
  obtain ⟨a, n, ca, rfl, hA, -⟩ := wideN_inv h1
  obtain ⟨d, m, cd, rfl, hD, -⟩ := wideN_inv h2
  have hS0 := RX.new w (.slice a n ca) (.slice d m cd)
  have C1 := Lib.hid (fun w' (hb : Below w.heap.size w w') => rcheck_walk (.agg #[.bool false, .slice a n ca]) (X : Int) w' (wideN (hA.below hb) (fun _ _ _ => Nat.zero_le _)) (by rw [Int.natAbs_natCast]; omega))
  have C2 := Lib.hid (fun w' (hb : Below w.heap.size w w') => rcheck_walk (.agg #[.bool false, .slice d m cd]) (Y : Int) w' (wideN (hD.below hb) (fun _ _ _ => Nat.zero_le _)) (by rw [Int.natAbs_natCast]; omega))
  have RD := Lib.hid (fun w' (hb : Below w.heap.size w w') => rreducedN_walk (.agg #[.bool false, .slice a n ca]) (.agg #[.bool false, .slice d m cd]) X Y w' (wideN (hA.below hb) (fun _ _ _ => Nat.zero_le _)) (wideN (hD.below hb) (fun _ _ _ => Nat.zero_le _)) hX hY hx hy)
  have mp : 0 < m := by rw [← hD.len]; exact (canon_lenpos Y).2 hY
  have k1 : ¬ (m : Int) = 0 := by omega
  have HS := Lib.hid hS0
  clear hA hD hS0 h1 h2
  generalize X / Nat.gcd X Y = p at *
  generalize Y / Nat.gcd X Y = q at *
  go_enter Tryz.func84, Tryz.ntmps84
  go_wp2_with fail
  refine (C1.out _ HS.out.below).mono ?_
  rintro e w1 ⟨rfl, hb⟩
  have hS1 := HS.out.call hb
  have HS1 := Lib.hid hS1
  have d0 := hS1.y0
  have d1 := hS1.y1
  clear hb hS1
  go_wp2_with fail
  refine (C2.out _ HS1.out.below).mono ?_
  rintro e w2 ⟨rfl, hb⟩
  have hS2 := HS1.out.call hb
  have HS2 := Lib.hid hS2
  have c0 := hS2.x0
  have c1 := hS2.x1
  have d0 := hS2.y0
  have d1 := hS2.y1
  clear hb hS2
  go_wp2_with fail
  refine (RD.out _ HS2.out.below).mono ?_
  rintro e w4 ⟨V, rfl, ⟨aq, kq, cq, aq2, kq2, cq2, rfl, l1, l2, f1, f2⟩, hb⟩
  have hS4 := HS2.out.call hb
  have u0 := cellOf_some (hS4.th 0 (by omega)).1
  have u1 := cellOf_some (hS4.th 1 (by omega)).1
  have u2 := cellOf_some (hS4.th 2 (by omega)).1
  have u3 := cellOf_some (hS4.th 3 (by omega)).1
  have v0 := (hS4.th 0 (by omega)).2
  have v1 := (hS4.th 1 (by omega)).2
  have v2 := (hS4.th 2 (by omega)).2
  have v3 := (hS4.th 3 (by omega)).2
  have z3 := HS2.out.size
  have HS4 := Lib.hid hS4
  have L1 := Lib.hid l1
  have L2 := Lib.hid l2
  have G : FracV w.heap.size (w4.setCells (w.heap.size + 2) 0 [.bool false, .slice aq kq cq, .bool false, .slice aq2 kq2 cq2]) (.agg #[.bool false, .slice aq kq cq, .bool false, .slice aq2 kq2 cq2]) p q ∧ Below w.heap.size w (w4.setCells (w.heap.size + 2) 0 [.bool false, .slice aq kq cq, .bool false, .slice aq2 kq2 cq2]) :=
    ⟨⟨aq, kq, cq, aq2, kq2, cq2, rfl, L1.out.setCells (fun b off e => by have := f1 b off e; omega) _ _, L2.out.setCells (fun b off e => by have := f2 b off e; omega) _ _, fun b off e => by have := f1 b off e; omega, fun b off e => by have := f2 b off e; omega⟩, below_setCells _ (by omega) _ _ _ HS4.out.below⟩
  have GG := Lib.hid G
  clear hb hS4 l1 l2 G f1 f2 z3
  go_wp2_with fail
  exact bodyPost_ret (ret_cell_tmp Tryz.results84 _ _ (w.heap.size + 2) [.bool false, .slice aq kq cq, .bool false, .slice aq2 kq2 cq2] _ rfl (World.rangeAt_setCells_same _ _ _ _ HS4.out.th) Tryz.underlying31 rfl infoF) rfl ⟨_, rfl, GG.out⟩
set_option maxRecDepth 100000 in
set_option maxHeartbeats 4000000 in
theorem rof_walk (X Y : Nat) (w : World) (hX : 0 < X) (hY : 0 < Y) (hx : X < 9223372036854775808) (hy : Y < 9223372036854775808) :
    Calls Tryz.prog 50 #[.int .i64 X, .int .i64 Y] w fun e w' => ∃ V, e = .returned (.tuple #[V, .int .i64 0]) ∧ FracV w.heap.size w' V (X / Nat.gcd X Y) (Y / Nat.gcd X Y) ∧ Below w.heap.size w w' := by
  have b0 := (Below.refl w.heap.size w).alloc (Nat.le_refl _) (.cells #[.bool false, .slice none 0 0, .bool false, .slice none 0 0] 31)
  have t0 := there_new w #[.bool false, .slice none 0 0, .bool false, .slice none 0 0] 31 4 (by simp)
  have J0 := Lib.hid (JX.mk b0 t0)
  have F1 := Lib.hid (fun w => rfrom_walk (X : Int) w (by omega) (by omega))
  have F2 := Lib.hid (fun w => rfrom_walk (Y : Int) w (by omega) (by omega))
  have MK := Lib.hid (fun w' V1 V2 (h1 : Wide 0 w' V1 (X : Int)) (h2 : Wide 0 w' V2 (Y : Int)) => rmake_walk V1 V2 X Y w' h1 h2 hX hY (by have := len2 (n := X) (by omega); omega) (by have := len2 (n := Y) (by omega); omega))
  generalize X / Nat.gcd X Y = p at *
  generalize Y / Nat.gcd X Y = q at *
  clear b0 t0
  go_enter Tryz.func50, Tryz.ntmps50
  go_wp2_with fail
  refine (F1.out _).mono ?_
  rintro e w1 ⟨V1, rfl, hV1, hb1⟩
  have J1 := Lib.hid (J0.out.call hb1 (by simp))
  have HV1 := Lib.hid hV1
  have z1 := hb1.size
  simp only [World.size_alloc] at z1
  clear hV1 hb1 J0
  go_wp2_with fail
  refine (F2.out _).mono ?_
  rintro e w2 ⟨V2, rfl, hV2, hb2⟩
  have J2 := Lib.hid (J1.out.call hb2 (by omega))
  have z2 := hb2.size
  have mk := MK.out w2 V1 V2 ((HV1.out.below hb2).mono (Nat.zero_le _)) (hV2.mono (Nat.zero_le _))
  clear hV2 hb2 HV1 J1 MK
  go_wp2_with fail
  refine mk.mono ?_
  rintro e w9 ⟨V9, rfl, ⟨aq, kq, cq, aq2, kq2, cq2, rfl, m1, m2, p1, p2⟩, hb9⟩
  have J9 := J2.out.call hb9 (by omega)
  have u0 := cellOf_some (J9.th 0 (by omega)).1
  have u1 := cellOf_some (J9.th 1 (by omega)).1
  have u2 := cellOf_some (J9.th 2 (by omega)).1
  have u3 := cellOf_some (J9.th 3 (by omega)).1
  have v0 := (J9.th 0 (by omega)).2
  have v1 := (J9.th 1 (by omega)).2
  have v2 := (J9.th 2 (by omega)).2
  have v3 := (J9.th 3 (by omega)).2
  have G : FracV w.heap.size (w9.setCells w.heap.size 0 [.bool false, .slice aq kq cq, .bool false, .slice aq2 kq2 cq2]) (.agg #[.bool false, .slice aq kq cq, .bool false, .slice aq2 kq2 cq2]) p q ∧ Below w.heap.size w (w9.setCells w.heap.size 0 [.bool false, .slice aq kq cq, .bool false, .slice aq2 kq2 cq2]) :=
    ⟨⟨aq, kq, cq, aq2, kq2, cq2, rfl, m1.setCells (fun b off e => by have := p1 b off e; omega) _ _, m2.setCells (fun b off e => by have := p2 b off e; omega) _ _, fun b off e => by have := p1 b off e; omega, fun b off e => by have := p2 b off e; omega⟩, below_setCells _ (Nat.le_refl _) _ _ _ J9.below⟩
  have hr := World.rangeAt_setCells_same w9 w.heap.size 0 [.bool false, .slice aq kq cq, .bool false, .slice aq2 kq2 cq2] J9.th
  have GG := Lib.hid (And.intro hr G)
  clear hr G J9 m1 m2 p1 p2 hb9 mk J2 F1 F2
  go_wp2_with fail
  exact bodyPost_ret (ret_cell_tmp Tryz.results50 _ _ w.heap.size [.bool false, .slice aq kq cq, .bool false, .slice aq2 kq2 cq2] _ rfl GG.out.1 Tryz.underlying31 rfl infoF) rfl ⟨_, rfl, GG.out.2⟩
end Wd
end Go.Proofs.YtmgehfakcnmdnaaGreatDoor
