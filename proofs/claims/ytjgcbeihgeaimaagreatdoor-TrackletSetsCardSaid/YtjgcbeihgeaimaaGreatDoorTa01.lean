/-
  Lemmas and walks, texts joined: MPa, MPl, Law, MWalk1, MWalk2, MWalk3, MWalk4, MWalk5, MRef1, MRef2, MRef3, MRef5d, MRef6.
-/
import Derived.WalkKit
import Derived.Deep.WholeRow
import Derived.Deep.MidRow
import Derived.Below
import Derived.Deep.QuietTactic
import Derived.ProofKit
import Derived.Outline
import Derived.Lib.Hide
import Derived.BigQuiet
import Derived.WalkLawsBesides
import Derived.WalkSpells
import Derived.Test.YtjgcbeihgeaimaaGreatDoorRows
set_option linter.unusedSimpArgs false
set_option linter.unusedVariables false
/-
  Plain mathematics of the calendar and the leap seconds, for any whole numbers; no program in sight.
-/
namespace Go.Proofs.YtjgcbeihgeaimaaGreatDoor
namespace Mp

/-- The months, counted from the year 0 on, from which one more leap second is in force. -/
def stepL : List Int := [23670, 23676, 23688, 23700, 23712, 23724, 23736, 23748, 23760, 23778, 23790, 23802, 23826, 23856, 23880, 23892, 23910, 23922, 23934, 23952, 23970, 23988, 24072, 24108, 24150, 24186, 24204]
def stepAt (j : Nat) : Int := stepL.getD j 0
/-- The leap seconds of the first steps that are in force in a month. -/
def lpsTo (k : Int) : Nat → Int
  | 0 => 10
  | i + 1 => lpsTo k i + if stepAt i ≤ k then 1 else 0
def lps (k : Int) : Int := lpsTo k 27
theorem lpsTo_bd (k : Int) (i : Nat) : 10 ≤ lpsTo k i ∧ lpsTo k i ≤ 10 + i := by
  induction i with
  | zero => simp [lpsTo]
  | succ i ih => simp only [lpsTo]; split <;> omega
theorem lps_step : ∀ k : Nat, k < 2000 → lps (23500 + k + 1) ≤ lps (23500 + k) + 1 ∧ lps (23500 + k) ≤ lps (23500 + k + 1) := by decide +kernel
end Mp
end Go.Proofs.YtjgcbeihgeaimaaGreatDoor
/-
  Plain mathematics of the calendar, for any whole numbers; no program in sight.
-/
namespace Go.Proofs.YtjgcbeihgeaimaaGreatDoor
namespace Mp

/-- The days from 2000-01-01 to a day of the calendar, years that begin in March. -/
def fday (y m d : Int) : Int := 365 * y + y / 4 - y / 100 + y / 400 + (153 * m - 457) / 5 + d - 730426
def dn (y m d : Int) : Int := if m < 3 then fday (y - 1) (m + 12) d else fday y m d
/-- The day with which a month begins. -/
def mo (y m : Int) : Int := dn y m 1
theorem dn_mo (y m d : Int) : dn y m d = mo y m + d - 1 := by unfold mo dn fday; split <;> omega
theorem mo_13 (y : Int) : mo y 13 = mo (y + 1) 1 := by unfold mo dn fday; rw [if_neg (by omega), if_pos (by omega)]; omega
theorem mo_year (y : Int) : mo y 1 = 365 * (y - 1) + (y - 1) / 4 - (y - 1) / 100 + (y - 1) / 400 - 730119 := by unfold mo dn fday; rw [if_pos (by omega)]; omega
theorem mo_year_le (a b : Int) (h : a ≤ b) : mo a 1 ≤ mo b 1 := by rw [mo_year, mo_year]; omega
theorem mo_le (y a b : Int) (h1 : 1 ≤ a) (h : a ≤ b) : mo y a ≤ mo y b := by
  unfold mo dn fday
  split <;> split <;> omega
theorem mo_len (y m : Int) (h1 : 1 ≤ m) (h : m ≤ 12) : mo y m + 28 ≤ mo y (m + 1) ∧ mo y (m + 1) ≤ mo y m + 31 := by
  unfold mo dn fday
  split <;> split <;> omega
/-- A day of a month. -/
structure IsYM (n y m : Int) : Prop where
  m1 : 1 ≤ m
  m12 : m ≤ 12
  lo : mo y m ≤ n
  hi : n < mo y (m + 1)
theorem IsYM.ylo {n y m : Int} (h : IsYM n y m) : mo y 1 ≤ n := by have := mo_le y 1 m (by omega) h.m1; have := h.lo; omega
theorem IsYM.yhi {n y m : Int} (h : IsYM n y m) : n < mo (y + 1) 1 := by have := mo_le y (m + 1) 13 (by have := h.m1; omega) (by have := h.m12; omega); have := h.hi; rw [← mo_13]; omega
theorem year_uniq {n y z : Int} (h1 : mo y 1 ≤ n) (h2 : n < mo (y + 1) 1) (h3 : mo z 1 ≤ n) (h4 : n < mo (z + 1) 1) : y = z := by
  rcases Int.lt_trichotomy y z with h | h | h
  · have := mo_year_le (y + 1) z (by omega); omega
  · exact h
  · have := mo_year_le (z + 1) y (by omega); omega
theorem month_uniq {n y m k : Int} (a1 : 1 ≤ m) (b1 : 1 ≤ k) (h1 : mo y m ≤ n) (h2 : n < mo y (m + 1)) (h3 : mo y k ≤ n) (h4 : n < mo y (k + 1)) : m = k := by
  rcases Int.lt_trichotomy m k with h | h | h
  · have := mo_le y (m + 1) k (by omega) (by omega); omega
  · exact h
  · have := mo_le y (k + 1) m (by omega) (by omega); omega
theorem year_ex (n : Int) (lo : Int) (k : Nat) (h1 : mo lo 1 ≤ n) (h2 : n < mo (lo + k) 1) : ∃ y : Int, lo ≤ y ∧ y < lo + k ∧ mo y 1 ≤ n ∧ n < mo (y + 1) 1 := by
  induction k with
  | zero => simp at h2; omega
  | succ k ih =>
    by_cases h : n < mo (lo + k) 1
    · obtain ⟨y, a, b, c, d⟩ := ih h
      exact ⟨y, a, by omega, c, d⟩
    · exact ⟨lo + k, by omega, by omega, by omega, by rw [show lo + (k : Int) + 1 = lo + ((k + 1 : Nat) : Int) by omega]; exact h2⟩
theorem month_ex (n y : Int) (k : Nat) (h1 : mo y 1 ≤ n) (h2 : n < mo y (1 + k)) : ∃ m : Int, 1 ≤ m ∧ m < 1 + k ∧ mo y m ≤ n ∧ n < mo y (m + 1) := by
  induction k with
  | zero => simp at h2; omega
  | succ k ih =>
    by_cases h : n < mo y (1 + k)
    · obtain ⟨m, a, b, c, d⟩ := ih h
      exact ⟨m, a, by omega, c, d⟩
    · exact ⟨1 + k, by omega, by omega, by omega, by rw [show 1 + (k : Int) + 1 = 1 + ((k + 1 : Nat) : Int) by omega]; exact h2⟩
/-- Each day of the years of which we speak lies in a month. -/
theorem ym_ex (n : Int) (h1 : -10400 ≤ n) (h2 : n ≤ 36700) : ∃ y m : Int, 1971 ≤ y ∧ y ≤ 2100 ∧ IsYM n y m := by
  obtain ⟨y, a, b, c, d⟩ := year_ex n 1971 130 (by rw [mo_year]; omega) (by rw [mo_year]; omega)
  obtain ⟨m, e, f, g, i⟩ := month_ex n y 12 c (by rw [show (1 : Int) + ((12 : Nat) : Int) = 13 by omega, mo_13]; exact d)
  exact ⟨y, m, a, by omega, e, by omega, g, i⟩
theorem ym_uniq {n y m z k : Int} (h : IsYM n y m) (g : IsYM n z k) : y = z ∧ m = k := by
  have e := year_uniq h.ylo h.yhi g.ylo g.yhi
  subst e
  exact ⟨rfl, month_uniq h.m1 g.m1 h.lo h.hi g.lo g.hi⟩
theorem le_of_mo {n y z : Int} (h : mo z 1 ≤ n) (g : n < mo (y + 1) 1) : z ≤ y := by
  rcases Int.lt_or_le y z with k | k
  · have := mo_year_le (y + 1) z (by omega); omega
  · exact k
theorem guess_hi (q : Nat) (h : q < 110) : mo (2000 + q) 1 ≤ 366 * q := by
  have : ∀ q : Nat, q < 110 → mo (2000 + q) 1 ≤ 366 * q := by decide +kernel
  exact this q h
theorem guess_lo (q : Nat) (h : q < 40) : mo (2000 - q) 1 ≤ -365 * q := by
  have : ∀ q : Nat, q < 40 → mo (2000 - q) 1 ≤ -365 * q := by decide +kernel
  exact this q h
theorem start_hi (n y : Int) (h0 : 0 ≤ n) (h1 : n ≤ 36889) (g : n < mo (y + 1) 1) : 2000 + n / 366 ≤ y := by
  refine le_of_mo (n := n) ?_ g
  have := guess_hi (n / 366).toNat (by omega)
  rw [show ((n / 366).toNat : Int) = n / 366 by omega] at this
  omega
theorem start_lo (n y : Int) (h0 : n < 0) (h1 : -10592 ≤ n) (g : n < mo (y + 1) 1) : 2000 - (364 - n) / 365 ≤ y := by
  refine le_of_mo (n := n) ?_ g
  have := guess_lo ((364 - n) / 365).toNat (by omega)
  rw [show (((364 - n) / 365).toNat : Int) = (364 - n) / 365 by omega] at this
  omega
theorem IsYM.range {n y m : Int} (h : IsYM n y m) (a : 1971 ≤ y) (b : y ≤ 2100) : -10592 ≤ n ∧ n ≤ 36889 := by
  have h1 := mo_year_le 1971 y a
  have h2 := mo_year_le (y + 1) 2101 (by omega)
  have h3 := h.ylo
  have h4 := h.yhi
  rw [mo_year 1971] at h1
  rw [mo_year 2101] at h2
  omega
/-- The time at which a day begins. -/
def bgv (n y m : Int) : Int := n * 86400000000 - 43200000000 + lps (12 * y + m - 1) * 1000000 + 32184000
theorem lps_bd (k : Int) : 10 ≤ lps k ∧ lps k ≤ 37 := by have := lpsTo_bd k 27; unfold lps; omega
theorem bgv_bd (n y m : Int) (h1 : -10592 ≤ n) (h2 : n ≤ 36889) : -1000000000000000 ≤ bgv n y m ∧ bgv n y m ≤ 4000000000000000 := by
  have := lps_bd (12 * y + m - 1); unfold bgv; omega
/-- A day of the calendar, of the years of which we speak. -/
def wholeP (y m d : Int) : Prop := 1972 ≤ y ∧ y < 2100 ∧ 1 ≤ m ∧ m ≤ 12 ∧ 1 ≤ d ∧ d ≤ mo y (m + 1) - mo y m
theorem wholeP_ym {y m d : Int} (h : wholeP y m d) : IsYM (dn y m d) y m := by
  obtain ⟨_, _, a, b, c, e⟩ := h
  rw [dn_mo]
  exact ⟨a, b, by omega, by omega⟩
/-- The day at whose end a leap second stands. -/
def leapday (y m d : Int) : Prop := d = mo y (m + 1) - mo y m ∧ lps (12 * y + m) = lps (12 * y + m - 1) + 1
/-- A date and a time of UTC. -/
def fromOk (y m d h i s u : Int) : Prop := wholeP y m d ∧ 0 ≤ h ∧ h ≤ 23 ∧ 0 ≤ i ∧ i ≤ 59 ∧ 0 ≤ s ∧ 0 ≤ u ∧ u < 1000000 ∧ (s < 60 ∨ s = 60 ∧ h = 23 ∧ i = 59 ∧ leapday y m d)
def timeOf (y m d h i s u : Int) : Int := bgv (dn y m d) y m + ((3600 * h + 60 * i + s) * 1000000 + u)
/-- What the call returns: the time, and the error. -/
def FromIs (y m d h i s u t e : Int) : Prop := (fromOk y m d h i s u ∧ t = timeOf y m d h i s u ∧ e = 0) ∨ (¬ fromOk y m d h i s u ∧ t = 0 ∧ e = 2)
theorem FromIs.uniq {y m d h i s u t e t' e' : Int} (a : FromIs y m d h i s u t e) (b : FromIs y m d h i s u t' e') : t = t' ∧ e = e' := by
  rcases a with ⟨a1, a2, a3⟩ | ⟨a1, a2, a3⟩ <;> rcases b with ⟨b1, b2, b3⟩ | ⟨b1, b2, b3⟩
  · exact ⟨by omega, by omega⟩
  · exact absurd a1 b1
  · exact absurd b1 a1
  · exact ⟨by omega, by omega⟩
/-- The months of consecutive days. -/
theorem next_ym {n y m z k : Int} (h : IsYM n y m) (g : IsYM (n + 1) z k) : (z = y ∧ k = m ∧ n + 1 < mo y (m + 1)) ∨ (12 * z + k = 12 * y + m + 1 ∧ n + 1 = mo y (m + 1)) := by
  have a1 := h.m1
  have a2 := h.m12
  by_cases hl : n + 1 < mo y (m + 1)
  · obtain ⟨e1, e2⟩ := ym_uniq g ⟨a1, a2, by have := h.lo; omega, hl⟩
    exact Or.inl ⟨e1, e2, hl⟩
  · have he : n + 1 = mo y (m + 1) := by have := h.hi; omega
    by_cases h12 : m = 12
    · subst h12
      rw [show (12 : Int) + 1 = 13 by omega, mo_13] at he
      obtain ⟨e1, e2⟩ := ym_uniq g (y := z) (m := k) (z := y + 1) (k := 1) ⟨by omega, by omega, by omega, by have := mo_len (y + 1) 1 (by omega) (by omega); omega⟩
      exact Or.inr ⟨by omega, by rw [show (12 : Int) + 1 = 13 by omega, mo_13]; exact he⟩
    · obtain ⟨e1, e2⟩ := ym_uniq g (y := z) (m := k) (z := y) (k := m + 1) ⟨by omega, by omega, by omega, by have := mo_len y (m + 1) (by omega) (by omega); omega⟩
      exact Or.inr ⟨by omega, he⟩
theorem lps_next (y m : Int) (a : 1971 ≤ y) (b : y ≤ 2100) (c : 1 ≤ m) (d : m ≤ 12) : lps (12 * y + m) ≤ lps (12 * y + m - 1) + 1 ∧ lps (12 * y + m - 1) ≤ lps (12 * y + m) := by
  have := lps_step (12 * y + m - 1 - 23500).toNat (by omega)
  rw [show (23500 : Int) + ((12 * y + m - 1 - 23500).toNat : Nat) = 12 * y + m - 1 by omega, show 12 * y + m - 1 + 1 = 12 * y + m by omega] at this
  exact this
/-- A day has 86,400 seconds, or one more if a leap second stands at its end. -/
theorem day_len {y m d z k : Int} (hw : wholeP y m d) (hz : IsYM (dn y m d + 1) z k) :
    (bgv (dn y m d + 1) z k = bgv (dn y m d) y m + 86400000000 ∧ ¬ leapday y m d) ∨ (bgv (dn y m d + 1) z k = bgv (dn y m d) y m + 86401000000 ∧ leapday y m d) := by
  have hI := wholeP_ym hw
  obtain ⟨a1, a2, a3, a4, a5, a6⟩ := hw
  have nx := next_ym hI hz
  have ml := mo_len y m a3 a4
  have dl : bgv (dn y m d + 1) z k = bgv (dn y m d) y m + 86400000000 + (lps (12 * z + k - 1) - lps (12 * y + m - 1)) * 1000000 := by unfold bgv; omega
  have ls := lps_next y m (by omega) (by omega) a3 a4
  unfold leapday
  rcases nx with ⟨rfl, rfl, h3⟩ | ⟨h3, h4⟩
  · rw [dn_mo] at h3
    exact Or.inl ⟨by omega, fun ⟨e, _⟩ => by omega⟩
  · rw [show 12 * z + k - 1 = 12 * y + m by omega] at dl
    rw [dn_mo] at h4
    by_cases e : lps (12 * y + m) = lps (12 * y + m - 1)
    · exact Or.inl ⟨by omega, fun ⟨_, f⟩ => by omega⟩
    · exact Or.inr ⟨by omega, by omega, by omega⟩
theorem wholeP_range {y m d : Int} (hw : wholeP y m d) : -10227 ≤ dn y m d ∧ dn y m d + 1 ≤ 36525 := by
  have hI := wholeP_ym hw
  have h1 := mo_year_le 1972 y hw.1
  have h2 := mo_year_le (y + 1) 2100 (by have := hw.2.1; omega)
  have h3 := hI.ylo
  have h4 := hI.yhi
  rw [mo_year 1972] at h1
  rw [mo_year 2100] at h2
  omega
/-- The day of a time, and the next one. -/
structure DayOf (t n y m z k : Int) : Prop where
  ym : IsYM n y m
  zk : IsYM (n + 1) z k
  lo : bgv n y m ≤ t
  hi : t < bgv (n + 1) z k
  n1 : -10227 ≤ n
  n2 : n ≤ 36524
  y1 : 1972 ≤ y
  y2 : y ≤ 2099
theorem ym_72 : IsYM (-10227) 1972 1 := ⟨by omega, by omega, by rw [mo_year]; omega, by unfold mo dn fday; rw [if_pos (by omega)]; omega⟩
theorem ym_00 : IsYM 36525 2100 1 := ⟨by omega, by omega, by rw [mo_year]; omega, by unfold mo dn fday; rw [if_pos (by omega)]; omega⟩
theorem dn_72 : dn 1972 1 1 = -10227 := by decide
theorem dn_00 : dn 2100 1 1 = 36525 := by decide
theorem day_ex_aux (t : Int) (h1 : bgv (-10227) 1972 1 ≤ t) (j : Nat) : j ≤ 46752 → (∀ y m, IsYM (-10227 + j) y m → t < bgv (-10227 + j) y m) → ∃ n y m z k, DayOf t n y m z k := by
  induction j with
  | zero =>
    intro _ h
    have := h 1972 1 (by rw [show (-10227 : Int) + ((0 : Nat) : Int) = -10227 by omega]; exact ym_72)
    rw [show (-10227 : Int) + ((0 : Nat) : Int) = -10227 by omega] at this
    omega
  | succ j ih =>
    intro hj h
    obtain ⟨y, m, y1, y2, hy⟩ := ym_ex (-10227 + j) (by omega) (by omega)
    by_cases ht : t < bgv (-10227 + j) y m
    · exact ih (by omega) fun y' m' h' => by obtain ⟨rfl, rfl⟩ := ym_uniq h' hy; exact ht
    · obtain ⟨z, k, z1, z2, hz⟩ := ym_ex (-10227 + j + 1) (by omega) (by omega)
      refine ⟨-10227 + j, y, m, z, k, hy, hz, by omega, ?_, by omega, by omega, ?_, ?_⟩
      · have := h z k (by rw [show (-10227 : Int) + ((j + 1 : Nat) : Int) = -10227 + j + 1 by omega]; exact hz)
        rw [show (-10227 : Int) + ((j + 1 : Nat) : Int) = -10227 + j + 1 by omega] at this
        exact this
      · have h72 := le_of_mo (n := -10227 + j) (z := 1972) (y := y) (by rw [mo_year]; omega) hy.yhi
        exact h72
      · rcases Int.lt_or_le y 2100 with e | e
        · omega
        · have := mo_year_le 2100 y e; have := hy.ylo; rw [mo_year 2100] at *; omega
theorem day_ex (t : Int) (h1 : bgv (-10227) 1972 1 ≤ t) (h2 : t < bgv 36525 2100 1) : ∃ n y m z k, DayOf t n y m z k :=
  day_ex_aux t h1 46752 (by omega) fun y m h => by
    obtain ⟨rfl, rfl⟩ := ym_uniq h ym_00
    exact h2
/-- A day that has begun is not behind the day of the time. -/
theorem DayOf.le {t n y m z k n' y' m' : Int} (h : DayOf t n y m z k) (g : IsYM n' y' m') (hb : bgv n' y' m' ≤ t) : n' ≤ n := by
  rcases Int.lt_or_le n n' with e | e
  · by_cases e1 : n' = n + 1
    · subst e1
      obtain ⟨rfl, rfl⟩ := ym_uniq g h.zk
      have := h.hi; omega
    · have a1 := lps_bd (12 * y' + m' - 1)
      have a2 := lps_bd (12 * z + k - 1)
      have := h.hi
      unfold bgv at *
      omega
  · exact e
theorem DayOf.uniq {t n y m z k n' y' m' z' k' : Int} (h : DayOf t n y m z k) (g : DayOf t n' y' m' z' k') : n = n' ∧ y = y' ∧ m = m' ∧ z = z' ∧ k = k' := by
  have a1 := h.le g.ym g.lo
  have a2 := g.le h.ym h.lo
  obtain rfl : n = n' := by omega
  obtain ⟨rfl, rfl⟩ := ym_uniq h.ym g.ym
  obtain ⟨rfl, rfl⟩ := ym_uniq h.zk g.zk
  exact ⟨rfl, rfl, rfl, rfl, rfl⟩
theorem DayOf.guess {t n y m z k : Int} (h : DayOf t n y m z k) : n ≤ (t - 32184000 + 43200000000).tdiv 86400000000 ∧ (t - 32184000 + 43200000000).tdiv 86400000000 ≤ n + 2 := by
  have a1 := lps_bd (12 * y + m - 1)
  have a2 := lps_bd (12 * z + k - 1)
  have h1 := h.lo
  have h2 := h.hi
  have e := Int.tdiv_eq_ediv (a := t - 32184000 + 43200000000) (b := 86400000000)
  unfold bgv at h1 h2
  have s : (86400000000 : Int).sign = 1 := rfl
  rw [s] at e
  split at e <;> omega
theorem DayOf.pass {t n y m z k : Int} (h : DayOf t n y m z k) : 0 ≤ t - bgv n y m ∧ t - bgv n y m < 86401000000 := by
  have h1 := h.lo
  have h2 := h.hi
  have hw : wholeP y m (n - mo y m + 1) := ⟨h.y1, by have := h.y2; omega, h.ym.m1, h.ym.m12, by have := h.ym.lo; omega, by have := h.ym.hi; omega⟩
  have e : dn y m (n - mo y m + 1) = n := by rw [dn_mo]; omega
  have := day_len (z := z) (k := k) hw (by rw [e]; exact h.zk)
  rw [e] at this
  rcases this with ⟨a, _⟩ | ⟨a, _⟩ <;> omega
/-- The minutes of a day that have passed: the leap second belongs to the last one. -/
def mins (p : Int) : Int := if p / 1000000 / 60 ≤ 1439 then p / 1000000 / 60 else 1439
/-! ### The reference's tables -/
def julL : List Int := [1972, 1981, 1982, 1983, 1985, 1992, 1993, 1994, 1997, 2012, 2015]
def janL : List Int := [1973, 1974, 1975, 1976, 1977, 1978, 1979, 1980, 1988, 1990, 1991, 1996, 1999, 2006, 2009, 2017]
def lenL : List Int := [0, 31, 28, 31, 30, 31, 30, 31, 31, 30, 31, 30, 31]
def julAt (j : Nat) : Int := julL.getD j 0
def janAt (j : Nat) : Int := janL.getD j 0
def lenAt (j : Nat) : Int := lenL.getD j 0
def rlj (y m : Int) : Nat → Int
  | 0 => 10
  | i + 1 => rlj y m i + if julAt i < y ∨ julAt i = y ∧ 7 ≤ m then 1 else 0
def rln (y m : Int) : Nat → Int
  | 0 => rlj y m 11
  | i + 1 => rln y m i + if janAt i ≤ y then 1 else 0
theorem rlj_bd (y m : Int) (i : Nat) : 10 ≤ rlj y m i ∧ rlj y m i ≤ 10 + i := by
  induction i with
  | zero => simp [rlj]
  | succ i ih => simp only [rlj]; split <;> omega
theorem rln_bd (y m : Int) (i : Nat) : 10 ≤ rln y m i ∧ rln y m i ≤ 21 + i := by
  induction i with
  | zero => have := rlj_bd y m 11; simp only [rln]; omega
  | succ i ih => simp only [rln]; split <;> omega
theorem jul_iff {y m : Int} (h1 : 1 ≤ m) (h2 : m ≤ 12) (c : Int) : (c < y ∨ c = y ∧ 7 ≤ m) = (12 * c + 6 ≤ 12 * y + m - 1) := by apply propext; omega
theorem jan_iff {y m : Int} (h1 : 1 ≤ m) (h2 : m ≤ 12) (c : Int) : (c ≤ y) = (12 * c ≤ 12 * y + m - 1) := by apply propext; omega
theorem rl_lps (y m : Int) (h1 : 1 ≤ m) (h2 : m ≤ 12) : rln y m 16 = lps (12 * y + m - 1) := by
  simp only [rln, rlj, lps, lpsTo]
  simp only [show julAt 0 = 1972 from rfl, show julAt 1 = 1981 from rfl, show julAt 2 = 1982 from rfl, show julAt 3 = 1983 from rfl, show julAt 4 = 1985 from rfl, show julAt 5 = 1992 from rfl, show julAt 6 = 1993 from rfl, show julAt 7 = 1994 from rfl, show julAt 8 = 1997 from rfl, show julAt 9 = 2012 from rfl, show julAt 10 = 2015 from rfl]
  simp only [show janAt 0 = 1973 from rfl, show janAt 1 = 1974 from rfl, show janAt 2 = 1975 from rfl, show janAt 3 = 1976 from rfl, show janAt 4 = 1977 from rfl, show janAt 5 = 1978 from rfl, show janAt 6 = 1979 from rfl, show janAt 7 = 1980 from rfl, show janAt 8 = 1988 from rfl, show janAt 9 = 1990 from rfl, show janAt 10 = 1991 from rfl, show janAt 11 = 1996 from rfl, show janAt 12 = 1999 from rfl, show janAt 13 = 2006 from rfl, show janAt 14 = 2009 from rfl, show janAt 15 = 2017 from rfl]
  simp only [show stepAt 0 = 23670 from rfl, show stepAt 1 = 23676 from rfl, show stepAt 2 = 23688 from rfl, show stepAt 3 = 23700 from rfl, show stepAt 4 = 23712 from rfl, show stepAt 5 = 23724 from rfl, show stepAt 6 = 23736 from rfl, show stepAt 7 = 23748 from rfl, show stepAt 8 = 23760 from rfl, show stepAt 9 = 23778 from rfl, show stepAt 10 = 23790 from rfl, show stepAt 11 = 23802 from rfl, show stepAt 12 = 23826 from rfl, show stepAt 13 = 23856 from rfl, show stepAt 14 = 23880 from rfl, show stepAt 15 = 23892 from rfl, show stepAt 16 = 23910 from rfl, show stepAt 17 = 23922 from rfl, show stepAt 18 = 23934 from rfl, show stepAt 19 = 23952 from rfl, show stepAt 20 = 23970 from rfl, show stepAt 21 = 23988 from rfl, show stepAt 22 = 24072 from rfl, show stepAt 23 = 24108 from rfl, show stepAt 24 = 24150 from rfl, show stepAt 25 = 24186 from rfl, show stepAt 26 = 24204 from rfl]
  generalize hK : 12 * y + m - 1 = K
  have ej : ∀ c : Int, (if c < y ∨ c = y ∧ 7 ≤ m then (1 : Int) else 0) = if 12 * c + 6 ≤ K then 1 else 0 := fun c => by simp only [jul_iff (y := y) h1 h2, hK]
  have en : ∀ c : Int, (if c ≤ y then (1 : Int) else 0) = if 12 * c ≤ K then 1 else 0 := fun c => by rw [← hK]; simp only [jan_iff (y := y) h1 h2]
  simp only [ej, en, Int.reduceMul, Int.reduceAdd]
  ac_rfl
def leapB (y : Int) : Bool := y % 4 == 0 && (y % 100 != 0 || y % 400 == 0)
theorem leapB_iff (y : Int) : leapB y = true ↔ y % 4 = 0 ∧ (y % 100 ≠ 0 ∨ y % 400 = 0) := by
  simp [leapB]
theorem len_two (y : Int) : mo y 3 - mo y 2 = if leapB y = true then 29 else 28 := by
  unfold mo dn fday
  rw [if_neg (by omega), if_pos (by omega)]
  split
  · rename_i h; rw [leapB_iff] at h; omega
  · rename_i h; rw [leapB_iff] at h; omega
theorem len_at (y : Int) (k : Nat) (h1 : 1 ≤ k) (h2 : k ≤ 12) (h : k ≠ 2) : mo y (k + 1) - mo y k = lenAt k := by
  have : k = 1 ∨ k = 3 ∨ k = 4 ∨ k = 5 ∨ k = 6 ∨ k = 7 ∨ k = 8 ∨ k = 9 ∨ k = 10 ∨ k = 11 ∨ k = 12 := by omega
  rcases this with rfl | rfl | rfl | rfl | rfl | rfl | rfl | rfl | rfl | rfl | rfl <;> simp [mo, dn, fday, lenAt, lenL] <;> omega
theorem yr_len (y : Int) : mo (y + 1) 1 = mo y 1 + 365 + if leapB y = true then 1 else 0 := by
  rw [mo_year, mo_year]
  split
  · rename_i h; rw [leapB_iff] at h; omega
  · rename_i h; rw [leapB_iff] at h; omega
theorem mo_2000 : mo 2000 1 = 0 := by decide
theorem mo_1972 : mo 1972 1 = -10227 := by decide
theorem bgv_mono {n y m n' y' m' : Int} (h : IsYM n y m) (g : IsYM n' y' m') (hn : n' ≤ n) : bgv n' y' m' ≤ bgv n y m := by
  by_cases e : n' = n
  · subst e
    obtain ⟨rfl, rfl⟩ := ym_uniq h g
    exact Int.le_refl _
  · have a1 := lps_bd (12 * y + m - 1)
    have a2 := lps_bd (12 * y' + m' - 1)
    unfold bgv; omega
theorem DayOf.gt {t n y m z k n' y' m' : Int} (h : DayOf t n y m z k) (g : IsYM n' y' m') (hb : n < n') : t < bgv n' y' m' := by
  rcases Int.lt_or_le t (bgv n' y' m') with e | e
  · exact e
  · have := h.le g e; omega
theorem ym_first (y m : Int) (h1 : 1 ≤ m) (h2 : m ≤ 12) : IsYM (mo y m) y m := ⟨h1, h2, Int.le_refl _, by have := mo_len y m h1 h2; omega⟩
/-- What ToUtc returns: the date, and the error. -/
def ToIs (t y m d h i s u c : Int) : Prop := ((t < bgv (-10227) 1972 1 ∨ bgv 36525 2100 1 ≤ t) ∧ y = 0 ∧ m = 0 ∧ d = 0 ∧ h = 0 ∧ i = 0 ∧ s = 0 ∧ u = 0 ∧ c = 16) ∨
  (bgv (-10227) 1972 1 ≤ t ∧ t < bgv 36525 2100 1 ∧ ∃ n z k, DayOf t n y m z k ∧ d = n - mo y m + 1 ∧ h = mins (t - bgv n y m) / 60 ∧ i = mins (t - bgv n y m) % 60 ∧ s = (t - bgv n y m) / 1000000 - 60 * mins (t - bgv n y m) ∧ u = (t - bgv n y m) % 1000000 ∧ c = 0)
theorem ToIs.uniq {t y m d h i s u c y' m' d' h' i' s' u' c' : Int} (a : ToIs t y m d h i s u c) (b : ToIs t y' m' d' h' i' s' u' c') : y = y' ∧ m = m' ∧ d = d' ∧ h = h' ∧ i = i' ∧ s = s' ∧ u = u' ∧ c = c' := by
  rcases a with ⟨a0, a⟩ | ⟨a1, a2, n, z, k, hd, a⟩ <;> rcases b with ⟨b0, b⟩ | ⟨b1, b2, n', z', k', hd', b⟩
  · omega
  · omega
  · omega
  · obtain ⟨rfl, rfl, rfl, _, _⟩ := hd.uniq hd'
    obtain ⟨rfl, rfl, rfl, rfl, rfl, rfl⟩ := a
    obtain ⟨rfl, rfl, rfl, rfl, rfl, rfl⟩ := b
    exact ⟨rfl, rfl, rfl, rfl, rfl, rfl, rfl, rfl⟩
end Mp
end Go.Proofs.YtjgcbeihgeaimaaGreatDoor
/-
  A store of a whole array into the block that was made last, as one operation of a walk, for any program; and a loaded cell of that block.
-/
namespace Go.Proofs.YtjgcbeihgeaimaaGreatDoor
namespace Lw
open Go.RowKit

section
variable {P : Program}
theorem wp_store_new {op : Oper} {a : Act} {w : World} {K : Act → World → Prop} {Q : Exit → Act → World → Prop} (ty : TypeId) (x y : Operand) (ho : op.op = .store ty x y)
    (c c' : Array Value) (hx : a.eval x = .pointer (some ⟨w.heap.size, 0, none⟩)) (hy : a.eval y = .agg c')
    (hi : (P.info? ty).map (·.size) = some c'.size) (hs : c.size = c'.size) (h1 : c'.all (·.oneCell') = true)
    (h : K (a.put op.dst undef) (w.alloc (.cells c' ty))) : op.wp P a (w.alloc (.cells c ty)) K Q := by
  unfold Oper.wp execOp
  simp only [ho, hx, hy, Instr.storeAt, Instr.sureAddr, Sem.run_bind, Sem.run_pure, Result.andThen_ok, run_storeVar_new w ty c c' hi hs h1]
  exact h
theorem wpList_store_new {ops : Array Oper} {rest : List Oper} {op : Oper} {a : Act} {w : World} {Q : Exit → Act → World → Prop} (hgd : op.guard = none) (ty : TypeId) (x y : Operand) (ho : op.op = .store ty x y)
    (c c' : Array Value) (hx : a.eval x = .pointer (some ⟨w.heap.size, 0, none⟩)) (hy : a.eval y = .agg c')
    (hi : (P.info? ty).map (·.size) = some c'.size) (hs : c.size = c'.size) (h1 : c'.all (·.oneCell') = true)
    (h : wpList P ops Q rest (a.put op.dst undef) (w.alloc (.cells c' ty))) : wpList P ops Q (op :: rest) a (w.alloc (.cells c ty)) :=
  wpList_plain hgd fun _ hK => wp_store_new ty x y ho c c' hx hy hi hs h1 (hK _ _ h)
end
section
variable {P : Program}
theorem wpList_store_new_at {ops : Array Oper} {rest : List Oper} {op : Oper} {a : Act} {w : World} {Q : Exit → Act → World → Prop} (hgd : op.guard = none) (ty : TypeId) (x y : Operand) (ho : op.op = .store ty x y)
    (c c' : Array Value) (n : Nat) (hn : n = w.heap.size) (hx : a.eval x = .pointer (some ⟨n, 0, none⟩)) (hy : a.eval y = .agg c')
    (hi : (P.info? ty).map (·.size) = some c'.size) (hs : c.size = c'.size) (h1 : c'.all (·.oneCell') = true)
    (h : wpList P ops Q rest (a.put op.dst undef) (w.alloc (.cells c' ty))) : wpList P ops Q (op :: rest) a (w.alloc (.cells c ty)) := by
  subst hn
  exact wpList_store_new hgd ty x y ho c c' hx hy hi hs h1 h
end
theorem quiet_add_left {P : Program} {f : FuncId} {args : Array Value} {w : World} {a n : Nat} {v : Value}
    (h : Calls P f args (w.drewN (a + n)) fun e w' => e = .returned v ∧ w.drewN (a + n) = w') :
    Calls P f args (w.drewN (a + n)) fun e w'' => e = .returned v ∧ ∃ m, w'' = w.drewN (a + m) :=
  h.mono fun _ _ ⟨he, hm⟩ => ⟨he, n, hm.symm⟩
theorem quiet_left {P : Program} {f : FuncId} {args : Array Value} {w : World} {n : Nat} {v : Value}
    (h : Calls P f args (w.drewN n) fun e w' => e = .returned v ∧ w.drewN n = w') : Calls P f args (w.drewN n) fun e w'' => e = .returned v ∧ ∃ m, w'' = w.drewN m :=
  h.mono fun _ _ ⟨he, hm⟩ => ⟨he, n, hm.symm⟩
theorem below_then {w0 w w' : World} (h : Below w0.heap.size w0 w) (hb : Below w.heap.size w w') : Below w0.heap.size w0 w' := h.trans (hb.mono h.size)
theorem drewN_below2 {B : Nat} {a w : World} (h : Below B a w) (n : Nat) : Below B a (w.drewN n) := ⟨h.os, h.tape, h.output, h.size, h.block⟩
theorem there_drewN {w : World} {b o n : Nat} (h : w.there b o n) (k : Nat) : (w.drewN k).there b o n := fun j hj => by simpa using h j hj
theorem ret_v {k : IntKind} {a b : Int} (h : a = b) : Value.int k a = .int k b := by rw [h]
theorem there_new (w : World) (c : Array Value) (t : TypeId) (n : Nat) (hn : n ≤ c.size) : (w.alloc (.cells c t)).there w.heap.size 0 n := fun j hj => by
  rw [Nat.zero_add, World.cell?_alloc_at _ _ _ _ rfl, World.frozen?_alloc_at _ _ _ _ rfl, Array.getElem?_eq_getElem (by omega)]
  exact ⟨rfl, rfl⟩
theorem there_below {W w1 : World} {b o n : Nat} (h : W.there b o n) (hb : Below W.heap.size W w1) (hlt : b < W.heap.size) : w1.there b o n := fun j hj => by
  rw [hb.cell (p := ⟨b, o + j, none⟩) hlt, hb.frozen (p := ⟨b, o + j, none⟩) hlt]
  exact h j hj
theorem rangeAt_below {W w1 : World} {b o : Nat} {cs : List Value} (h : W.rangeAt b o cs) (hb : Below W.heap.size W w1) (hlt : b < W.heap.size) : w1.rangeAt b o cs := fun j v hv => by
  rw [hb.cell (p := ⟨b, o + j, none⟩) hlt]
  exact h j v hv
theorem rangeAt_new (w : World) (cs : List Value) (t : TypeId) : (w.alloc (.cells cs.toArray t)).rangeAt w.heap.size 0 cs := fun j v hv => by
  rw [Nat.zero_add, World.cell?_alloc_at _ _ _ _ rfl]
  simpa using hv
theorem below_setCells {B : Nat} {w0 : World} (b : Nat) (hB : B ≤ b) : ∀ (vs : List Value) (o : Nat) (w : World), Below B w0 w → Below B w0 (w.setCells b o vs)
  | [], _, _, h => h
  | v :: r, o, w, h => by
    rw [World.setCells]
    exact below_setCells b hB r (o + 1) _ (h.setCell hB v)
section
variable {P : Program}
theorem ret_cell {fn : Func} {p : Tmp} {ty : TypeId} (h : fn.results = #[.cell p ty]) (tmps : Array Value) (w : World) (b : Nat) (cs : List Value) (d : TypeDesc)
    (hp : tmps.getD p undef = .pointer (some ⟨b, 0, none⟩)) (hr : w.rangeAt b 0 cs) (hu : P.underlying ty = some d) (hd : d.isRow = true) (hi : (P.info? ty).map (·.size) = some cs.length) :
    (results fn tmps).run P w = .ok (.agg cs.toArray) w := by
  have hp' : tmps[p]?.getD undef = .pointer (some ⟨b, 0, none⟩) := by simpa using hp
  simp [results, h, hp', asAddr, run_loadVar_mid w b 0 ty cs d hr hu hd hi]
theorem ret_cell_tmp {fn : Func} {p u : Tmp} {ty : TypeId} (h : fn.results = #[.cell p ty, .tmp u]) (tmps : Array Value) (w : World) (b : Nat) (cs : List Value) (d : TypeDesc)
    (hp : tmps.getD p undef = .pointer (some ⟨b, 0, none⟩)) (hr : w.rangeAt b 0 cs) (hu : P.underlying ty = some d) (hd : d.isRow = true) (hi : (P.info? ty).map (·.size) = some cs.length) :
    (results fn tmps).run P w = .ok (.tuple #[.agg cs.toArray, tmps.getD u undef]) w := by
  have hp' : tmps[p]?.getD undef = .pointer (some ⟨b, 0, none⟩) := by simpa using hp
  simp [results, h, hp', asAddr, run_loadVar_mid w b 0 ty cs d hr hu hd hi, Result.andThen]
theorem ret_cell_tmp2 {fn : Func} {p u v : Tmp} {ty : TypeId} (h : fn.results = #[.cell p ty, .tmp u, .tmp v]) (tmps : Array Value) (w : World) (b : Nat) (cs : List Value) (d : TypeDesc)
    (hp : tmps.getD p undef = .pointer (some ⟨b, 0, none⟩)) (hr : w.rangeAt b 0 cs) (hu : P.underlying ty = some d) (hd : d.isRow = true) (hi : (P.info? ty).map (·.size) = some cs.length) :
    (results fn tmps).run P w = .ok (.tuple #[.agg cs.toArray, tmps.getD u undef, tmps.getD v undef]) w := by
  have hp' : tmps[p]?.getD undef = .pointer (some ⟨b, 0, none⟩) := by simpa using hp
  simp [results, h, hp', asAddr, run_loadVar_mid w b 0 ty cs d hr hu hd hi, Result.andThen]
end
end Lw
end Go.Proofs.YtjgcbeihgeaimaaGreatDoor
/-
  The walks of the calendar's functions of package moment and of the reference.
-/
namespace Go.Proofs.YtjgcbeihgeaimaaGreatDoor
namespace Mw
open Go.RowKit Go.Proofs.YtjgcbeihgeaimaaGreatDoor.Mp Lw

def stepV : Array Value := #[.int .i64 23670, .int .i64 23676, .int .i64 23688, .int .i64 23700, .int .i64 23712, .int .i64 23724, .int .i64 23736, .int .i64 23748, .int .i64 23760, .int .i64 23778, .int .i64 23790, .int .i64 23802, .int .i64 23826, .int .i64 23856, .int .i64 23880, .int .i64 23892, .int .i64 23910, .int .i64 23922, .int .i64 23934, .int .i64 23952, .int .i64 23970, .int .i64 23988, .int .i64 24072, .int .i64 24108, .int .i64 24150, .int .i64 24186, .int .i64 24204]

theorem info_row : (Tryz.prog.info? 179).map (·.size) = some 27 := by kernel_rfl
theorem one_row : stepV.all (·.oneCell') = true := by simp [stepV, Value.oneCell']
set_option maxRecDepth 100000 in
set_option maxHeartbeats 400000 in
theorem steps_any (w : World) :
    Calls Tryz.prog 136 #[] w fun e w' => e = .returned (.agg stepV) ∧ Below w.heap.size w w' := by
  go_enter Tryz.func136, Tryz.ntmps136
  go_wp2_with (refine wpList_store_new rfl _ (.tmp 0) (.tmp 1) rfl _ stepV rfl rfl info_row (by decide) one_row ?_)
  refine bodyPost_ret (v := .agg stepV) (results_cell_row Tryz.results136 _ _ w.heap.size _ stepV _ _ rfl (heap_alloc_last w _) Tryz.underlying179 rfl info_row) rfl ⟨rfl, (Below.refl _ _).alloc (Nat.le_refl _) _⟩
theorem stepV_at (k : Nat) (hk : k < 27) : stepV[k]? = some (.int .i64 (stepAt k)) := by
  unfold stepAt
  have : stepV = (stepL.map (Value.int .i64)).toArray := rfl
  rw [this]
  simp [List.getD, List.getElem?_eq_getElem (show k < stepL.length from hk)]
set_option maxRecDepth 100000 in
set_option maxHeartbeats 400000 in
theorem leap_any (k : Int) (w : World) :
    Calls Tryz.prog 127 #[.int .i64 k] w fun e w' => e = .returned (.int .i64 (lps k)) ∧ Below w.heap.size w w' := by
  go_enter Tryz.func127, Tryz.ntmps127
  go_wp2_with (first | (go_at_call 136; refine (steps_any _).mono ?_; rintro e w1 ⟨rfl, hb⟩) | (refine wpList_store_new rfl _ (.tmp 3) (.tmp 6) rfl _ stepV rfl rfl info_row (by decide) one_row ?_))
  have hc : ∀ j, j < 27 → (w1.alloc (.cells stepV 179)).cell? ⟨w1.heap.size, j, none⟩ = some (.int .i64 (stepAt j)) := fun j hj => by
    rw [World.cell?_alloc_at _ _ _ _ rfl, stepV_at j hj]
  have Hb := Lib.hid hb
  clear hb
  go_loop [4, 5, 7] (fun n x i => ∃ j : Nat, j ≤ 27 ∧ i = .int .i64 j ∧ n = .int .i64 (lpsTo k j)) (fun _ _ i => 27 - (intOf i).toNat)
  case atStart => exact ⟨0, by omega, rfl, rfl⟩
  case round =>
    obtain ⟨j, hj, rfl, rfl⟩ := hrel
    have lb := lpsTo_bd k j
    by_cases hlt : j < 27
    · have ck := hc j hlt
      have es : lpsTo k (j + 1) = lpsTo k j + if stepAt j ≤ k then 1 else 0 := rfl
      have i1 : (j : Int) < 27 := by omega
      by_cases ht : stepAt j ≤ k
      · rw [if_pos ht] at es
        have Es := Lib.hid es
        clear es hc
        go_wp2
        go_round
        case rel => exact ⟨j + 1, by omega, by go_num, by rw [Es.out]⟩
        case measure => simp [intOf]; omega
      · rw [if_neg ht] at es
        have Es := Lib.hid es
        clear es hc
        go_wp2
        go_round
        case rel => exact ⟨j + 1, by omega, by go_num, by rw [Es.out]; simp⟩
        case measure => simp [intOf]; omega
    · obtain rfl : j = 27 := by omega
      go_wp2
      go_ret
      exact ⟨rfl, (Hb.out.alloc Hb.out.size _)⟩
end Mw
end Go.Proofs.YtjgcbeihgeaimaaGreatDoor
/-
  The walks of days, calendar and begin of package moment.
-/
namespace Go.Proofs.YtjgcbeihgeaimaaGreatDoor
namespace Mw
open Go.RowKit Go.Proofs.YtjgcbeihgeaimaaGreatDoor.Mp Lw

theorem ret_int {k : IntKind} {a b : Int} (h : a = b) : Ending.returned (.int k a) = .returned (.int k b) := by rw [h]

set_option maxRecDepth 100000 in
set_option maxHeartbeats 400000 in
theorem days_any (y m d : Int) (w : World) (h1 : 1900 ≤ y) (h2 : y ≤ 2200) (h3 : 1 ≤ m) (h4 : m ≤ 13) (h5 : -100 ≤ d) (h6 : d ≤ 100) :
    Calls Tryz.prog 118 #[.int .i64 y, .int .i64 m, .int .i64 d] w fun e w' => e = .returned (.int .i64 (dn y m d)) ∧ w = w' := by
  by_cases hc : m < 3
  · go_enter Tryz.func118, Tryz.ntmps118
    go_wp2
    go_ret
    exact ⟨ret_int (by unfold dn fday; rw [if_pos hc]), rfl⟩
  · go_enter Tryz.func118, Tryz.ntmps118
    go_wp2
    go_ret
    exact ⟨ret_int (by unfold dn fday; rw [if_neg (by omega)]), rfl⟩

theorem mo_bd (y m : Int) (h1 : 1900 ≤ y) (h2 : y ≤ 2200) (h3 : 1 ≤ m) (h4 : m ≤ 13) : -40000 ≤ dn y m 1 ∧ dn y m 1 ≤ 80000 := by
  unfold dn fday; split <;> omega

set_option maxRecDepth 100000 in
set_option maxHeartbeats 1000000 in
theorem calendar_any (n y m : Int) (w : World) (h : IsYM n y m) (a : 1971 ≤ y) (b : y ≤ 2100) :
    Calls Tryz.prog 100 #[.int .i64 n] w fun e w' => e = .returned (.tuple #[.int .i64 y, .int .i64 m, .int .i64 (n - mo y m + 1)]) ∧ w = w' := by
  obtain ⟨n1, n2⟩ := h.range a b
  have yl := h.ylo
  have yh := h.yhi
  have M1 := h.m1
  have M2 := h.m12
  have Hh := Lib.hid h
  clear h
  by_cases hs : n < 0
  · have st := start_lo n y hs n1 yh
    clear yl yh
    go_enter Tryz.func100, Tryz.ntmps100
    go_wp2
    go_loop [2] (fun t => ∃ z : Int, 1900 ≤ z ∧ z ≤ y ∧ t = .int .i64 z) (fun t => (y - intOf t).toNat)
    case atStart => exact ⟨_, by omega, by omega, rfl⟩
    case round =>
      obtain ⟨z, z1, z2, rfl⟩ := hrel
      by_cases hz : z = y
      · subst hz
        have e1 : ¬ dn (z + 1) 1 1 ≤ n := by have := Hh.out.yhi; unfold mo at this; omega
        go_wp2_with (go_at_call 118; refine (days_any _ _ _ _ (by omega) (by omega) (by omega) (by omega) (by omega) (by omega)).mono ?_; rintro e w' ⟨rfl, rfl⟩)
        go_loop [3] (fun t => ∃ k : Int, 1 ≤ k ∧ k ≤ m ∧ t = .int .i64 k) (fun t => (m - intOf t).toNat)
        case atStart => exact ⟨1, by omega, by omega, rfl⟩
        case round =>
          obtain ⟨k, k1, k2, rfl⟩ := hrel
          have hb := mo_bd z k (by omega) (by omega) (by omega) (by omega)
          by_cases hk : k = m
          · subst hk
            have e2 : ¬ dn z (k + 1) 1 ≤ n := by have := Hh.out.hi; unfold mo at this; omega
            by_cases e3 : k < 12
            all_goals
              go_wp2_with (go_at_call 118; refine (days_any _ _ _ _ (by omega) (by omega) (by omega) (by omega) (by omega) (by omega)).mono ?_; rintro e w' ⟨rfl, rfl⟩)
              go_ret3
              exact ⟨rfl, rfl⟩
          · have e2 : dn z (k + 1) 1 ≤ n := by have h7 := Hh.out.lo; have := mo_le z (k + 1) m (by omega) (by omega); unfold mo at *; omega
            have e3 : k < 12 := by omega
            go_wp2_with (go_at_call 118; refine (days_any _ _ _ _ (by omega) (by omega) (by omega) (by omega) (by omega) (by omega)).mono ?_; rintro e w' ⟨rfl, rfl⟩)
            go_round
            case rel => exact ⟨k + 1, by omega, by omega, rfl⟩
            case measure => simp [intOf]; omega
      · have e1 : dn (z + 1) 1 1 ≤ n := by have h7 := Hh.out.ylo; have := mo_year_le (z + 1) y (by omega); unfold mo at *; omega
        go_wp2_with (go_at_call 118; refine (days_any _ _ _ _ (by omega) (by omega) (by omega) (by omega) (by omega) (by omega)).mono ?_; rintro e w' ⟨rfl, rfl⟩)
        go_round
        case rel => exact ⟨z + 1, by omega, by omega, rfl⟩
        case measure => simp [intOf]; omega
  · have st := start_hi n y (by omega) n2 yh
    clear yl yh
    go_enter Tryz.func100, Tryz.ntmps100
    go_wp2
    go_loop [2] (fun t => ∃ z : Int, 1900 ≤ z ∧ z ≤ y ∧ t = .int .i64 z) (fun t => (y - intOf t).toNat)
    case atStart => exact ⟨_, by omega, by omega, rfl⟩
    case round =>
      obtain ⟨z, z1, z2, rfl⟩ := hrel
      by_cases hz : z = y
      · subst hz
        have e1 : ¬ dn (z + 1) 1 1 ≤ n := by have := Hh.out.yhi; unfold mo at this; omega
        go_wp2_with (go_at_call 118; refine (days_any _ _ _ _ (by omega) (by omega) (by omega) (by omega) (by omega) (by omega)).mono ?_; rintro e w' ⟨rfl, rfl⟩)
        go_loop [3] (fun t => ∃ k : Int, 1 ≤ k ∧ k ≤ m ∧ t = .int .i64 k) (fun t => (m - intOf t).toNat)
        case atStart => exact ⟨1, by omega, by omega, rfl⟩
        case round =>
          obtain ⟨k, k1, k2, rfl⟩ := hrel
          have hb := mo_bd z k (by omega) (by omega) (by omega) (by omega)
          by_cases hk : k = m
          · subst hk
            have e2 : ¬ dn z (k + 1) 1 ≤ n := by have := Hh.out.hi; unfold mo at this; omega
            by_cases e3 : k < 12
            all_goals
              go_wp2_with (go_at_call 118; refine (days_any _ _ _ _ (by omega) (by omega) (by omega) (by omega) (by omega) (by omega)).mono ?_; rintro e w' ⟨rfl, rfl⟩)
              go_ret3
              exact ⟨rfl, rfl⟩
          · have e2 : dn z (k + 1) 1 ≤ n := by have h7 := Hh.out.lo; have := mo_le z (k + 1) m (by omega) (by omega); unfold mo at *; omega
            have e3 : k < 12 := by omega
            go_wp2_with (go_at_call 118; refine (days_any _ _ _ _ (by omega) (by omega) (by omega) (by omega) (by omega) (by omega)).mono ?_; rintro e w' ⟨rfl, rfl⟩)
            go_round
            case rel => exact ⟨k + 1, by omega, by omega, rfl⟩
            case measure => simp [intOf]; omega
      · have e1 : dn (z + 1) 1 1 ≤ n := by have h7 := Hh.out.ylo; have := mo_year_le (z + 1) y (by omega); unfold mo at *; omega
        go_wp2_with (go_at_call 118; refine (days_any _ _ _ _ (by omega) (by omega) (by omega) (by omega) (by omega) (by omega)).mono ?_; rintro e w' ⟨rfl, rfl⟩)
        go_round
        case rel => exact ⟨z + 1, by omega, by omega, rfl⟩
        case measure => simp [intOf]; omega
end Mw
end Go.Proofs.YtjgcbeihgeaimaaGreatDoor
/-
  The walks of begin, whole, FromUtc, day and ToUtc of package moment.
-/
namespace Go.Proofs.YtjgcbeihgeaimaaGreatDoor
namespace Mw
open Go.RowKit Go.Proofs.YtjgcbeihgeaimaaGreatDoor.Mp Lw

abbrev dateV (y m d h i s u : Int) : Value := .agg #[.int .i64 y, .int .i64 m, .int .i64 d, .int .i64 h, .int .i64 i, .int .i64 s, .int .i64 u]

set_option maxRecDepth 100000 in
set_option maxHeartbeats 400000 in
theorem begin_any (n y m : Int) (w : World) (h : IsYM n y m) (a : 1971 ≤ y) (b : y ≤ 2100) :
    Calls Tryz.prog 117 #[.int .i64 n] w fun e w' => e = .returned (.int .i64 (bgv n y m)) ∧ Below w.heap.size w w' := by
  obtain ⟨n1, n2⟩ := h.range a b
  have M1 := h.m1
  have M2 := h.m12
  have lb := lps_bd (12 * y + m - 1)
  have Hh := Lib.hid h
  clear h
  go_enter Tryz.func117, Tryz.ntmps117
  go_wp2_with (first | (go_at_call 100; refine (calendar_any n y m _ Hh.out a b).mono ?_; rintro e w' ⟨rfl, rfl⟩) | (go_at_call 127; refine (leap_any _ _).mono ?_; rintro e w1 ⟨rfl, hb⟩))
  go_ret
  exact ⟨rfl, hb⟩

theorem ret_bool {a b : Bool} (h : a = b) : Ending.returned (.bool a) = .returned (.bool b) := by rw [h]
/-- What FromUtc does, in the program and in the reference. -/
def FromPost (y m d h i s u : Int) (w : World) (e : Ending) (w' : World) : Prop := ∃ t c : Int, e = .returned (.tuple #[.int .i64 t, .int .i64 c]) ∧ FromIs y m d h i s u t c ∧ Below w.heap.size w w'

end Mw
end Go.Proofs.YtjgcbeihgeaimaaGreatDoor
/-
  The walks of day and ToUtc of package moment.
-/
namespace Go.Proofs.YtjgcbeihgeaimaaGreatDoor
namespace Mw
open Go.RowKit Go.Proofs.YtjgcbeihgeaimaaGreatDoor.Mp Lw

set_option maxRecDepth 100000 in
set_option maxHeartbeats 1000000 in
theorem day_out (t : Int) (w : World) (h0 : -9223372036854775808 ≤ t) (h1 : t ≤ 9223372036854775807) (h : t < bgv (-10227) 1972 1 ∨ bgv 36525 2100 1 ≤ t) :
    Calls Tryz.prog 99 #[.int .i64 t] w fun e w' => e = .returned (.tuple #[.int .i64 0, .int .i64 0, .int .i64 16]) ∧ Below w.heap.size w w' := by
  have b1 := bgv_bd (-10227) 1972 1 (by omega) (by omega)
  have b2 := bgv_bd 36525 2100 1 (by omega) (by omega)
  have H := Lib.hid h
  clear h
  go_enter Tryz.func99, Tryz.ntmps99
  go_wp2_with fail
  refine (days_any 1972 1 1 _ (by omega) (by omega) (by omega) (by omega) (by omega) (by omega)).mono ?_
  rintro e w' ⟨rfl, rfl⟩
  rw [dn_72]
  go_wp2_with fail
  refine (begin_any _ 1972 1 _ ym_72 (by omega) (by omega)).mono ?_
  rintro e w1 ⟨rfl, hb1⟩
  by_cases hc : t < bgv (-10227) 1972 1
  · go_wp2_with fail
    go_ret3
    exact ⟨rfl, hb1⟩
  · have hd : bgv 36525 2100 1 ≤ t := by rcases H.out with h | h <;> omega
    go_wp2_with fail
    refine (days_any 2100 1 1 _ (by omega) (by omega) (by omega) (by omega) (by omega) (by omega)).mono ?_
    rintro e w' ⟨rfl, rfl⟩
    rw [dn_00]
    go_wp2_with fail
    refine (begin_any _ 2100 1 _ ym_00 (by omega) (by omega)).mono ?_
    rintro e w2 ⟨rfl, hb2⟩
    go_wp2_with fail
    go_ret3
    exact ⟨rfl, below_then hb1 hb2⟩

set_option maxRecDepth 100000 in
set_option maxHeartbeats 2000000 in
theorem day_in (t n y m z k : Int) (w : World) (h : DayOf t n y m z k) (h1 : ¬ t < bgv (-10227) 1972 1) (h2 : ¬ bgv 36525 2100 1 ≤ t) :
    Calls Tryz.prog 99 #[.int .i64 t] w fun e w' => e = .returned (.tuple #[.int .i64 n, .int .i64 (t - bgv n y m), .int .i64 0]) ∧ Below w.heap.size w w' := by
  have b1 := bgv_bd (-10227) 1972 1 (by omega) (by omega)
  have b2 := bgv_bd 36525 2100 1 (by omega) (by omega)
  obtain ⟨g1, g2⟩ := h.guess
  obtain ⟨p1, p2⟩ := h.pass
  have n1 := h.n1
  have n2 := h.n2
  have H := Lib.hid h
  clear h
  go_enter Tryz.func99, Tryz.ntmps99
  go_wp2_with fail
  refine (days_any 1972 1 1 _ (by omega) (by omega) (by omega) (by omega) (by omega) (by omega)).mono ?_
  rintro e w' ⟨rfl, rfl⟩
  rw [dn_72]
  go_wp2_with fail
  refine (begin_any _ 1972 1 _ ym_72 (by omega) (by omega)).mono ?_
  rintro e w1 ⟨rfl, hb1⟩
  go_wp2_with fail
  refine (days_any 2100 1 1 _ (by omega) (by omega) (by omega) (by omega) (by omega) (by omega)).mono ?_
  rintro e w' ⟨rfl, rfl⟩
  rw [dn_00]
  go_wp2_with fail
  refine (begin_any _ 2100 1 _ ym_00 (by omega) (by omega)).mono ?_
  rintro e w2 ⟨rfl, hb2⟩
  have hB := below_then hb1 hb2
  go_wp2_with fail
  go_loopw [2] (fun v wr => ∃ q : Int, n ≤ q ∧ q ≤ n + 2 ∧ v = .int .i64 q ∧ Below w.heap.size w wr) (fun v _ => (intOf v - n).toNat)
  case atStart => exact ⟨_, g1, g2, rfl, hB⟩
  case round =>
    obtain ⟨q, q1, q2, rfl, hBr⟩ := hrel
    by_cases hq : q = n
    · subst hq
      have e1 : ¬ t < bgv q y m := by have := H.out.lo; omega
      go_wp2_with (go_at_call 117; refine (begin_any _ y m _ H.out.ym (by have := H.out.y1; omega) (by have := H.out.y2; omega)).mono ?_; rintro e w3 ⟨rfl, hb3⟩)
      have hB3 := below_then hBr hb3
      go_loopw [2] (fun v wr => v = .int .i64 q ∧ Below w.heap.size w wr) (fun _ _ => 0)
      case atStart => exact ⟨rfl, hB3⟩
      case round =>
        obtain ⟨rfl, hBs⟩ := hrel
        have e2 : ¬ bgv (q + 1) z k ≤ t := by have := H.out.hi; omega
        obtain ⟨zy, zz⟩ : 1971 ≤ z ∧ z ≤ 2100 := by
          have a1 := H.out.y1
          have a2 := H.out.y2
          have a3 := H.out.ym.m1
          have a4 := H.out.ym.m12
          have a5 := H.out.zk.m1
          have a6 := H.out.zk.m12
          rcases next_ym H.out.ym H.out.zk with ⟨r1, _, _⟩ | ⟨r1, _⟩ <;> omega
        go_wp2_with fail
        refine (begin_any _ z k _ H.out.zk zy zz).mono ?_
        rintro e w4 ⟨rfl, hb4⟩
        have hB4 := below_then hBs hb4
        go_wp2_with fail
        refine (begin_any _ y m _ H.out.ym (by have := H.out.y1; omega) (by have := H.out.y2; omega)).mono ?_
        rintro e w5 ⟨rfl, hb5⟩
        have bq := bgv_bd q y m (by omega) (by omega)
        go_wp2_with fail
        go_ret3
        exact ⟨rfl, below_then hB4 hb5⟩
    · obtain ⟨y', m', y1', y2', hy⟩ := ym_ex q (by omega) (by omega)
      have e1 : t < bgv q y' m' := by
        rcases Int.lt_or_le t (bgv q y' m') with e | e
        · exact e
        · have := H.out.le hy e; omega
      go_wp2_with (go_at_call 117; refine (begin_any _ y' m' _ hy y1' y2').mono ?_; rintro e w3 ⟨rfl, hb3⟩)
      go_roundw
      case rel => exact ⟨q - 1, by omega, by omega, rfl, below_then hBr hb3⟩
      case measure => simp [intOf]; omega
end Mw
end Go.Proofs.YtjgcbeihgeaimaaGreatDoor
/-
  The walk of ToUtc of package moment.
-/
namespace Go.Proofs.YtjgcbeihgeaimaaGreatDoor
namespace Mw
open Go.RowKit Go.Proofs.YtjgcbeihgeaimaaGreatDoor.Mp Lw

theorem info7 : (Tryz.prog.info? 126).map (·.size) = some 7 := by kernel_rfl
abbrev dateC (y m d h i s u : Int) : List Value := [.int .i64 y, .int .i64 m, .int .i64 d, .int .i64 h, .int .i64 i, .int .i64 s, .int .i64 u]

set_option maxRecDepth 100000 in
set_option maxHeartbeats 400000 in
theorem toutc_out (t : Int) (w : World) (h0 : -9223372036854775808 ≤ t) (h1 : t ≤ 9223372036854775807) (h : t < bgv (-10227) 1972 1 ∨ bgv 36525 2100 1 ≤ t) :
    Calls Tryz.prog 76 #[.int .i64 t] w fun e w' => e = .returned (.tuple #[dateV 0 0 0 0 0 0 0, .int .i64 16]) ∧ Below w.heap.size w w' := by
  have H := Lib.hid h
  clear h
  go_enter Tryz.func76, Tryz.ntmps76
  go_wp2_with fail
  refine (day_out t _ h0 h1 H.out).mono ?_
  rintro e w1 ⟨rfl, hb⟩
  have th := there_below (there_new w _ _ 7 (by simp)) hb (by simp)
  have hB := below_then ((Below.refl w.heap.size w).alloc (Nat.le_refl _) _) hb
  clear hb
  go_wp2_with (refine wpList_store_mid rfl _ (.tmp 2) (.tmp 18) rfl w.heap.size 0 _ rfl rfl ?_ info7 ?_ ?_; exact th; simp [Value.oneCell'])
  exact bodyPost_ret (ret_cell_tmp Tryz.results76 _ _ w.heap.size (dateC 0 0 0 0 0 0 0) _ rfl (World.rangeAt_setCells_same _ _ _ _ th) Tryz.underlying126 rfl info7) rfl ⟨rfl, below_setCells _ (Nat.le_refl _) _ _ _ hB⟩

theorem mo_bd2 {t n y m z k : Int} (h : DayOf t n y m z k) : 1 ≤ n - mo y m + 1 ∧ n - mo y m + 1 ≤ 31 := by
  have a := mo_len y m h.ym.m1 h.ym.m12
  have b := h.ym.lo
  have c := h.ym.hi
  omega
set_option maxRecDepth 100000 in
set_option maxHeartbeats 1000000 in
theorem toutc_in (t n y m z k : Int) (w : World) (h : DayOf t n y m z k) (h1 : bgv (-10227) 1972 1 ≤ t) (h2 : t < bgv 36525 2100 1) :
    Calls Tryz.prog 76 #[.int .i64 t] w fun e w' => e = .returned (.tuple #[dateV y m (n - mo y m + 1) (mins (t - bgv n y m) / 60) (mins (t - bgv n y m) % 60) ((t - bgv n y m) / 1000000 - 60 * mins (t - bgv n y m)) ((t - bgv n y m) % 1000000), .int .i64 0]) ∧ Below w.heap.size w w' := by
  obtain ⟨p1, p2⟩ := h.pass
  have n1 := h.n1
  have n2 := h.n2
  have y1 := h.y1
  have y2 := h.y2
  have ml := mo_bd2 h
  have H := Lib.hid h
  have H1 := Lib.hid h1
  have H2 := Lib.hid h2
  clear h h1 h2
  generalize hp : t - bgv n y m = p at *
  have Hp := Lib.hid hp
  clear hp
  go_enter Tryz.func76, Tryz.ntmps76
  go_wp2_with fail
  refine (day_in t n y m z k _ H.out (Int.not_lt.2 H1.out) (Int.not_le.2 H2.out)).mono ?_
  rintro e w1 ⟨rfl, hb⟩
  rw [Hp.out]
  have th := there_below (there_new w _ _ 7 (by simp)) hb (by simp)
  have hB := below_then ((Below.refl w.heap.size w).alloc (Nat.le_refl _) _) hb
  have hz := hB.size
  clear hb
  go_wp2_with fail
  refine (calendar_any n y m _ H.out.ym (by omega) (by omega)).mono ?_
  rintro e w' ⟨rfl, rfl⟩
  go_wp2_with (refine wpList_store_mid rfl _ (.tmp 2) (.tmp 48) rfl w.heap.size 0 _ rfl rfl ?_ info7 ?_ ?_; exact World.there_alloc th _; simp [Value.oneCell'])
  all_goals
    by_cases hm : p / 1000000 / 60 ≤ 1439
    · have em : mins p = p / 1000000 / 60 := if_pos hm
      first
        | (exfalso; omega)
        | exact bodyPost_ret (ret_cell_tmp Tryz.results76 _ _ w.heap.size (dateC y m (n - mo y m + 1) (p / 1000000 / 60 / 60) (p / 1000000 / 60 % 60) (p / 1000000 - 60 * (p / 1000000 / 60)) (p % 1000000)) _ rfl (World.rangeAt_setCells_same _ _ _ _ (World.there_alloc th _)) Tryz.underlying126 rfl info7) rfl ⟨by rw [em]; rfl, below_setCells _ (Nat.le_refl _) _ _ _ (hB.alloc hz _)⟩
    · have em : mins p = 1439 := if_neg hm
      first
        | (exfalso; omega)
        | exact bodyPost_ret (ret_cell_tmp Tryz.results76 _ _ w.heap.size (dateC y m (n - mo y m + 1) 23 59 (p / 1000000 - 86340) (p % 1000000)) _ rfl (World.rangeAt_setCells_same _ _ _ _ (World.there_alloc th _)) Tryz.underlying126 rfl info7) rfl ⟨by rw [em]; rfl, below_setCells _ (Nat.le_refl _) _ _ _ (hB.alloc hz _)⟩
end Mw
end Go.Proofs.YtjgcbeihgeaimaaGreatDoor
/-
  The walks of leaps, Leap, leapYear, length, before, begins and seconds of the reference.
-/
namespace Go.Proofs.YtjgcbeihgeaimaaGreatDoor
namespace Mw
open Go.RowKit Go.Proofs.YtjgcbeihgeaimaaGreatDoor.Mp Lw

def julV : Array Value := #[.int .i64 1972, .int .i64 1981, .int .i64 1982, .int .i64 1983, .int .i64 1985, .int .i64 1992, .int .i64 1993, .int .i64 1994, .int .i64 1997, .int .i64 2012, .int .i64 2015]
theorem one_jul : julV.all (·.oneCell') = true := by simp [julV, Value.oneCell']
theorem julV_at (k : Nat) (hk : k < 11) : julV[k]? = some (.int .i64 (julAt k)) := by
  unfold julAt
  have : julV = (julL.map (Value.int .i64)).toArray := rfl
  rw [this]
  simp [List.getD, List.getElem?_eq_getElem (show k < julL.length from hk)]
theorem info_jul : (Tryz.prog.info? 187).map (·.size) = some 11 := by kernel_rfl

def janV : Array Value := #[.int .i64 1973, .int .i64 1974, .int .i64 1975, .int .i64 1976, .int .i64 1977, .int .i64 1978, .int .i64 1979, .int .i64 1980, .int .i64 1988, .int .i64 1990, .int .i64 1991, .int .i64 1996, .int .i64 1999, .int .i64 2006, .int .i64 2009, .int .i64 2017]
theorem one_jan : janV.all (·.oneCell') = true := by simp [janV, Value.oneCell']
theorem janV_at (k : Nat) (hk : k < 16) : janV[k]? = some (.int .i64 (janAt k)) := by
  unfold janAt
  have : janV = (janL.map (Value.int .i64)).toArray := rfl
  rw [this]
  simp [List.getD, List.getElem?_eq_getElem (show k < janL.length from hk)]
theorem info_jan : (Tryz.prog.info? 188).map (·.size) = some 16 := by kernel_rfl

def lenV : Array Value := #[.int .i64 0, .int .i64 31, .int .i64 28, .int .i64 31, .int .i64 30, .int .i64 31, .int .i64 30, .int .i64 31, .int .i64 31, .int .i64 30, .int .i64 31, .int .i64 30, .int .i64 31]
theorem one_len : lenV.all (·.oneCell') = true := by simp [lenV, Value.oneCell']
theorem lenV_at (k : Nat) (hk : k < 13) : lenV[k]? = some (.int .i64 (lenAt k)) := by
  unfold lenAt
  have : lenV = (lenL.map (Value.int .i64)).toArray := rfl
  rw [this]
  simp [List.getD, List.getElem?_eq_getElem (show k < lenL.length from hk)]
theorem info_len : (Tryz.prog.info? 175).map (·.size) = some 13 := by kernel_rfl

theorem ret_v {k : IntKind} {a b : Int} (h : a = b) : Value.int k a = .int k b := by rw [h]

set_option maxRecDepth 100000 in
set_option maxHeartbeats 2000000 in
theorem leaps_any (y m : Int) (w : World) (h1 : 1 ≤ m) (h2 : m ≤ 12) :
    Calls Tryz.prog 131 #[.int .i64 y, .int .i64 m] w fun e w' => e = .returned (.int .i64 (lps (12 * y + m - 1))) ∧ Below w.heap.size w w' := by
  have Hr := Lib.hid (rl_lps y m h1 h2)
  clear h1 h2
  go_enter Tryz.func131, Tryz.ntmps131
  go_wp2_with (first | (refine wpList_store_new rfl _ (.tmp 5) (.tmp 10) rfl _ julV rfl rfl info_jul (by decide) one_jul ?_) | (refine wpList_store_new_at rfl _ (.tmp 6) (.tmp 11) rfl _ janV _ ?_ rfl rfl info_jan (by decide) one_jan ?_; simp))
  have hc : ∀ j, j < 11 → ((w.alloc (.cells julV 187)).alloc (.cells janV 188)).cell? ⟨w.heap.size, j, none⟩ = some (.int .i64 (julAt j)) := fun j hj => by
    rw [World.cell?_alloc_past _ _ _ (by simp), World.cell?_alloc_at _ _ _ _ rfl, julV_at j hj]
  have hd : ∀ j, j < 16 → ((w.alloc (.cells julV 187)).alloc (.cells janV 188)).cell? ⟨w.heap.size + 1, j, none⟩ = some (.int .i64 (janAt j)) := fun j hj => by
    rw [World.cell?_alloc_at _ _ _ _ (by simp), janV_at j hj]
  go_loop [7, 8] (fun n i => ∃ j : Nat, j ≤ 11 ∧ i = .int .i64 j ∧ n = .int .i64 (rlj y m j)) (fun _ i => 11 - (intOf i).toNat)
  case atStart => exact ⟨0, by omega, rfl, rfl⟩
  case round =>
    obtain ⟨j, hj, rfl, rfl⟩ := hrel
    have lb := rlj_bd y m j
    by_cases hlt : j < 11
    · have ck := hc j hlt
      have es : rlj y m (j + 1) = rlj y m j + if julAt j < y ∨ julAt j = y ∧ 7 ≤ m then 1 else 0 := rfl
      have Es := Lib.hid es
      clear es hc hd
      have i1 : (j : Int) < 11 := by omega
      go_wp2
      all_goals
        go_round
        case rel => exact ⟨j + 1, by omega, by go_num, by rw [Es.out]; first | rw [if_pos (by omega)] | (rw [if_neg (by omega)]; simp)⟩
        case measure => simp [intOf]; omega
    · obtain rfl : j = 11 := by omega
      clear hc
      go_wp2
      go_loop [7, 9] (fun n i => ∃ j : Nat, j ≤ 16 ∧ i = .int .i64 j ∧ n = .int .i64 (rln y m j)) (fun _ i => 16 - (intOf i).toNat)
      case atStart => exact ⟨0, by omega, rfl, rfl⟩
      case round =>
        obtain ⟨j, hj, rfl, rfl⟩ := hrel
        have lb := rln_bd y m j
        by_cases hlt : j < 16
        · have ck := hd j hlt
          have es : rln y m (j + 1) = rln y m j + if janAt j ≤ y then 1 else 0 := rfl
          have Es := Lib.hid es
          clear es hd
          have i1 : (j : Int) < 16 := by omega
          go_wp2
          all_goals
            go_round
            case rel => exact ⟨j + 1, by omega, by go_num, by rw [Es.out]; first | rw [if_pos (by omega)] | (rw [if_neg (by omega)]; simp)⟩
            case measure => simp [intOf]; omega
        · obtain rfl : j = 16 := by omega
          clear hd
          go_wp2
          go_ret
          exact ⟨ret_int Hr.out, ((Below.refl _ _).alloc (Nat.le_refl _) _).alloc (by simp) _⟩

set_option maxRecDepth 100000 in
set_option maxHeartbeats 400000 in
theorem leapYear_any (y : Int) (w : World) (h : 0 ≤ y) :
    Calls Tryz.prog 132 #[.int .i64 y] w fun e w' => e = .returned (.bool (leapB y)) ∧ w = w' := by
  go_enter Tryz.func132, Tryz.ntmps132
  go_wp2
  all_goals
    go_ret
    refine ⟨ret_bool ?_, rfl⟩
    unfold leapB
    simp [*]
end Mw
end Go.Proofs.YtjgcbeihgeaimaaGreatDoor
/-
  The walks of length and before of the reference.
-/
namespace Go.Proofs.YtjgcbeihgeaimaaGreatDoor
namespace Mw
open Go.RowKit Go.Proofs.YtjgcbeihgeaimaaGreatDoor.Mp Lw

theorem leapB_split (y : Int) : leapB y = true ∨ leapB y = false := by cases leapB y <;> simp
set_option maxRecDepth 100000 in
set_option maxHeartbeats 1000000 in
theorem length_any (y m : Int) (w : World) (h : 0 ≤ y) (h1 : 1 ≤ m) (h2 : m ≤ 12) :
    Calls Tryz.prog 121 #[.int .i64 y, .int .i64 m] w fun e w' => e = .returned (.int .i64 (mo y (m + 1) - mo y m)) ∧ Below w.heap.size w w' := by
  obtain ⟨k, rfl⟩ := Int.eq_ofNat_of_zero_le (show 0 ≤ m by omega)
  have L2 := Lib.hid (len_two y)
  have La := Lib.hid (fun h => len_at y k (by omega) (by omega) h)
  have hk : k < 13 := by omega
  have hc : ∀ W : World, (W.alloc (.cells lenV 175)).cell? ⟨W.heap.size, k, none⟩ = some (.int .i64 (lenAt k)) := fun W => by
    rw [World.cell?_alloc_at _ _ _ _ rfl, lenV_at k hk]
  by_cases e2 : k = 2
  · subst e2
    have c2 := hc w
    have v2 : lenAt 2 = 28 := rfl
    rw [v2] at c2
    clear hc h1 h2 hk
    rcases leapB_split y with hl | hl
    · have L := L2.out
      rw [if_pos hl] at L
      have HL := Lib.hid L
      clear L L2 La
      go_enter Tryz.func121, Tryz.ntmps121
      go_wp2_with (first | (go_at_call 132; refine (leapYear_any _ _ h).mono ?_; rintro e w' ⟨rfl, rfl⟩))
      go_ret
      exact ⟨ret_int HL.out.symm, Below.refl _ _⟩
    · have L := L2.out
      rw [hl] at L
      have HL := Lib.hid L
      clear L L2 La
      go_enter Tryz.func121, Tryz.ntmps121
      go_wp2_with (first | (go_at_call 132; refine (leapYear_any _ _ h).mono ?_; rintro e w' ⟨rfl, rfl⟩) | (refine wpList_store_new rfl _ (.tmp 5) (.tmp 12) rfl _ lenV rfl rfl info_len (by decide) one_len ?_))
      go_ret
      exact ⟨ret_int (by rw [show ((2 : Nat) : Int) + 1 = 3 by omega, show ((2 : Nat) : Int) = 2 by omega]; exact HL.out.symm), (Below.refl _ _).alloc (Nat.le_refl _) _⟩
  · have L := La.out e2
    have HL := Lib.hid L
    have c2 := hc w
    have e3 : ((k : Int) == 2) = false := beq_eq_false_iff_ne.2 (by omega)
    have i1 : (k : Int) < 13 := by omega
    clear L L2 La hc
    go_enter Tryz.func121, Tryz.ntmps121
    go_wp2_with (first | (refine wpList_store_new rfl _ (.tmp 5) (.tmp 12) rfl _ lenV rfl rfl info_len (by decide) one_len ?_))
    go_ret
    exact ⟨ret_int HL.out.symm, (Below.refl _ _).alloc (Nat.le_refl _) _⟩

set_option maxRecDepth 100000 in
set_option maxHeartbeats 2000000 in
theorem before_any (y m : Int) (w : World) (h : 1972 ≤ y) (h' : y ≤ 2200) (h1 : 1 ≤ m) (h2 : m ≤ 12) :
    Calls Tryz.prog 130 #[.int .i64 y, .int .i64 m] w fun e w' => e = .returned (.int .i64 (mo y m + 10227)) ∧ Below w.heap.size w w' := by
  have mb : ∀ z, 1900 ≤ z → z ≤ 2201 → ∀ k, 1 ≤ k → k ≤ 13 → -40000 ≤ mo z k ∧ mo z k ≤ 80000 := fun z a b k c d => by unfold mo dn fday; split <;> omega
  have Mb := Lib.hid mb
  clear mb
  go_enter Tryz.func130, Tryz.ntmps130
  go_wp2_with fail
  go_loop [5, 6] (fun n i => ∃ z : Int, 1972 ≤ z ∧ z ≤ y ∧ i = .int .i64 z ∧ n = .int .i64 (mo z 1 + 10227)) (fun _ i => (y - intOf i).toNat)
  case atStart => exact ⟨1972, by omega, by omega, rfl, by rw [mo_1972]; rfl⟩
  case round =>
    obtain ⟨z, z1, z2, rfl, rfl⟩ := hrel
    obtain ⟨b1, b2⟩ := Mb.out z (by omega) (by omega) 1 (by omega) (by omega)
    by_cases hz : z = y
    · subst hz
      go_wp2_with fail
      go_loopw [5, 7] (fun n i wr => ∃ k : Int, 1 ≤ k ∧ k ≤ m ∧ i = .int .i64 k ∧ n = .int .i64 (mo z k + 10227) ∧ Below w.heap.size w wr) (fun _ i _ => (m - intOf i).toNat)
      case atStart => exact ⟨1, by omega, by omega, rfl, rfl, Below.refl _ _⟩
      case round =>
        obtain ⟨k, k1, k2, rfl, rfl, hB⟩ := hrel
        obtain ⟨b3, b4⟩ := Mb.out z (by omega) (by omega) k (by omega) (by omega)
        by_cases hk : k = m
        · subst hk
          go_wp2_with fail
          go_ret
          exact ⟨rfl, hB⟩
        · have hk' : k < m := by omega
          obtain ⟨b5, b6⟩ := Mb.out z (by omega) (by omega) (k + 1) (by omega) (by omega)
          go_wp2_with (go_at_call 121; refine (length_any _ _ _ (by omega) (by omega) (by omega)).mono ?_; rintro e w2 ⟨rfl, hb⟩)
          go_roundw
          case rel => exact ⟨k + 1, by omega, by omega, rfl, ret_v (by omega), below_then hB hb⟩
          case measure => simp [intOf]; omega
    · have hz' : z < y := by omega
      have yl := Lib.hid (yr_len z)
      rcases leapB_split z with hl | hl
      · go_wp2_with (go_at_call 132; refine (leapYear_any _ _ (by omega)).mono ?_; rintro e w' ⟨rfl, rfl⟩)
        go_round
        case rel => exact ⟨z + 1, by omega, by omega, rfl, by rw [yl.out, if_pos hl]; exact ret_v (by omega)⟩
        case measure => simp [intOf]; omega
      · go_wp2_with (go_at_call 132; refine (leapYear_any _ _ (by omega)).mono ?_; rintro e w' ⟨rfl, rfl⟩)
        go_round
        case rel => exact ⟨z + 1, by omega, by omega, rfl, by rw [yl.out, if_neg (by simp [hl])]; exact ret_v (by omega)⟩
        case measure => simp [intOf]; omega
end Mw
end Go.Proofs.YtjgcbeihgeaimaaGreatDoor
/-
  The walks of begins and seconds of the reference, and of Leap of both.
-/
namespace Go.Proofs.YtjgcbeihgeaimaaGreatDoor
namespace Mw
open Go.RowKit Go.Proofs.YtjgcbeihgeaimaaGreatDoor.Mp Lw

theorem mo_bds (z k : Int) (a : 1900 ≤ z) (b : z ≤ 2201) (c : 1 ≤ k) (d : k ≤ 13) : -40000 ≤ mo z k ∧ mo z k ≤ 80000 := by unfold mo dn fday; split <;> omega

set_option maxRecDepth 100000 in
set_option maxHeartbeats 1000000 in
theorem begins_in (y m d : Int) (w : World) (h : 1972 ≤ y) (h' : y ≤ 2100) (h1 : 1 ≤ m) (h2 : m ≤ 12) (h3 : 1 ≤ d) (h4 : d ≤ mo y (m + 1) - mo y m) :
    Calls Tryz.prog 120 #[.int .i64 y, .int .i64 m, .int .i64 d] w fun e w' => e = .returned (.int .i64 (bgv (mo y m + d - 1) y m)) ∧ Below w.heap.size w w' := by
  obtain ⟨ml1, ml2⟩ := mo_len y m h1 h2
  have c1 : ¬ mo y (m + 1) - mo y m < d := by omega
  have hl := lps_bd (12 * (y) + m - 1)
  obtain ⟨b3, b4⟩ := mo_bds (y) (m) (by omega) (by omega) (by omega) (by omega)
  have Fin := Lib.hid (show (mo (y) (m) + 10227 + (d - 1) - (mo 2000 1 + 10227)) * 86400 * 1000000 - 43200000000 + lps (12 * (y) + m - 1) * 1000000 + 32184000 = bgv (mo (y) (m) + d - 1) (y) (m) by rw [mo_2000]; unfold bgv; omega)
  go_enter Tryz.func120, Tryz.ntmps120
  go_wp2_with fail
  refine (length_any _ _ _ (by omega) (by omega) (by omega)).mono ?_
  rintro e w1 ⟨rfl, hb1⟩
  go_wp2_with fail
  refine (before_any _ _ _ (by omega) (by omega) (by omega) (by omega)).mono ?_
  rintro e w2 ⟨rfl, hb2⟩
  have hB2 := below_then hb1 hb2
  go_wp2_with fail
  refine (before_any _ _ _ (by omega) (by omega) (by omega) (by omega)).mono ?_
  rintro e w3 ⟨rfl, hb3⟩
  have hB3 := below_then hB2 hb3
  have m20 : mo 2000 1 ≤ 0 ∧ 0 ≤ mo 2000 1 := by rw [mo_2000]; omega
  go_wp2_with fail
  refine (leaps_any _ _ _ (by omega) (by omega)).mono ?_
  rintro e w4 ⟨rfl, hb4⟩
  have hB4 := below_then hB3 hb4
  go_wp2_with fail
  go_ret
  exact ⟨ret_int Fin.out, hB4⟩

/-- How many seconds a day has. -/
def secs (y m d : Int) : Int := if d = mo y (m + 1) - mo y m ∧ lps (12 * y + m) = lps (12 * y + m - 1) + 1 then 86401 else 86400
abbrev rdateV (y m d h i s u : Int) : Value := .agg #[.int .i64 y, .int .i64 m, .int .i64 d, .int .i64 h, .int .i64 i, .int .i64 s, .int .i64 u]
end Mw
end Go.Proofs.YtjgcbeihgeaimaaGreatDoor
/-
  The walk of day of the reference.
-/
namespace Go.Proofs.YtjgcbeihgeaimaaGreatDoor
namespace Mw
open Go.RowKit Go.Proofs.YtjgcbeihgeaimaaGreatDoor.Mp Lw

theorem rinfo7 : (Tryz.prog.info? 126).map (·.size) = some 7 := by kernel_rfl
abbrev rdateC (y m d h i s u : Int) : List Value := [.int .i64 y, .int .i64 m, .int .i64 d, .int .i64 h, .int .i64 i, .int .i64 s, .int .i64 u]

theorem b72 : bgv (mo 1972 1 + 1 - 1) 1972 1 = bgv (-10227) 1972 1 := by rw [mo_1972]; rfl
theorem mo_2100 : mo 2100 1 = 36525 := by decide
theorem b00 : bgv (mo 2100 1 + 1 - 1) 2100 1 = bgv 36525 2100 1 := by rw [mo_2100]; rfl
set_option maxRecDepth 100000 in
set_option maxHeartbeats 1000000 in
theorem rday_out (t : Int) (w : World) (h0 : -9223372036854775808 ≤ t) (h1 : t ≤ 9223372036854775807) (h : t < bgv (-10227) 1972 1 ∨ bgv 36525 2100 1 ≤ t) :
    Calls Tryz.prog 103 #[.int .i64 t] w fun e w' => e = .returned (.tuple #[rdateV 0 0 0 0 0 0 0, .int .i64 0, .bool false]) ∧ Below w.heap.size w w' := by
  have H := Lib.hid h
  clear h
  go_enter Tryz.func103, Tryz.ntmps103
  go_wp2_with fail
  refine (begins_in 1972 1 1 _ (by omega) (by omega) (by omega) (by omega) (by omega) (by have := mo_len 1972 1 (by omega) (by omega); omega)).mono ?_
  rintro e w1 ⟨rfl, hb⟩
  rw [b72]
  have th := there_below (there_new w _ _ 7 (by simp)) hb (by simp)
  have hB := below_then ((Below.refl w.heap.size w).alloc (Nat.le_refl _) _) hb
  have hz : w.heap.size < w1.heap.size := by have := hb.size; simp at this; omega
  clear hb
  by_cases hc : t < bgv (-10227) 1972 1
  · go_wp2_with (refine wpList_store_mid rfl _ (.tmp 2) (.tmp 16) rfl w.heap.size 0 _ rfl rfl ?_ rinfo7 ?_ ?_; exact th; simp [Value.oneCell'])
    exact bodyPost_ret (ret_cell_tmp2 Tryz.results103 _ _ w.heap.size (rdateC 0 0 0 0 0 0 0) _ rfl (World.rangeAt_setCells_same _ _ _ _ th) Tryz.underlying126 rfl rinfo7) rfl ⟨rfl, below_setCells _ (Nat.le_refl _) _ _ _ hB⟩
  · have hd : bgv 36525 2100 1 ≤ t := by rcases H.out with h | h <;> omega
    go_wp2_with fail
    refine (begins_in 2100 1 1 _ (by omega) (by omega) (by omega) (by omega) (by omega) (by have := mo_len 2100 1 (by omega) (by omega); omega)).mono ?_
    rintro e w2 ⟨rfl, hb2⟩
    rw [b00]
    have th2 := there_below th hb2 hz
    have hB2 := below_then hB hb2
    clear hb2
    go_wp2_with (refine wpList_store_mid rfl _ (.tmp 2) (.tmp 16) rfl w.heap.size 0 _ rfl rfl ?_ rinfo7 ?_ ?_; exact th2; simp [Value.oneCell'])
    exact bodyPost_ret (ret_cell_tmp2 Tryz.results103 _ _ w.heap.size (rdateC 0 0 0 0 0 0 0) _ rfl (World.rangeAt_setCells_same _ _ _ _ th2) Tryz.underlying126 rfl rinfo7) rfl ⟨rfl, below_setCells _ (Nat.le_refl _) _ _ _ hB2⟩

set_option maxRecDepth 100000 in
set_option maxHeartbeats 2000000 in
theorem rday_in (t n y m z k : Int) (w : World) (h : DayOf t n y m z k) (h1 : bgv (-10227) 1972 1 ≤ t) (h2 : t < bgv 36525 2100 1) :
    Calls Tryz.prog 103 #[.int .i64 t] w fun e w' => e = .returned (.tuple #[rdateV y m (n - mo y m + 1) 0 0 0 0, .int .i64 (t - bgv n y m), .bool true]) ∧ Below w.heap.size w w' := by
  have y1 := h.y1
  have y2 := h.y2
  have M1 := h.ym.m1
  have M2 := h.ym.m12
  have n1 := h.n1
  have n2 := h.n2
  obtain ⟨p1, p2⟩ := h.pass
  have bq := bgv_bd n y m (by omega) (by omega)
  obtain ⟨ml1, ml2⟩ := mo_len y m M1 M2
  have lo := h.ym.lo
  have hi := h.ym.hi
  have H := Lib.hid h
  have H1 := Lib.hid h1
  have H2 := Lib.hid h2
  clear h h1 h2
  go_enter Tryz.func103, Tryz.ntmps103
  go_wp2_with fail
  refine (begins_in 1972 1 1 _ (by omega) (by omega) (by omega) (by omega) (by omega) (by have := mo_len 1972 1 (by omega) (by omega); omega)).mono ?_
  rintro e w1 ⟨rfl, hb⟩
  rw [b72]
  have th := there_below (there_new w _ _ 7 (by simp)) hb (by simp)
  have hB := below_then ((Below.refl w.heap.size w).alloc (Nat.le_refl _) _) hb
  have hz : w.heap.size < w1.heap.size := by have := hb.size; simp at this; omega
  clear hb
  have h1 := H1.out
  go_wp2_with fail
  refine (begins_in 2100 1 1 _ (by omega) (by omega) (by omega) (by omega) (by omega) (by have := mo_len 2100 1 (by omega) (by omega); omega)).mono ?_
  rintro e w2 ⟨rfl, hb2⟩
  rw [b00]
  have th2 := there_below th hb2 hz
  have hB2 := below_then hB hb2
  have hz2 : w.heap.size < w2.heap.size := by have := hb2.size; omega
  have h2 := H2.out
  clear hb2 hB th
  go_wp2_with fail
  clear h1 h2
  go_loopw [5] (fun v wr => ∃ q : Int, y ≤ q ∧ q ≤ 2099 ∧ v = .int .i64 q ∧ Below w.heap.size w wr ∧ wr.there w.heap.size 0 7 ∧ w.heap.size < wr.heap.size) (fun v _ => (intOf v - y).toNat)
  case atStart => exact ⟨2099, by omega, by omega, rfl, hB2, th2, hz2⟩
  case round =>
    clear hB2 th2 hz2 hz
    obtain ⟨q, q1, q2, rfl, hB, th, hz⟩ := hrel
    by_cases hq : q = y
    · subst hq
      have e1 : ¬ t < bgv (mo q 1) q 1 := by
        have := bgv_mono H.out.ym (ym_first q 1 (by omega) (by omega)) (by have := mo_le q 1 m (by omega) M1; omega)
        have := H.out.lo; omega
      go_wp2_with (go_at_call 120; refine (begins_in _ 1 1 _ (by omega) (by omega) (by omega) (by omega) (by omega) (by have := mo_len q 1 (by omega) (by omega); omega)).mono ?_; rintro e w3 ⟨rfl, hb3⟩)
      have hB3 := below_then hB hb3
      have th3 := there_below th hb3 hz
      have hz3 : w.heap.size < w3.heap.size := by have := hb3.size; omega
      clear hB th hz hb3 e1
      go_loopw [6] (fun v wr => ∃ j : Int, m ≤ j ∧ j ≤ 12 ∧ v = .int .i64 j ∧ Below w.heap.size w wr ∧ wr.there w.heap.size 0 7 ∧ w.heap.size < wr.heap.size) (fun v _ => (intOf v - m).toNat)
      case atStart => exact ⟨12, by omega, by omega, rfl, hB3, th3, hz3⟩
      case round =>
        clear hB3 th3 hz3
        obtain ⟨j, j1, j2, rfl, hB, th, hz⟩ := hrel
        by_cases hj : j = m
        · subst hj
          have e1 : ¬ t < bgv (mo q j) q j := by
            have := bgv_mono H.out.ym (ym_first q j (by omega) (by omega)) (by omega)
            have := H.out.lo; omega
          go_wp2_with (first | (go_at_call 120; refine (begins_in _ _ 1 _ (by omega) (by omega) (by omega) (by omega) (by omega) (by omega)).mono ?_; rintro e w4 ⟨rfl, hb4⟩) | (go_at_call 121; refine (length_any _ _ _ (by omega) (by omega) (by omega)).mono ?_; rintro e w5 ⟨rfl, hb5⟩))
          have hB5 := below_then (below_then hB hb4) hb5
          have th5 := there_below (there_below th hb4 hz) hb5 (by have := hb4.size; omega)
          have hz5 : w.heap.size < w5.heap.size := by have := hb4.size; have := hb5.size; omega
          clear hB th hz hb4 hb5 e1
          go_loopw [7] (fun v wr => ∃ d : Int, n - mo q j + 1 ≤ d ∧ d ≤ mo q (j + 1) - mo q j ∧ v = .int .i64 d ∧ Below w.heap.size w wr ∧ wr.there w.heap.size 0 7 ∧ w.heap.size < wr.heap.size) (fun v _ => (intOf v - (n - mo q j + 1)).toNat)
          case atStart => exact ⟨_, by omega, by omega, rfl, hB5, th5, hz5⟩
          case round =>
            clear hB5 th5 hz5
            obtain ⟨d, d1, d2, rfl, hB, th, hz⟩ := hrel
            by_cases hd : d = n - mo q j + 1
            · have en : mo q j + d - 1 = n := by omega
              have Hd := Lib.hid hd
              have e1 : ¬ t < bgv n q j := by have := H.out.lo; omega
              clear hd
              go_wp2_with fail
              refine (begins_in _ _ _ _ (by omega) (by omega) (by omega) (by omega) (by omega) (by omega)).mono ?_
              rintro e w6 ⟨rfl, hb6⟩
              rw [en]
              have hB6 := below_then hB hb6
              have th6 := there_below th hb6 hz
              have hz6 : w.heap.size < w6.heap.size := by have := hb6.size; omega
              have En := Lib.hid en
              clear hB th hz hb6 en
              go_wp2_with fail
              refine (begins_in _ _ _ _ (by omega) (by omega) (by omega) (by omega) (by omega) (by omega)).mono ?_
              rintro e w7 ⟨rfl, hb7⟩
              rw [En.out]
              have hB7 := below_then hB6 hb7
              have th7 := there_below th6 hb7 hz6
              clear hB6 th6 hz6 hb7
              go_wp2_with (refine wpList_store_mid rfl _ (.tmp 2) (.tmp 44) rfl w.heap.size 0 _ rfl rfl ?_ rinfo7 ?_ ?_; exact th7; simp [Value.oneCell'])
              exact bodyPost_ret (ret_cell_tmp2 Tryz.results103 _ _ w.heap.size (rdateC q j d 0 0 0 0) _ rfl (World.rangeAt_setCells_same _ _ _ _ th7) Tryz.underlying126 rfl rinfo7) rfl ⟨by rw [← Hd.out]; rfl, below_setCells _ (Nat.le_refl _) _ _ _ hB7⟩
            · have e1 : t < bgv (mo q j + d - 1) q j := H.out.gt ⟨M1, M2, by omega, by omega⟩ (by omega)
              go_wp2_with (go_at_call 120; refine (begins_in _ _ _ _ (by omega) (by omega) (by omega) (by omega) (by omega) (by omega)).mono ?_; rintro e w6 ⟨rfl, hb6⟩)
              go_roundw
              case rel => exact ⟨d - 1, by omega, by omega, rfl, below_then hB hb6, there_below th hb6 hz, by have := hb6.size; omega⟩
              case measure => simp [intOf]; omega
        · have e1 : t < bgv (mo q j) q j := by
            exact H.out.gt (ym_first q j (by omega) (by omega)) (by have := mo_le q (m + 1) j (by omega) (by omega); omega)
          go_wp2_with (go_at_call 120; refine (begins_in _ _ 1 _ (by omega) (by omega) (by omega) (by omega) (by omega) (by have := mo_len q j (by omega) (by omega); omega)).mono ?_; rintro e w4 ⟨rfl, hb4⟩)
          go_roundw
          case rel => exact ⟨j - 1, by omega, by omega, rfl, below_then hB hb4, there_below th hb4 hz, by have := hb4.size; omega⟩
          case measure => simp [intOf]; omega
    · have e1 : t < bgv (mo q 1) q 1 := by
        exact H.out.gt (ym_first q 1 (by omega) (by omega)) (by have := mo_year_le (y + 1) q (by omega); have := H.out.ym.yhi; omega)
      go_wp2_with (go_at_call 120; refine (begins_in _ 1 1 _ (by omega) (by omega) (by omega) (by omega) (by omega) (by have := mo_len q 1 (by omega) (by omega); omega)).mono ?_; rintro e w3 ⟨rfl, hb3⟩)
      go_roundw
      case rel => exact ⟨q - 1, by omega, by omega, rfl, below_then hB hb3, there_below th hb3 hz, by have := hb3.size; omega⟩
      case measure => simp [intOf]; omega
end Mw
end Go.Proofs.YtjgcbeihgeaimaaGreatDoor
/-
  The walk of ToUtc of the reference, and of Leap of both.
-/
namespace Go.Proofs.YtjgcbeihgeaimaaGreatDoor
namespace Mw
open Go.RowKit Go.Proofs.YtjgcbeihgeaimaaGreatDoor.Mp Lw

set_option maxRecDepth 100000 in
set_option maxHeartbeats 1000000 in
theorem rtoutc_out (t : Int) (w : World) (h0 : -9223372036854775808 ≤ t) (h1 : t ≤ 9223372036854775807) (h : t < bgv (-10227) 1972 1 ∨ bgv 36525 2100 1 ≤ t) :
    Calls Tryz.prog 80 #[.int .i64 t] w fun e w' => e = .returned (.tuple #[rdateV 0 0 0 0 0 0 0, .int .i64 16]) ∧ Below w.heap.size w w' := by
  have H := Lib.hid h
  clear h
  go_enter Tryz.func80, Tryz.ntmps80
  go_wp2_with fail
  refine (rday_out t _ h0 h1 H.out).mono ?_
  rintro e w1 ⟨rfl, hb⟩
  have th := there_below (there_new w _ _ 7 (by simp)) hb (by simp)
  have hB := below_then ((Below.refl w.heap.size w).alloc (Nat.le_refl _) _) hb
  have hz := hB.size
  clear hb
  go_wp2_with (first | (refine wpList_store_mid rfl _ (.tmp 2) (.tmp 16) rfl w.heap.size 0 _ rfl rfl ?_ rinfo7 ?_ ?_; exact World.there_alloc th _; simp [Value.oneCell']) | (refine wpList_store_new rfl _ (.tmp 4) (.tmp 11) rfl _ _ rfl rfl rinfo7 rfl ?_ ?_; simp [Value.oneCell']))
  exact bodyPost_ret (ret_cell_tmp Tryz.results80 _ _ w.heap.size (rdateC 0 0 0 0 0 0 0) _ rfl (World.rangeAt_setCells_same _ _ _ _ (World.there_alloc th _)) Tryz.underlying126 rfl rinfo7) rfl ⟨rfl, below_setCells _ (Nat.le_refl _) _ _ _ (hB.alloc hz _)⟩

theorem hms_1 (p : Int) (h0 : 0 ≤ p) (h : p < 86401000000) (c : 86400 ≤ p / 1000000) : mins p / 60 = 23 ∧ mins p % 60 = 59 ∧ p / 1000000 - 60 * mins p = 60 := by
  unfold mins; rw [if_neg (by omega)]; omega
theorem hms_2 (p : Int) (h0 : 0 ≤ p) (c : ¬ 86400 ≤ p / 1000000) : mins p / 60 = p / 1000000 / 3600 ∧ mins p % 60 = p / 1000000 / 60 % 60 ∧ p / 1000000 - 60 * mins p = p / 1000000 % 60 := by
  unfold mins; rw [if_pos (by omega)]; omega

set_option maxRecDepth 100000 in
set_option maxHeartbeats 1000000 in
theorem rtoutc_in (t n y m z k : Int) (w : World) (h : DayOf t n y m z k) (h1 : bgv (-10227) 1972 1 ≤ t) (h2 : t < bgv 36525 2100 1) :
    Calls Tryz.prog 80 #[.int .i64 t] w fun e w' => e = .returned (.tuple #[rdateV y m (n - mo y m + 1) (mins (t - bgv n y m) / 60) (mins (t - bgv n y m) % 60) ((t - bgv n y m) / 1000000 - 60 * mins (t - bgv n y m)) ((t - bgv n y m) % 1000000), .int .i64 0]) ∧ Below w.heap.size w w' := by
  obtain ⟨p1, p2⟩ := h.pass
  have H := Lib.hid h
  have H1 := Lib.hid h1
  have H2 := Lib.hid h2
  clear h h1 h2
  generalize hp : t - bgv n y m = p at *
  have Hp := Lib.hid hp
  clear hp
  by_cases hc : 86400 ≤ p / 1000000
  · have G := Lib.hid (hms_1 p p1 p2 hc)
    go_enter Tryz.func80, Tryz.ntmps80
    go_wp2_with fail
    refine (rday_in t n y m z k _ H.out H1.out H2.out).mono ?_
    rintro e w1 ⟨rfl, hb⟩
    rw [Hp.out]
    have th := there_below (there_new w _ _ 7 (by simp)) hb (by simp)
    have hB := below_then ((Below.refl w.heap.size w).alloc (Nat.le_refl _) _) hb
    have hz := hB.size
    clear hb
    go_wp2_with (first | (refine wpList_store_mid rfl _ (.tmp 2) (.tmp 27) rfl w.heap.size 0 _ rfl rfl ?_ rinfo7 ?_ ?_; exact World.there_alloc th _; simp [Value.oneCell']) | (refine wpList_store_new rfl _ (.tmp 4) (.tmp 11) rfl _ _ rfl rfl rinfo7 rfl ?_ ?_; simp [Value.oneCell']))
    refine bodyPost_ret (ret_cell_tmp Tryz.results80 _ _ w.heap.size (rdateC y m (n - mo y m + 1) 23 59 60 (p % 1000000)) _ rfl (World.rangeAt_setCells_same _ _ _ _ (World.there_alloc th _)) Tryz.underlying126 rfl rinfo7) rfl ⟨?_, below_setCells _ (Nat.le_refl _) _ _ _ (hB.alloc hz _)⟩
    obtain ⟨g1, g2, g3⟩ := G.out
    rw [g1, g2, g3]
    rfl
  · have G := Lib.hid (hms_2 p p1 hc)
    go_enter Tryz.func80, Tryz.ntmps80
    go_wp2_with fail
    refine (rday_in t n y m z k _ H.out H1.out H2.out).mono ?_
    rintro e w1 ⟨rfl, hb⟩
    rw [Hp.out]
    have th := there_below (there_new w _ _ 7 (by simp)) hb (by simp)
    have hB := below_then ((Below.refl w.heap.size w).alloc (Nat.le_refl _) _) hb
    have hz := hB.size
    clear hb
    go_wp2_with (first | (refine wpList_store_mid rfl _ (.tmp 2) (.tmp 38) rfl w.heap.size 0 _ rfl rfl ?_ rinfo7 ?_ ?_; exact World.there_alloc th _; simp [Value.oneCell']) | (refine wpList_store_new rfl _ (.tmp 4) (.tmp 11) rfl _ _ rfl rfl rinfo7 rfl ?_ ?_; simp [Value.oneCell']))
    refine bodyPost_ret (ret_cell_tmp Tryz.results80 _ _ w.heap.size (rdateC y m (n - mo y m + 1) (p / 1000000 / 3600) (p / 1000000 / 60 % 60) (p / 1000000 % 60) (p % 1000000)) _ rfl (World.rangeAt_setCells_same _ _ _ _ (World.there_alloc th _)) Tryz.underlying126 rfl rinfo7) rfl ⟨?_, below_setCells _ (Nat.le_refl _) _ _ _ (hB.alloc hz _)⟩
    obtain ⟨g1, g2, g3⟩ := G.out
    rw [g1, g2, g3]
    rfl
end Mw
end Go.Proofs.YtjgcbeihgeaimaaGreatDoor
