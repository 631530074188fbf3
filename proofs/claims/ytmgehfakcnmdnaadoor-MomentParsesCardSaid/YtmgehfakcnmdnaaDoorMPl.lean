/-
  Plain mathematics of the calendar, for any whole numbers; no program in sight.
-/
import Derived.Test.YtmgehfakcnmdnaaDoorMPa
namespace Go.Proofs.YtmgehfakcnmdnaaDoor
namespace Mp

/-- The days from 2000-01-01 to a day of the calendar, years that begin in March. -/
def fday (y m d : Int) : Int := 365 * y + y / 4 - y / 100 + y / 400 + (153 * m - 457) / 5 + d - 730426
def dn (y m d : Int) : Int := if m < 3 then fday (y - 1) (m + 12) d else fday y m d
/-- The day with which a month begins. -/
def mo (y m : Int) : Int := dn y m 1
theorem dn_mo (y m d : Int) : dn y m d = mo y m + d - 1 := by unfold mo dn fday; split <;> omega
theorem mo_13 (y : Int) : mo y 13 = mo (y + 1) 1 := by unfold mo dn fday; rw [if_neg (by omega), if_pos (by omega)]; omega
theorem mo_year (y : Int) : mo y 1 = 365 * (y - 1) + (y - 1) / 4 - (y - 1) / 100 + (y - 1) / 400 - 730119 := by unfold mo dn fday; rw [if_pos (by omega)]; omega
theorem mo_year_le (a b : Int) (h : a ≤ b) : mo a 1 ≤ mo b 1 := by rw [mo_year, mo_year]; omega
theorem mo_year_lt (y : Int) : mo y 1 + 365 ≤ mo (y + 1) 1 := by rw [mo_year, mo_year]; omega
theorem mo_le (y a b : Int) (h1 : 1 ≤ a) (h : a ≤ b) : mo y a ≤ mo y b := by
  unfold mo dn fday
  split <;> split <;> omega
theorem mo_len (y m : Int) (h1 : 1 ≤ m) (h : m ≤ 12) : mo y m + 28 ≤ mo y (m + 1) ∧ mo y (m + 1) ≤ mo y m + 31 := by
  unfold mo dn fday
  split <;> split <;> omega
/-- A day of a month. -/
structure IsYM (n y m : Int) : Prop where
  m1 : 1 ≤ m
  m12 : m ≤ 12
  lo : mo y m ≤ n
  hi : n < mo y (m + 1)
theorem IsYM.ylo {n y m : Int} (h : IsYM n y m) : mo y 1 ≤ n := by have := mo_le y 1 m (by omega) h.m1; have := h.lo; omega
theorem IsYM.yhi {n y m : Int} (h : IsYM n y m) : n < mo (y + 1) 1 := by have := mo_le y (m + 1) 13 (by have := h.m1; omega) (by have := h.m12; omega); have := h.hi; rw [← mo_13]; omega
theorem year_uniq {n y z : Int} (h1 : mo y 1 ≤ n) (h2 : n < mo (y + 1) 1) (h3 : mo z 1 ≤ n) (h4 : n < mo (z + 1) 1) : y = z := by
  rcases Int.lt_trichotomy y z with h | h | h
  · have := mo_year_le (y + 1) z (by omega); omega
  · exact h
  · have := mo_year_le (z + 1) y (by omega); omega
theorem month_uniq {n y m k : Int} (a1 : 1 ≤ m) (b1 : 1 ≤ k) (h1 : mo y m ≤ n) (h2 : n < mo y (m + 1)) (h3 : mo y k ≤ n) (h4 : n < mo y (k + 1)) : m = k := by
  rcases Int.lt_trichotomy m k with h | h | h
  · have := mo_le y (m + 1) k (by omega) (by omega); omega
  · exact h
  · have := mo_le y (k + 1) m (by omega) (by omega); omega
theorem year_ex (n : Int) (lo : Int) (k : Nat) (h1 : mo lo 1 ≤ n) (h2 : n < mo (lo + k) 1) : ∃ y : Int, lo ≤ y ∧ y < lo + k ∧ mo y 1 ≤ n ∧ n < mo (y + 1) 1 := by
  induction k with
  | zero => simp at h2; omega
  | succ k ih =>
    by_cases h : n < mo (lo + k) 1
    · obtain ⟨y, a, b, c, d⟩ := ih h
      exact ⟨y, a, by omega, c, d⟩
    · exact ⟨lo + k, by omega, by omega, by omega, by rw [show lo + (k : Int) + 1 = lo + ((k + 1 : Nat) : Int) by omega]; exact h2⟩
theorem month_ex (n y : Int) (k : Nat) (h1 : mo y 1 ≤ n) (h2 : n < mo y (1 + k)) : ∃ m : Int, 1 ≤ m ∧ m < 1 + k ∧ mo y m ≤ n ∧ n < mo y (m + 1) := by
  induction k with
  | zero => simp at h2; omega
  | succ k ih =>
    by_cases h : n < mo y (1 + k)
    · obtain ⟨m, a, b, c, d⟩ := ih h
      exact ⟨m, a, by omega, c, d⟩
    · exact ⟨1 + k, by omega, by omega, by omega, by rw [show 1 + (k : Int) + 1 = 1 + ((k + 1 : Nat) : Int) by omega]; exact h2⟩
/-- Each day of the years of which we speak lies in a month. -/
theorem ym_ex (n : Int) (h1 : -10400 ≤ n) (h2 : n ≤ 36700) : ∃ y m : Int, 1971 ≤ y ∧ y ≤ 2100 ∧ IsYM n y m := by
  obtain ⟨y, a, b, c, d⟩ := year_ex n 1971 130 (by rw [mo_year]; omega) (by rw [mo_year]; omega)
  obtain ⟨m, e, f, g, i⟩ := month_ex n y 12 c (by rw [show (1 : Int) + ((12 : Nat) : Int) = 13 by omega, mo_13]; exact d)
  exact ⟨y, m, a, by omega, e, by omega, g, i⟩
theorem ym_uniq {n y m z k : Int} (h : IsYM n y m) (g : IsYM n z k) : y = z ∧ m = k := by
  have e := year_uniq h.ylo h.yhi g.ylo g.yhi
  subst e
  exact ⟨rfl, month_uniq h.m1 g.m1 h.lo h.hi g.lo g.hi⟩
theorem le_of_mo {n y z : Int} (h : mo z 1 ≤ n) (g : n < mo (y + 1) 1) : z ≤ y := by
  rcases Int.lt_or_le y z with k | k
  · have := mo_year_le (y + 1) z (by omega); omega
  · exact k
theorem guess_hi (q : Nat) (h : q < 110) : mo (2000 + q) 1 ≤ 366 * q := by
  have : ∀ q : Nat, q < 110 → mo (2000 + q) 1 ≤ 366 * q := by decide +kernel
  exact this q h
theorem guess_lo (q : Nat) (h : q < 40) : mo (2000 - q) 1 ≤ -365 * q := by
  have : ∀ q : Nat, q < 40 → mo (2000 - q) 1 ≤ -365 * q := by decide +kernel
  exact this q h
theorem start_hi (n y : Int) (h0 : 0 ≤ n) (h1 : n ≤ 36889) (g : n < mo (y + 1) 1) : 2000 + n / 366 ≤ y := by
  refine le_of_mo (n := n) ?_ g
  have := guess_hi (n / 366).toNat (by omega)
  rw [show ((n / 366).toNat : Int) = n / 366 by omega] at this
  omega
theorem start_lo (n y : Int) (h0 : n < 0) (h1 : -10592 ≤ n) (g : n < mo (y + 1) 1) : 2000 - (364 - n) / 365 ≤ y := by
  refine le_of_mo (n := n) ?_ g
  have := guess_lo ((364 - n) / 365).toNat (by omega)
  rw [show (((364 - n) / 365).toNat : Int) = (364 - n) / 365 by omega] at this
  omega
theorem IsYM.range {n y m : Int} (h : IsYM n y m) (a : 1971 ≤ y) (b : y ≤ 2100) : -10592 ≤ n ∧ n ≤ 36889 := by
  have h1 := mo_year_le 1971 y a
  have h2 := mo_year_le (y + 1) 2101 (by omega)
  have h3 := h.ylo
  have h4 := h.yhi
  rw [mo_year 1971] at h1
  rw [mo_year 2101] at h2
  omega
/-- The time at which a day begins. -/
def bgv (n y m : Int) : Int := n * 86400000000 - 43200000000 + lps (12 * y + m - 1) * 1000000 + 32184000
theorem lps_bd (k : Int) : 10 ≤ lps k ∧ lps k ≤ 37 := by have := lpsTo_bd k 27; unfold lps; omega
theorem bgv_bd (n y m : Int) (h1 : -10592 ≤ n) (h2 : n ≤ 36889) : -1000000000000000 ≤ bgv n y m ∧ bgv n y m ≤ 4000000000000000 := by
  have := lps_bd (12 * y + m - 1); unfold bgv; omega
/-- A day of the calendar, of the years of which we speak. -/
def wholeP (y m d : Int) : Prop := 1972 ≤ y ∧ y < 2100 ∧ 1 ≤ m ∧ m ≤ 12 ∧ 1 ≤ d ∧ d ≤ mo y (m + 1) - mo y m
theorem wholeP_ym {y m d : Int} (h : wholeP y m d) : IsYM (dn y m d) y m := by
  obtain ⟨_, _, a, b, c, e⟩ := h
  rw [dn_mo]
  exact ⟨a, b, by omega, by omega⟩
def wholeB (y m d : Int) : Bool := decide (1972 ≤ y) && decide (y < 2100) && decide (1 ≤ m) && decide (m ≤ 12) && decide (1 ≤ d) && decide (d ≤ mo y (m + 1) - mo y m)
theorem wholeB_iff (y m d : Int) : wholeB y m d = true ↔ wholeP y m d := by
  unfold wholeB wholeP
  simp only [Bool.and_eq_true, decide_eq_true_eq, and_assoc]
theorem wholeB_no {y m d : Int} (h : ¬ wholeP y m d) : false = wholeB y m d := by
  cases e : wholeB y m d with
  | false => rfl
  | true => exact absurd ((wholeB_iff y m d).1 e) h
theorem wholeB_yes {y m d : Int} (h : wholeP y m d) : true = wholeB y m d := ((wholeB_iff y m d).2 h).symm
/-- The day at whose end a leap second stands. -/
def leapday (y m d : Int) : Prop := d = mo y (m + 1) - mo y m ∧ lps (12 * y + m) = lps (12 * y + m - 1) + 1
/-- A date and a time of UTC. -/
def fromOk (y m d h i s u : Int) : Prop := wholeP y m d ∧ 0 ≤ h ∧ h ≤ 23 ∧ 0 ≤ i ∧ i ≤ 59 ∧ 0 ≤ s ∧ 0 ≤ u ∧ u < 1000000 ∧ (s < 60 ∨ s = 60 ∧ h = 23 ∧ i = 59 ∧ leapday y m d)
def timeOf (y m d h i s u : Int) : Int := bgv (dn y m d) y m + ((3600 * h + 60 * i + s) * 1000000 + u)
/-- What the call returns: the time, and the error. -/
def FromIs (y m d h i s u t e : Int) : Prop := (fromOk y m d h i s u ∧ t = timeOf y m d h i s u ∧ e = 0) ∨ (¬ fromOk y m d h i s u ∧ t = 0 ∧ e = 2)
theorem FromIs.uniq {y m d h i s u t e t' e' : Int} (a : FromIs y m d h i s u t e) (b : FromIs y m d h i s u t' e') : t = t' ∧ e = e' := by
  rcases a with ⟨a1, a2, a3⟩ | ⟨a1, a2, a3⟩ <;> rcases b with ⟨b1, b2, b3⟩ | ⟨b1, b2, b3⟩
  · exact ⟨by omega, by omega⟩
  · exact absurd a1 b1
  · exact absurd b1 a1
  · exact ⟨by omega, by omega⟩
/-- The months of consecutive days. -/
theorem next_ym {n y m z k : Int} (h : IsYM n y m) (g : IsYM (n + 1) z k) : (z = y ∧ k = m ∧ n + 1 < mo y (m + 1)) ∨ (12 * z + k = 12 * y + m + 1 ∧ n + 1 = mo y (m + 1)) := by
  have a1 := h.m1
  have a2 := h.m12
  by_cases hl : n + 1 < mo y (m + 1)
  · obtain ⟨e1, e2⟩ := ym_uniq g ⟨a1, a2, by have := h.lo; omega, hl⟩
    exact Or.inl ⟨e1, e2, hl⟩
  · have he : n + 1 = mo y (m + 1) := by have := h.hi; omega
    by_cases h12 : m = 12
    · subst h12
      rw [show (12 : Int) + 1 = 13 by omega, mo_13] at he
      obtain ⟨e1, e2⟩ := ym_uniq g (y := z) (m := k) (z := y + 1) (k := 1) ⟨by omega, by omega, by omega, by have := mo_len (y + 1) 1 (by omega) (by omega); omega⟩
      exact Or.inr ⟨by omega, by rw [show (12 : Int) + 1 = 13 by omega, mo_13]; exact he⟩
    · obtain ⟨e1, e2⟩ := ym_uniq g (y := z) (m := k) (z := y) (k := m + 1) ⟨by omega, by omega, by omega, by have := mo_len y (m + 1) (by omega) (by omega); omega⟩
      exact Or.inr ⟨by omega, he⟩
theorem lps_next (y m : Int) (a : 1971 ≤ y) (b : y ≤ 2100) (c : 1 ≤ m) (d : m ≤ 12) : lps (12 * y + m) ≤ lps (12 * y + m - 1) + 1 ∧ lps (12 * y + m - 1) ≤ lps (12 * y + m) := by
  have := lps_step (12 * y + m - 1 - 23500).toNat (by omega)
  rw [show (23500 : Int) + ((12 * y + m - 1 - 23500).toNat : Nat) = 12 * y + m - 1 by omega, show 12 * y + m - 1 + 1 = 12 * y + m by omega] at this
  exact this
/-- A day has 86,400 seconds, or one more if a leap second stands at its end. -/
theorem day_len {y m d z k : Int} (hw : wholeP y m d) (hz : IsYM (dn y m d + 1) z k) :
    (bgv (dn y m d + 1) z k = bgv (dn y m d) y m + 86400000000 ∧ ¬ leapday y m d) ∨ (bgv (dn y m d + 1) z k = bgv (dn y m d) y m + 86401000000 ∧ leapday y m d) := by
  have hI := wholeP_ym hw
  obtain ⟨a1, a2, a3, a4, a5, a6⟩ := hw
  have nx := next_ym hI hz
  have ml := mo_len y m a3 a4
  have dl : bgv (dn y m d + 1) z k = bgv (dn y m d) y m + 86400000000 + (lps (12 * z + k - 1) - lps (12 * y + m - 1)) * 1000000 := by unfold bgv; omega
  have ls := lps_next y m (by omega) (by omega) a3 a4
  unfold leapday
  rcases nx with ⟨rfl, rfl, h3⟩ | ⟨h3, h4⟩
  · rw [dn_mo] at h3
    exact Or.inl ⟨by omega, fun ⟨e, _⟩ => by omega⟩
  · rw [show 12 * z + k - 1 = 12 * y + m by omega] at dl
    rw [dn_mo] at h4
    by_cases e : lps (12 * y + m) = lps (12 * y + m - 1)
    · exact Or.inl ⟨by omega, fun ⟨_, f⟩ => by omega⟩
    · exact Or.inr ⟨by omega, by omega, by omega⟩
theorem wholeP_range {y m d : Int} (hw : wholeP y m d) : -10227 ≤ dn y m d ∧ dn y m d + 1 ≤ 36525 := by
  have hI := wholeP_ym hw
  have h1 := mo_year_le 1972 y hw.1
  have h2 := mo_year_le (y + 1) 2100 (by have := hw.2.1; omega)
  have h3 := hI.ylo
  have h4 := hI.yhi
  rw [mo_year 1972] at h1
  rw [mo_year 2100] at h2
  omega
theorem from_60 {y m d h i s u B : Int} (hw : wholeP y m d) (h1 : 0 ≤ h) (h2 : h ≤ 23) (h3 : 0 ≤ i) (h4 : i ≤ 59) (h5 : 0 ≤ s) (h7 : 0 ≤ u) (h8 : u < 1000000)
    (hl : (B = bgv (dn y m d) y m + 86400000000 ∧ ¬ leapday y m d) ∨ (B = bgv (dn y m d) y m + 86401000000 ∧ leapday y m d))
    (hs : s = 60) (hp : 86400000000 ≤ (3600 * h + 60 * i + s) * 1000000 + u) (ht : bgv (dn y m d) y m + ((3600 * h + 60 * i + s) * 1000000 + u) < B) : fromOk y m d h i s u := by
  rcases hl with ⟨e, f⟩ | ⟨e, f⟩
  · omega
  · exact ⟨hw, h1, h2, h3, h4, h5, h7, h8, Or.inr ⟨hs, by omega, by omega, f⟩⟩
theorem from_60_no {y m d h i s u B : Int} (hl : (B = bgv (dn y m d) y m + 86400000000 ∧ ¬ leapday y m d) ∨ (B = bgv (dn y m d) y m + 86401000000 ∧ leapday y m d))
    (hs : s = 60) (ht : (3600 * h + 60 * i + s) * 1000000 + u < 86400000000 ∨ B ≤ bgv (dn y m d) y m + ((3600 * h + 60 * i + s) * 1000000 + u)) : ¬ fromOk y m d h i s u := by
  rintro ⟨_, h1, h2, h3, h4, h5, h6, h7, h8 | ⟨h8, h9, h10, h11⟩⟩
  · omega
  · rcases hl with ⟨e, f⟩ | ⟨e, f⟩
    · exact f h11
    · omega
/-- The day of a time, and the next one. -/
structure DayOf (t n y m z k : Int) : Prop where
  ym : IsYM n y m
  zk : IsYM (n + 1) z k
  lo : bgv n y m ≤ t
  hi : t < bgv (n + 1) z k
  n1 : -10227 ≤ n
  n2 : n ≤ 36524
  y1 : 1972 ≤ y
  y2 : y ≤ 2099
theorem ym_72 : IsYM (-10227) 1972 1 := ⟨by omega, by omega, by rw [mo_year]; omega, by unfold mo dn fday; rw [if_pos (by omega)]; omega⟩
theorem ym_00 : IsYM 36525 2100 1 := ⟨by omega, by omega, by rw [mo_year]; omega, by unfold mo dn fday; rw [if_pos (by omega)]; omega⟩
theorem dn_72 : dn 1972 1 1 = -10227 := by decide
theorem dn_00 : dn 2100 1 1 = 36525 := by decide
theorem day_ex_aux (t : Int) (h1 : bgv (-10227) 1972 1 ≤ t) (j : Nat) : j ≤ 46752 → (∀ y m, IsYM (-10227 + j) y m → t < bgv (-10227 + j) y m) → ∃ n y m z k, DayOf t n y m z k := by
  induction j with
  | zero =>
    intro _ h
    have := h 1972 1 (by rw [show (-10227 : Int) + ((0 : Nat) : Int) = -10227 by omega]; exact ym_72)
    rw [show (-10227 : Int) + ((0 : Nat) : Int) = -10227 by omega] at this
    omega
  | succ j ih =>
    intro hj h
    obtain ⟨y, m, y1, y2, hy⟩ := ym_ex (-10227 + j) (by omega) (by omega)
    by_cases ht : t < bgv (-10227 + j) y m
    · exact ih (by omega) fun y' m' h' => by obtain ⟨rfl, rfl⟩ := ym_uniq h' hy; exact ht
    · obtain ⟨z, k, z1, z2, hz⟩ := ym_ex (-10227 + j + 1) (by omega) (by omega)
      refine ⟨-10227 + j, y, m, z, k, hy, hz, by omega, ?_, by omega, by omega, ?_, ?_⟩
      · have := h z k (by rw [show (-10227 : Int) + ((j + 1 : Nat) : Int) = -10227 + j + 1 by omega]; exact hz)
        rw [show (-10227 : Int) + ((j + 1 : Nat) : Int) = -10227 + j + 1 by omega] at this
        exact this
      · have h72 := le_of_mo (n := -10227 + j) (z := 1972) (y := y) (by rw [mo_year]; omega) hy.yhi
        exact h72
      · rcases Int.lt_or_le y 2100 with e | e
        · omega
        · have := mo_year_le 2100 y e; have := hy.ylo; rw [mo_year 2100] at *; omega
theorem day_ex (t : Int) (h1 : bgv (-10227) 1972 1 ≤ t) (h2 : t < bgv 36525 2100 1) : ∃ n y m z k, DayOf t n y m z k :=
  day_ex_aux t h1 46752 (by omega) fun y m h => by
    obtain ⟨rfl, rfl⟩ := ym_uniq h ym_00
    exact h2
/-- A day that has begun is not behind the day of the time. -/
theorem DayOf.le {t n y m z k n' y' m' : Int} (h : DayOf t n y m z k) (g : IsYM n' y' m') (hb : bgv n' y' m' ≤ t) : n' ≤ n := by
  rcases Int.lt_or_le n n' with e | e
  · by_cases e1 : n' = n + 1
    · subst e1
      obtain ⟨rfl, rfl⟩ := ym_uniq g h.zk
      have := h.hi; omega
    · have a1 := lps_bd (12 * y' + m' - 1)
      have a2 := lps_bd (12 * z + k - 1)
      have := h.hi
      unfold bgv at *
      omega
  · exact e
theorem DayOf.uniq {t n y m z k n' y' m' z' k' : Int} (h : DayOf t n y m z k) (g : DayOf t n' y' m' z' k') : n = n' ∧ y = y' ∧ m = m' ∧ z = z' ∧ k = k' := by
  have a1 := h.le g.ym g.lo
  have a2 := g.le h.ym h.lo
  obtain rfl : n = n' := by omega
  obtain ⟨rfl, rfl⟩ := ym_uniq h.ym g.ym
  obtain ⟨rfl, rfl⟩ := ym_uniq h.zk g.zk
  exact ⟨rfl, rfl, rfl, rfl, rfl⟩
theorem DayOf.guess {t n y m z k : Int} (h : DayOf t n y m z k) : n ≤ (t - 32184000 + 43200000000).tdiv 86400000000 ∧ (t - 32184000 + 43200000000).tdiv 86400000000 ≤ n + 2 := by
  have a1 := lps_bd (12 * y + m - 1)
  have a2 := lps_bd (12 * z + k - 1)
  have h1 := h.lo
  have h2 := h.hi
  have e := Int.tdiv_eq_ediv (a := t - 32184000 + 43200000000) (b := 86400000000)
  unfold bgv at h1 h2
  have s : (86400000000 : Int).sign = 1 := rfl
  rw [s] at e
  split at e <;> omega
theorem DayOf.pass {t n y m z k : Int} (h : DayOf t n y m z k) : 0 ≤ t - bgv n y m ∧ t - bgv n y m < 86401000000 := by
  have h1 := h.lo
  have h2 := h.hi
  have hw : wholeP y m (n - mo y m + 1) := ⟨h.y1, by have := h.y2; omega, h.ym.m1, h.ym.m12, by have := h.ym.lo; omega, by have := h.ym.hi; omega⟩
  have e : dn y m (n - mo y m + 1) = n := by rw [dn_mo]; omega
  have := day_len (z := z) (k := k) hw (by rw [e]; exact h.zk)
  rw [e] at this
  rcases this with ⟨a, _⟩ | ⟨a, _⟩ <;> omega
/-- The minutes of a day that have passed: the leap second belongs to the last one. -/
def mins (p : Int) : Int := if p / 1000000 / 60 ≤ 1439 then p / 1000000 / 60 else 1439
/-! ### The reference's tables -/
def julL : List Int := [1972, 1981, 1982, 1983, 1985, 1992, 1993, 1994, 1997, 2012, 2015]
def janL : List Int := [1973, 1974, 1975, 1976, 1977, 1978, 1979, 1980, 1988, 1990, 1991, 1996, 1999, 2006, 2009, 2017]
def lenL : List Int := [0, 31, 28, 31, 30, 31, 30, 31, 31, 30, 31, 30, 31]
def julAt (j : Nat) : Int := julL.getD j 0
def janAt (j : Nat) : Int := janL.getD j 0
def lenAt (j : Nat) : Int := lenL.getD j 0
def rlj (y m : Int) : Nat → Int
  | 0 => 10
  | i + 1 => rlj y m i + if julAt i < y ∨ julAt i = y ∧ 7 ≤ m then 1 else 0
def rln (y m : Int) : Nat → Int
  | 0 => rlj y m 11
  | i + 1 => rln y m i + if janAt i ≤ y then 1 else 0
theorem rlj_bd (y m : Int) (i : Nat) : 10 ≤ rlj y m i ∧ rlj y m i ≤ 10 + i := by
  induction i with
  | zero => simp [rlj]
  | succ i ih => simp only [rlj]; split <;> omega
theorem rln_bd (y m : Int) (i : Nat) : 10 ≤ rln y m i ∧ rln y m i ≤ 21 + i := by
  induction i with
  | zero => have := rlj_bd y m 11; simp only [rln]; omega
  | succ i ih => simp only [rln]; split <;> omega
theorem jul_iff {y m : Int} (h1 : 1 ≤ m) (h2 : m ≤ 12) (c : Int) : (c < y ∨ c = y ∧ 7 ≤ m) = (12 * c + 6 ≤ 12 * y + m - 1) := by apply propext; omega
theorem jan_iff {y m : Int} (h1 : 1 ≤ m) (h2 : m ≤ 12) (c : Int) : (c ≤ y) = (12 * c ≤ 12 * y + m - 1) := by apply propext; omega
theorem rl_lps (y m : Int) (h1 : 1 ≤ m) (h2 : m ≤ 12) : rln y m 16 = lps (12 * y + m - 1) := by
  simp only [rln, rlj, lps, lpsTo]
  simp only [show julAt 0 = 1972 from rfl, show julAt 1 = 1981 from rfl, show julAt 2 = 1982 from rfl, show julAt 3 = 1983 from rfl, show julAt 4 = 1985 from rfl, show julAt 5 = 1992 from rfl, show julAt 6 = 1993 from rfl, show julAt 7 = 1994 from rfl, show julAt 8 = 1997 from rfl, show julAt 9 = 2012 from rfl, show julAt 10 = 2015 from rfl]
  simp only [show janAt 0 = 1973 from rfl, show janAt 1 = 1974 from rfl, show janAt 2 = 1975 from rfl, show janAt 3 = 1976 from rfl, show janAt 4 = 1977 from rfl, show janAt 5 = 1978 from rfl, show janAt 6 = 1979 from rfl, show janAt 7 = 1980 from rfl, show janAt 8 = 1988 from rfl, show janAt 9 = 1990 from rfl, show janAt 10 = 1991 from rfl, show janAt 11 = 1996 from rfl, show janAt 12 = 1999 from rfl, show janAt 13 = 2006 from rfl, show janAt 14 = 2009 from rfl, show janAt 15 = 2017 from rfl]
  simp only [show stepAt 0 = 23670 from rfl, show stepAt 1 = 23676 from rfl, show stepAt 2 = 23688 from rfl, show stepAt 3 = 23700 from rfl, show stepAt 4 = 23712 from rfl, show stepAt 5 = 23724 from rfl, show stepAt 6 = 23736 from rfl, show stepAt 7 = 23748 from rfl, show stepAt 8 = 23760 from rfl, show stepAt 9 = 23778 from rfl, show stepAt 10 = 23790 from rfl, show stepAt 11 = 23802 from rfl, show stepAt 12 = 23826 from rfl, show stepAt 13 = 23856 from rfl, show stepAt 14 = 23880 from rfl, show stepAt 15 = 23892 from rfl, show stepAt 16 = 23910 from rfl, show stepAt 17 = 23922 from rfl, show stepAt 18 = 23934 from rfl, show stepAt 19 = 23952 from rfl, show stepAt 20 = 23970 from rfl, show stepAt 21 = 23988 from rfl, show stepAt 22 = 24072 from rfl, show stepAt 23 = 24108 from rfl, show stepAt 24 = 24150 from rfl, show stepAt 25 = 24186 from rfl, show stepAt 26 = 24204 from rfl]
  generalize hK : 12 * y + m - 1 = K
  have ej : ∀ c : Int, (if c < y ∨ c = y ∧ 7 ≤ m then (1 : Int) else 0) = if 12 * c + 6 ≤ K then 1 else 0 := fun c => by simp only [jul_iff (y := y) h1 h2, hK]
  have en : ∀ c : Int, (if c ≤ y then (1 : Int) else 0) = if 12 * c ≤ K then 1 else 0 := fun c => by rw [← hK]; simp only [jan_iff (y := y) h1 h2]
  simp only [ej, en, Int.reduceMul, Int.reduceAdd]
  ac_rfl
def leapB (y : Int) : Bool := y % 4 == 0 && (y % 100 != 0 || y % 400 == 0)
theorem leapB_iff (y : Int) : leapB y = true ↔ y % 4 = 0 ∧ (y % 100 ≠ 0 ∨ y % 400 = 0) := by
  simp [leapB]
theorem len_two (y : Int) : mo y 3 - mo y 2 = if leapB y = true then 29 else 28 := by
  unfold mo dn fday
  rw [if_neg (by omega), if_pos (by omega)]
  split
  · rename_i h; rw [leapB_iff] at h; omega
  · rename_i h; rw [leapB_iff] at h; omega
theorem len_at (y : Int) (k : Nat) (h1 : 1 ≤ k) (h2 : k ≤ 12) (h : k ≠ 2) : mo y (k + 1) - mo y k = lenAt k := by
  have : k = 1 ∨ k = 3 ∨ k = 4 ∨ k = 5 ∨ k = 6 ∨ k = 7 ∨ k = 8 ∨ k = 9 ∨ k = 10 ∨ k = 11 ∨ k = 12 := by omega
  rcases this with rfl | rfl | rfl | rfl | rfl | rfl | rfl | rfl | rfl | rfl | rfl <;> simp [mo, dn, fday, lenAt, lenL] <;> omega
theorem yr_len (y : Int) : mo (y + 1) 1 = mo y 1 + 365 + if leapB y = true then 1 else 0 := by
  rw [mo_year, mo_year]
  split
  · rename_i h; rw [leapB_iff] at h; omega
  · rename_i h; rw [leapB_iff] at h; omega
theorem mo_2000 : mo 2000 1 = 0 := by decide
theorem mo_1972 : mo 1972 1 = -10227 := by decide
theorem bgv_mono {n y m n' y' m' : Int} (h : IsYM n y m) (g : IsYM n' y' m') (hn : n' ≤ n) : bgv n' y' m' ≤ bgv n y m := by
  by_cases e : n' = n
  · subst e
    obtain ⟨rfl, rfl⟩ := ym_uniq h g
    exact Int.le_refl _
  · have a1 := lps_bd (12 * y + m - 1)
    have a2 := lps_bd (12 * y' + m' - 1)
    unfold bgv; omega
theorem DayOf.gt {t n y m z k n' y' m' : Int} (h : DayOf t n y m z k) (g : IsYM n' y' m') (hb : n < n') : t < bgv n' y' m' := by
  rcases Int.lt_or_le t (bgv n' y' m') with e | e
  · exact e
  · have := h.le g e; omega
theorem ym_first (y m : Int) (h1 : 1 ≤ m) (h2 : m ≤ 12) : IsYM (mo y m) y m := ⟨h1, h2, Int.le_refl _, by have := mo_len y m h1 h2; omega⟩
/-- What ToUtc returns: the date, and the error. -/
def ToIs (t y m d h i s u c : Int) : Prop := ((t < bgv (-10227) 1972 1 ∨ bgv 36525 2100 1 ≤ t) ∧ y = 0 ∧ m = 0 ∧ d = 0 ∧ h = 0 ∧ i = 0 ∧ s = 0 ∧ u = 0 ∧ c = 16) ∨
  (bgv (-10227) 1972 1 ≤ t ∧ t < bgv 36525 2100 1 ∧ ∃ n z k, DayOf t n y m z k ∧ d = n - mo y m + 1 ∧ h = mins (t - bgv n y m) / 60 ∧ i = mins (t - bgv n y m) % 60 ∧ s = (t - bgv n y m) / 1000000 - 60 * mins (t - bgv n y m) ∧ u = (t - bgv n y m) % 1000000 ∧ c = 0)
theorem ToIs.uniq {t y m d h i s u c y' m' d' h' i' s' u' c' : Int} (a : ToIs t y m d h i s u c) (b : ToIs t y' m' d' h' i' s' u' c') : y = y' ∧ m = m' ∧ d = d' ∧ h = h' ∧ i = i' ∧ s = s' ∧ u = u' ∧ c = c' := by
  rcases a with ⟨a0, a⟩ | ⟨a1, a2, n, z, k, hd, a⟩ <;> rcases b with ⟨b0, b⟩ | ⟨b1, b2, n', z', k', hd', b⟩
  · omega
  · omega
  · omega
  · obtain ⟨rfl, rfl, rfl, _, _⟩ := hd.uniq hd'
    obtain ⟨rfl, rfl, rfl, rfl, rfl, rfl⟩ := a
    obtain ⟨rfl, rfl, rfl, rfl, rfl, rfl⟩ := b
    exact ⟨rfl, rfl, rfl, rfl, rfl, rfl, rfl, rfl⟩
end Mp
end Go.Proofs.YtmgehfakcnmdnaaDoor
