/-
  Lemmas and walks, texts joined: BPl, BPl2, OLine, OPut, OLine2, OSeg, ORTxt, ORMag, OGood, OName, OMgPl, OCand, OMgW, MRDay, MTDAny, OPrint, PRa, OParse, OParse2, OGood2, OAny, OAllPl, OGreat, OBox, ORCheck, OAllW, OR15, ORLine.
-/
import Derived.Laws.IdiomCopy
import Derived.Laws.DeepBits32
import Derived.RegionTactic
import Derived.BigRegion
import Derived.StillTailTactics
import Derived.LoopTactic
import Derived.Deep.RegionHeld3
import Derived.Deep.MidRow
import Derived.BigQuiet
import Derived.Deep.DeepCutAuto
import Derived.Test.YtafeigpmldgifaaDoorKt07
import Derived.Test.YtafeigpmldgifaaDoorKt05
import Derived.Test.YtafeigpmldgifaaDoorKt04
set_option linter.unusedSimpArgs false
set_option linter.unusedVariables false
/-
  A text of digits is read as its number.
-/
namespace Go.Proofs.YtafeigpmldgifaaDoor
namespace Gt
open Go.RowKit Lw Gp

theorem u8_of (n : Nat) (h : n < 10) : (((UInt8.ofNat (48 + n)).toNat : Nat) : Int) = 48 + n := by
  rw [UInt8.toNat_ofNat']
  omega
theorem dd_num (u : Nat) : numL (Lib.decDigits u) = u ∧ allD (Lib.decDigits u) := by
  induction u using Nat.strongRecOn with
  | _ u ih =>
    by_cases h : u < 10
    · rw [Lib.decDigits_one h]
      have e := u8_of u h
      refine ⟨by unfold numL; simp only [List.foldl_cons, List.foldl_nil]; omega, fun c hc => ?_⟩
      rw [List.mem_singleton.1 hc]
      omega
    · rw [Lib.decDigits, dif_neg h]
      obtain ⟨h1, h2⟩ := ih (u / 10) (by omega)
      have e := u8_of (u % 10) (Nat.mod_lt _ (by omega))
      exact ⟨by rw [numL_snoc, h1]; omega, allD_snoc h2 (by omega) (by omega)⟩
theorem itoa_num (r : Nat) : numL (Lib.itoa (r : Int)) = r ∧ allD (Lib.itoa (r : Int)) := by
  unfold Lib.itoa
  rw [if_neg (by omega), Int.toNat_natCast]
  exact dd_num r
theorem rep_num (k : Nat) : numL (Lib.repeatL [48] k) = 0 ∧ allD (Lib.repeatL [48] k) := by
  induction k with
  | zero => exact ⟨rfl, fun c hc => by simp [Lib.repeatL] at hc⟩
  | succ k ih =>
    have e : Lib.repeatL [48] (k + 1) = 48 :: Lib.repeatL [48] k := rfl
    rw [e]
    refine ⟨?_, fun c hc => ?_⟩
    · have := ih.1
      unfold numL at this ⊢
      rw [List.foldl_cons]
      exact this
    · rcases List.mem_cons.1 hc with rfl | g
      · decide
      · exact ih.2 c g
theorem pad_num (r d : Nat) : numV (padL (r : Int) d) = r := by
  have h1 := itoa_num r
  have h2 := rep_num (d - (Lib.itoa (r : Int)).length)
  have hA : allD (padL (r : Int) d) := fun c hc => by
    rcases List.mem_append.1 hc with g | g
    · exact h2.2 c g
    · exact h1.2 c g
  unfold numV
  rw [if_pos hA]
  unfold padL numL
  rw [List.foldl_append]
  have e2 := h2.1
  have e1 := h1.1
  unfold numL at e1 e2
  rw [e2, e1]
theorem nd_le : ∀ (d r : Nat), r < 10 ^ (d + 1) → Lib.nDigits r ≤ d + 1
  | 0, r, h => by rw [Lib.nDigits_small (by simpa using h)]; exact Nat.le_refl _
  | d + 1, r, h => by
    by_cases g : r < 10
    · rw [Lib.nDigits_small g]; omega
    · rw [Lib.nDigits_big g]
      have := nd_le d (r / 10) (by rw [Nat.pow_succ] at h; omega)
      omega
theorem pad_size (r d : Nat) (hd : 1 ≤ d) (h : r < 10 ^ d) : (padL (r : Int) d).length = d := by
  obtain ⟨k, rfl⟩ : ∃ k, d = k + 1 := ⟨d - 1, by omega⟩
  have h1 := nd_le k r h
  have hl : (Lib.itoa (r : Int)).length = Lib.nDigits r := by
    unfold Lib.itoa
    rw [if_neg (by omega), Int.toNat_natCast, Lib.decDigits_length]
  unfold padL
  rw [List.length_append, rep_len, hl]
  omega
theorem len2 {l : List UInt8} (h : l.length = 2) : ∃ a b, l = [a, b] := by
  match l, h with
  | [a, b], _ => exact ⟨a, b, rfl⟩
theorem clock_reads (n d : Nat) (hd : d ≤ 6) (hn : n / 10 ^ d < 360000) :
    validP ⟨(clockL n d).toArray⟩ ∧ two ⟨(clockL n d).toArray⟩ 0 = ((n / 10 ^ d / 3600 : Nat) : Int) ∧
    ∀ u : Nat, angV ⟨(clockL n d).toArray⟩ ((u * 10 ^ d : Nat) : Int) = ((n * u : Nat) : Int) := by
  have hp : 1 ≤ 10 ^ d := Nat.pow_pos (by omega)
  have hr := Nat.mod_lt n hp
  have hdm := Nat.div_add_mod n (10 ^ d)
  have hs : ∃ s, n / 10 ^ d = s := ⟨_, rfl⟩
  obtain ⟨s, es⟩ := hs
  obtain ⟨r, er⟩ : ∃ r, n % 10 ^ d = r := ⟨_, rfl⟩
  rw [es] at hn hdm
  rw [er] at hr hdm
  have lx := pad_size (s / 3600) 2 (by omega) (by omega)
  have ly := pad_size (s / 60 % 60) 2 (by omega) (by omega)
  have lz := pad_size (s % 60) 2 (by omega) (by omega)
  have nx := pad_num (s / 3600) 2
  have ny := pad_num (s / 60 % 60) 2
  have nz := pad_num (s % 60) 2
  have nr := pad_num r d
  have K : clockL n d = glueL ((s / 3600 : Nat) : Int) ((s / 60 % 60 : Nat) : Int) ((s % 60 : Nat) : Int) ++ (if 0 < d then 46 :: padL (r : Int) d else []) := by
    unfold clockL; rw [es, er]
  obtain ⟨x0, x1, ex⟩ := len2 lx
  obtain ⟨y0, y1, ey⟩ := len2 ly
  obtain ⟨z0, z1, ez⟩ := len2 lz
  unfold glueL at K
  rw [ex] at nx K
  rw [ey] at ny K
  rw [ez] at nz K
  have lr : 1 ≤ d → (padL (r : Int) d).length = d := fun h => pad_size r d h hr
  obtain ⟨q, eq⟩ : ∃ q, padL (r : Int) d = q := ⟨_, rfl⟩
  rw [eq] at nr K lr
  generalize hl : clockL n d = l at *
  have hx : 0 ≤ ((s / 3600 : Nat) : Int) := by omega
  by_cases h0 : 0 < d
  · have lq := lr h0
    rw [if_pos h0] at K
    have K' : l = x0 :: x1 :: 32 :: y0 :: y1 :: 32 :: z0 :: z1 :: 46 :: q := by rw [K]; rfl
    have sz : (⟨l.toArray⟩ : ByteArray).size = 9 + d := by rw [size_mk, K']; simp only [List.length_cons, lq]; omega
    have t0 : two ⟨l.toArray⟩ 0 = ((s / 3600 : Nat) : Int) := by rw [two_eq, mk_list, K', ← nx]; rfl
    have t3 : two ⟨l.toArray⟩ 3 = ((s / 60 % 60 : Nat) : Int) := by rw [two_eq, mk_list, K', ← ny]; rfl
    have t6 : two ⟨l.toArray⟩ 6 = ((s % 60 : Nat) : Int) := by rw [two_eq, mk_list, K', ← nz]; rfl
    have er9 : restOf ⟨l.toArray⟩ = ⟨q.toArray⟩ := by
      rw [restOf_9 (by omega)]
      apply ByteArray.ext
      apply Array.toList_inj.1
      rw [Lib.extract_to_end, mk_list, K']
      simp
    have nq : numV (restOf ⟨l.toArray⟩).data.toList = r := by rw [er9, mk_list, nr]
    have sr : (restOf ⟨l.toArray⟩).size = d := by rw [er9, size_mk, lq]
    have sp : shapeP ⟨l.toArray⟩ := by
      refine ⟨by omega, ?_, ?_, by omega, by omega, fun _ => ?_⟩ <;> (rw [K']; simp [ByteArray.get!])
    refine ⟨⟨sp, by rw [t0]; omega, by rw [t3]; omega, by rw [t6]; omega, by rw [nq]; omega⟩, by rw [es]; exact t0, fun u => ?_⟩
    have pd : ((u * 10 ^ d : Nat) : Int) / tenI d = (u : Int) := by
      unfold tenI
      rw [← Int.natCast_ediv, Nat.mul_div_cancel _ hp]
    unfold angV secs
    rw [t0, t3, t6, nq, sr, pd]
    have e1 : ((s / 3600 : Nat) : Int) * 3600 + ((s / 60 % 60 : Nat) : Int) * 60 + ((s % 60 : Nat) : Int) = (s : Int) := by omega
    rw [e1, ← hdm]
    simp only [Int.natCast_mul, Int.natCast_add]
    rw [Int.add_mul, Int.mul_comm (u : Int), ← Int.mul_assoc, Int.mul_comm (s : Int)]
  · have d0 : d = 0 := by omega
    subst d0
    rw [if_neg h0, List.append_nil] at K
    have K' : l = [x0, x1, 32, y0, y1, 32, z0, z1] := by rw [K]; rfl
    have sz : (⟨l.toArray⟩ : ByteArray).size = 8 := by rw [size_mk, K']; rfl
    have t0 : two ⟨l.toArray⟩ 0 = ((s / 3600 : Nat) : Int) := by rw [two_eq, mk_list, K', ← nx]; rfl
    have t3 : two ⟨l.toArray⟩ 3 = ((s / 60 % 60 : Nat) : Int) := by rw [two_eq, mk_list, K', ← ny]; rfl
    have t6 : two ⟨l.toArray⟩ 6 = ((s % 60 : Nat) : Int) := by rw [two_eq, mk_list, K', ← nz]; rfl
    have er9 : restOf ⟨l.toArray⟩ = ByteArray.empty := restOf_8 sz
    have sp : shapeP ⟨l.toArray⟩ := by
      refine ⟨by omega, ?_, ?_, by omega, by omega, fun h => by omega⟩ <;> (rw [K']; simp [ByteArray.get!])
    refine ⟨⟨sp, by rw [t0]; omega, by rw [t3]; omega, by rw [t6]; omega, by rw [er9]; decide⟩, by rw [es]; exact t0, fun u => ?_⟩
    have r0 : r = 0 := by simp at hr; exact hr
    unfold angV secs
    rw [t0, t3, t6, er9, numV_empty]
    have e1 : ((s / 3600 : Nat) : Int) * 3600 + ((s / 60 % 60 : Nat) : Int) * 60 + ((s % 60 : Nat) : Int) = (s : Int) := by omega
    rw [e1, ← hdm, r0]
    simp
end Gt
end Go.Proofs.YtafeigpmldgifaaDoor
/-
  The angle of a text differs from the angle by at most half a unit of the last digit.
-/
namespace Go.Proofs.YtafeigpmldgifaaDoor
namespace Gt
open Go.RowKit Lw Gp

theorem rnd_half (m u : Nat) (hu : 1 ≤ u) : 2 * (((rndN m u : Nat) : Int) * u - m) ≤ u ∧ -(u : Int) ≤ 2 * (((rndN m u : Nat) : Int) * u - m) := by
  have h := rndN_eq m u
  have hd := Int.emod_add_mul_ediv (m : Int) (u : Int)
  have r0 := Int.emod_nonneg (m : Int) (show (u : Int) ≠ 0 by omega)
  have r1 := Int.emod_lt_of_pos (m : Int) (show (0 : Int) < u by omega)
  rw [h]
  unfold rndI
  generalize (m : Int) % (u : Int) = r at *
  generalize (m : Int) / (u : Int) = q at *
  split
  · rename_i g
    have e : (q + 1) * (u : Int) = (u : Int) * q + u := by rw [Int.add_mul, Int.one_mul, Int.mul_comm]
    rw [e]
    rcases g with g | ⟨g, _⟩ <;> omega
  · rename_i g
    have e : (q + 0) * (u : Int) = (u : Int) * q := by rw [Int.add_zero, Int.mul_comm]
    rw [e]
    have : ¬ ((u : Int) < 2 * r) := fun x => g (Or.inl x)
    omega
theorem units : ∀ d : Nat, d ≤ 6 → 15000000 / 10 ^ d * 10 ^ d = 15000000 ∧ 1000000 / 10 ^ d * 10 ^ d = 1000000 ∧ 1 ≤ 15000000 / 10 ^ d ∧ 1 ≤ 1000000 / 10 ^ d ∧ 15000000 / 10 ^ d = 15 * (1000000 / 10 ^ d) ∧ 1000000 / 10 ^ d ≤ 1000000 := by decide
/-- The text of a right ascension is read. -/
theorem ra_back (a : Int) (d : Nat) (hd : d ≤ 6) : ∃ v : Int, RaIs ⟨(raL a d).toArray⟩ v 0 ∧ -9223372036854775808 ≤ v ∧ v ≤ 9223372036854775807 ∧
    2 * Pl.dif v a ≤ 15 * ((1000000 / 10 ^ d : Nat) : Int) ∧ -(15 * ((1000000 / 10 ^ d : Nat) : Int)) ≤ 2 * Pl.dif v a := by
  obtain ⟨hu, _, u1, _, u15, uM⟩ := units d hd
  have hm := Int.emod_nonneg a (show (1296000000000 : Int) ≠ 0 by omega)
  have hm2 := Int.emod_lt_of_pos a (show (0 : Int) < 1296000000000 by omega)
  obtain ⟨m, em⟩ : ∃ m : Nat, (a % 1296000000000).toNat = m := ⟨_, rfl⟩
  have em' : a % 1296000000000 = (m : Int) := by omega
  have hp : 1 ≤ 10 ^ d := Nat.pow_pos (by omega)
  unfold raL
  rw [em]
  rw [u15] at u1 hu
  have hh := rnd_half m (15 * (1000000 / 10 ^ d)) u1
  rw [u15]
  generalize 1000000 / 10 ^ d = e at *
  generalize rndN m (15 * e) = R at *
  generalize hp10 : 10 ^ d = p at *
  have hN := Nat.mod_lt R (show 0 < 86400 * p by omega)
  have hR := Nat.div_add_mod R (86400 * p)
  obtain ⟨k, ek⟩ : ∃ k, R / (86400 * p) = k := ⟨_, rfl⟩
  obtain ⟨N, eN⟩ : ∃ N, R % (86400 * p) = N := ⟨_, rfl⟩
  rw [ek, eN] at hR
  rw [eN] at hN ⊢
  have hNp : N / p < 86400 := Nat.div_lt_of_lt_mul (by rw [Nat.mul_comm]; exact hN)
  have C := clock_reads N d hd (by rw [hp10]; omega)
  rw [hp10] at C
  obtain ⟨c1, c2, c3⟩ := C
  have c4 := c3 (15 * e)
  rw [hu] at c4
  have hT : 86400 * p * (15 * e) = 1296000000000 := by
    have : 86400 * p * (15 * e) = 86400 * (15 * e * p) := by rw [Nat.mul_assoc, Nat.mul_comm p]
    rw [this, hu]
  have eR : R * (15 * e) = 1296000000000 * k + N * (15 * e) := by
    rw [← hR, Nat.add_mul, ← hT]
    rw [Nat.mul_assoc (86400 * p) k, Nat.mul_comm k, ← Nat.mul_assoc]
  have bN : N * (15 * e) ≤ 1296000000000 := by
    rw [← hT]; exact Nat.mul_le_mul_right _ (Nat.le_of_lt hN)
  refine ⟨((N * (15 * e) : Nat) : Int), Or.inl ⟨c1, by rw [c2]; omega, c4.symm, rfl⟩, by omega, by omega, ?_⟩
  have eR' : ((R : Nat) : Int) * ((15 * e : Nat) : Int) = 1296000000000 * (k : Int) + ((N * (15 * e) : Nat) : Int) := by
    have := congrArg (fun x : Nat => (x : Int)) eR
    simpa using this
  rw [eR'] at hh
  generalize ((N * (15 * e) : Nat) : Int) = V at *
  have hdif : Pl.dif V a = 1296000000000 * (k : Int) + V - m := by
    have e1 : (V - a) % 1296000000000 = (1296000000000 * (k : Int) + V - m) % 1296000000000 := by omega
    unfold Pl.dif
    rw [e1]
    generalize 1296000000000 * (k : Int) + V - m = y at *
    have : (15 * e : Nat) ≤ 15000000 := by omega
    split <;> omega
  rw [hdif]
  omega
theorem deg_mod (a : Int) : -324000000000 ≤ a.tmod 324000000001 ∧ a.tmod 324000000001 ≤ 324000000000 := by
  have h := Pl.tmod_bd a 324000000001 (by omega)
  omega
/-- The text of a declination is read. -/
theorem dec_back (c : Int) (d : Nat) (hd : d ≤ 6) (h0 : -324000000000 ≤ c) (h1 : c ≤ 324000000000) : ∃ v : Int, DecIs ⟨(decL c d).toArray⟩ v 0 ∧ -324000000000 ≤ v ∧ v ≤ 324000000000 ∧
    2 * (v - c) ≤ ((1000000 / 10 ^ d : Nat) : Int) ∧ -((1000000 / 10 ^ d : Nat) : Int) ≤ 2 * (v - c) := by
  obtain ⟨_, hu, _, u1, _, uM⟩ := units d hd
  have hp : 1 ≤ 10 ^ d := Nat.pow_pos (by omega)
  obtain ⟨m, em⟩ : ∃ m : Nat, c.natAbs = m := ⟨_, rfl⟩
  have hh := rnd_half m (1000000 / 10 ^ d) u1
  unfold decL
  rw [em]
  generalize 1000000 / 10 ^ d = e at *
  generalize rndN m e = R at *
  have bR : R * e ≤ 324000000000 := by
    have ek : 324000000000 = 324000 * 10 ^ d * e := by
      rw [Nat.mul_assoc, Nat.mul_comm (10 ^ d), hu]
    by_cases g : R ≤ 324000 * 10 ^ d
    · rw [ek]; exact Nat.mul_le_mul_right _ g
    · exfalso
      have : (324000 * 10 ^ d + 1) * e ≤ R * e := Nat.mul_le_mul_right _ (by omega)
      rw [Nat.add_mul, ← ek] at this
      have e2 : ((R * e : Nat) : Int) = (R : Int) * (e : Int) := by simp
      rw [← e2] at hh
      omega
  have bR2 : R ≤ 324000 * 10 ^ d := by
    have ek : 324000000000 = 324000 * 10 ^ d * e := by
      rw [Nat.mul_assoc, Nat.mul_comm (10 ^ d), hu]
    rw [ek] at bR
    exact Nat.le_of_mul_le_mul_right bR (by omega)
  have hRp : R / 10 ^ d ≤ 324000 := Nat.div_le_of_le_mul (by rw [Nat.mul_comm]; exact bR2)
  obtain ⟨c1, c2, c3⟩ := clock_reads R d hd (by omega)
  have c4 := c3 e
  rw [hu] at c4
  have t : ∀ s : UInt8, tailOf ⟨(s :: clockL R d).toArray⟩ = ⟨(clockL R d).toArray⟩ := fun s => tail_mk s _
  have ok : ∀ s : UInt8, (((s.toNat : Nat) : Int) = 43 ∨ ((s.toNat : Nat) : Int) = 45) → decOk ⟨(s :: clockL R d).toArray⟩ := fun s hs =>
    ⟨⟨by rw [size_mk]; simp, by rw [get0]; exact hs⟩, by rw [t]; exact c1, by rw [t, c2]; omega, by rw [t]; rw [show ((1000000 : Int)) = ((1000000 : Nat) : Int) from rfl, c4]; omega⟩
  have e2 : ((R * e : Nat) : Int) = (R : Int) * (e : Int) := by simp
  rw [← e2] at hh
  have av : angV ⟨(clockL R d).toArray⟩ 1000000 = ((R * e : Nat) : Int) := c4
  by_cases hn : c < 0
  · rw [if_pos hn]
    refine ⟨-((R * e : Nat) : Int), Or.inl ⟨ok 45 (Or.inr rfl), ?_, rfl⟩, by omega, by omega, by omega, by omega⟩
    rw [t, av, get0, if_pos (show (((45 : UInt8).toNat : Nat) : Int) = 45 from rfl)]
  · rw [if_neg hn]
    refine ⟨((R * e : Nat) : Int), Or.inl ⟨ok 43 (Or.inl rfl), ?_, rfl⟩, by omega, by omega, by omega, by omega⟩
    rw [t, av, get0, if_neg (by decide)]
end Gt
end Go.Proofs.YtafeigpmldgifaaDoor
/-
  Plain law of observations: the line of an observation is read as the rounded observation; no walk here.
-/
namespace Go.Proofs.YtafeigpmldgifaaDoor
namespace Op
open Go.RowKit Lw Go.Proofs.YtafeigpmldgifaaDoor.Ap Go.Proofs.YtafeigpmldgifaaDoor.Mp Go.Proofs.YtafeigpmldgifaaDoor.At

/-- A line: the day's text is handed over. -/
def lineL (day : ByteArray) (o : Ob) : List UInt8 := nameF o.name ++ (67 :: (day.data.toList ++ (Gt.raL o.ra 3 ++ (Gt.decL o.dec 2 ++ (spL 9 ++ (magF o.mag o.band ++ (spL 6 ++ o.site.data.toList)))))))
/-- What Print returns. -/
def PrintIs (o : Ob) (s : ByteArray) (c : Int) : Prop := (okO o ∧ (∃ day, DayIs o.t 6 day 0 ∧ s = ⟨(lineL day o).toArray⟩) ∧ c = 0) ∨ (¬ okO o ∧ s = ByteArray.empty ∧ c = 8)
theorem PrintIs.uniq {o : Ob} {s s' : ByteArray} {c c' : Int} (a : PrintIs o s c) (b : PrintIs o s' c') : s = s' ∧ c = c' := by
  rcases a with ⟨a1, ⟨d, a2, a3⟩, a4⟩ | ⟨a1, a2, a3⟩ <;> rcases b with ⟨b1, ⟨d', b2, b3⟩, b4⟩ | ⟨b1, b2, b3⟩
  · obtain ⟨rfl, _⟩ := a2.uniq b2
    exact ⟨by rw [a3, b3], by omega⟩
  · exact absurd a1 b1
  · exact absurd b1 a1
  · exact ⟨by rw [a2, b2], by omega⟩
theorem ext_seg {s : ByteArray} {A B C : List UInt8} {i j : Nat} (h : s.data.toList = A ++ (B ++ C)) (hi : A.length = i) (hj : i + B.length = j) : s.extract i j = ⟨B.toArray⟩ := by
  have sz : s.size = A.length + (B.length + C.length) := by have := congrArg List.length h; simpa using this
  apply toL_inj
  rw [ext_L s i j (by omega), h, ← hi, List.drop_left, show j - A.length = B.length by omega, List.take_left]
theorem bt_seg {s : ByteArray} {A C : List UInt8} {c : UInt8} {i : Nat} (h : s.data.toList = A ++ (c :: C)) (hi : A.length = i) : bt s i = (c.toNat : Int) := by
  have sz : s.size = A.length + (1 + C.length) := by have := congrArg List.length h; simp at this; omega
  rw [bt_L s i (by omega), h, ← hi, List.getD_eq_getElem?_getD, List.getElem?_append_right (Nat.le_refl _), Nat.sub_self]
  rfl
theorem cut_id {l : List UInt8} {c : UInt8} (h : c ≠ 32) : cutL (l ++ [c]) = l ++ [c] := by
  unfold cutL
  rw [List.reverse_append, List.reverse_singleton, List.singleton_append, List.dropWhile_cons_of_neg (by simpa using h), List.reverse_cons, List.reverse_reverse]
theorem spL_len (n : Nat) : (spL n).length = n := List.length_replicate
theorem spL_blank (n : Nat) : blankP ⟨(spL n).toArray⟩ := fun c hc => (List.mem_replicate.1 hc).2
theorem nameF_len {s : ByteArray} (h : nameP s) : (nameF s).length = 14 := by
  unfold nameF
  by_cases c : numbP s
  · rw [if_pos c]
    have := c.1
    simp [spL]; omega
  · rw [if_neg c]
    rcases h with h | ⟨h1, h2, _⟩
    · exact absurd h c
    · simp [spL]; omega
theorem dec_of_pad {r d : Nat} (hd : 1 ≤ d) (h : r < 10 ^ d) : Gt.padL (r : Int) d = decL r d := pad_dec r d hd h
/-- A clock of two digits each. -/
theorem clock_dec {n d : Nat} (hd : 1 ≤ d) (h : n / 10 ^ d < 360000) : Gt.clockL n d = decL (n / 10 ^ d / 3600) 2 ++ ([32] ++ (decL (n / 10 ^ d / 60 % 60) 2 ++ ([32] ++ (decL (n / 10 ^ d % 60) 2 ++ (46 :: decL (n % 10 ^ d) d))))) := by
  unfold Gt.clockL Gt.glueL
  rw [if_pos (by omega), dec_of_pad (by omega) (by omega), dec_of_pad (by omega) (by omega), dec_of_pad (by omega) (by omega), dec_of_pad hd (Nat.mod_lt _ (Nat.pow_pos (by omega)))]
  simp only [List.append_assoc]
end Op
end Go.Proofs.YtafeigpmldgifaaDoor
/-
  The walk of the closure of Print of package obs: bytes are put into the line.
-/
namespace Go.Proofs.YtafeigpmldgifaaDoor
namespace Ow
open Go.RowKit Lw Go.Proofs.YtafeigpmldgifaaDoor.Ap Go.Proofs.YtafeigpmldgifaaDoor.Op Go.Proofs.YtafeigpmldgifaaDoor.Mp Go.Proofs.YtafeigpmldgifaaDoor.Mw Go.Proofs.YtafeigpmldgifaaDoor.At

def bytesV (l : List UInt8) : List Value := l.map (fun b => .int .u8 (b.toNat : Int))
theorem bytesV_len (l : List UInt8) : (bytesV l).length = l.length := List.length_map _
theorem bytesV_one (l : List UInt8) : ∀ v ∈ bytesV l, v.oneCell' = true := by
  intro v hv
  simp only [bytesV, List.mem_map] at hv
  obtain ⟨b, _, rfl⟩ := hv
  rfl
theorem size_L (s : ByteArray) : s.size = s.data.toList.length := (Array.length_toList (xs := s.data)).symm
theorem below_sets {B : Nat} {a : World} (b : Nat) (hb : B ≤ b) : ∀ (vs : List Value) (o : Nat) {w : World}, Below B a w → Below B a (w.setCells b o vs)
  | [], _, _, h => h
  | v :: r, o, _, h => below_sets b hb r (o + 1) (h.setCell (p := ⟨b, o, none⟩) hb v)
theorem sets_size (b : Nat) : ∀ (vs : List Value) (o : Nat) (w : World), (w.setCells b o vs).heap.size = w.heap.size
  | [], _, _ => rfl
  | v :: r, o, w => by rw [World.setCells, sets_size b r (o + 1)]; simp
/-- 'copy(dst, s)', s a string that fits, by cells. -/
theorem run_copy_str {P : Program} (w : World) (dT sT ty elem : TypeId) (g o dLen dCap : Nat) (s : ByteArray)
    (hu : P.underlying dT = some (.slice elem)) (hs : (P.info? elem).map (·.size) = some 1) (hle : s.size ≤ dLen) (ht : ∀ j, j < s.size → (w.cell? ⟨g, o + j, none⟩).isSome = true) (hf : ∀ j, j < s.size → w.frozen? ⟨g, o + j, none⟩ = false) :
    (Builtin.copy_ #[dT, sT] ty #[.slice (some ⟨g, o, none⟩) dLen dCap, .string s]).run P w = .ok (goInt s.size) (w.setCells g o (bytesV s.data.toList)) := by
  have hlen : (bytesV s.data.toList).length = s.size := by rw [bytesV_len, ← size_L]
  have hst := run_storeCells_cells (P := P) g o (bytesV s.data.toList) 0 w (fun j hj => ht j (by omega)) (fun j hj => hf j (by omega)) (bytesV_one _)
  have hmin : Nat.min s.size dLen = s.size := Nat.min_eq_left hle
  have htk : List.take s.size (List.map (fun b : UInt8 => Value.int IntKind.u8 (b.toNat : Int)) s.data.toList) = bytesV s.data.toList := by
    rw [List.take_of_length_le (by rw [List.length_map, ← size_L]; exact Nat.le_refl _)]
    rfl
  simp only [Nat.add_zero] at hst
  cases hq : P.info? elem with
  | none => simp [hq] at hs
  | some i =>
    simp [Builtin.copy_, run_underlying hu, Builtin.lenOf, Builtin.firstCells, sizeOf, typeInfo, hq, hmin]
    rw [htk, hst]
    simp [Result.andThen]
/-- An observation in its box; a line of eighty bytes; the variable that holds the line. -/
structure PX (w0 : World) (b : Nat) (o : Ob) (g p c : Nat) (L : List UInt8) (w : World) : Prop where
  ox : OX w0 b o w
  hb : b < g
  hg : w0.heap.size ≤ g
  hp : g < p
  lt : p < w.heap.size
  var : w.rangeAt p 0 [.slice (some ⟨g, 0, none⟩) 80 c]
  len : L.length = 80
  row : w.rangeAt g 0 (bytesV L)
  free : w.there g 0 80
theorem PX.call {w0 w w' : World} {b g p c : Nat} {o : Ob} {L : List UInt8} (h : PX w0 b o g p c L w) (hb : Below w.heap.size w w') : PX w0 b o g p c L w' :=
  ⟨h.ox.call hb, h.hb, h.hg, h.hp, Nat.lt_of_lt_of_le h.lt hb.size, rangeAt_below h.var hb h.lt, h.len, rangeAt_below h.row hb (Nat.lt_trans h.hp h.lt), there_below h.free hb (Nat.lt_trans h.hp h.lt)⟩
/-- Bytes put into a line. -/
def wput (L : List UInt8) (k : Nat) (s : List UInt8) : List UInt8 := L.take k ++ (s ++ L.drop (k + s.length))
theorem wput_len {L : List UInt8} {k : Nat} {s : List UInt8} (h : k + s.length ≤ L.length) : (wput L k s).length = L.length := by
  unfold wput; simp; omega
theorem wput_in {L : List UInt8} {k : Nat} {s : List UInt8} (h : k + s.length ≤ L.length) (j : Nat) (hj : j < s.length) : (wput L k s)[k + j]? = s[j]? := by
  unfold wput
  rw [List.getElem?_append_right (by simp; omega), List.length_take, Nat.min_eq_left (by omega), Nat.add_sub_cancel_left, List.getElem?_append_left hj]
theorem wput_lo {L : List UInt8} {k : Nat} {s : List UInt8} (h : k + s.length ≤ L.length) (j : Nat) (hj : j < k) : (wput L k s)[j]? = L[j]? := by
  unfold wput
  rw [List.getElem?_append_left (by simp; omega), List.getElem?_take_of_lt hj]
theorem wput_hi {L : List UInt8} {k : Nat} {s : List UInt8} (h : k + s.length ≤ L.length) (j : Nat) (hj : k + s.length ≤ j) : (wput L k s)[j]? = L[j]? := by
  unfold wput
  rw [List.getElem?_append_right (by simp; omega), List.length_take, Nat.min_eq_left (by omega), List.getElem?_append_right (by omega), List.getElem?_drop]
  congr 1; omega
theorem PX.put {w0 w : World} {b g p c : Nat} {o : Ob} {L : List UInt8} (h : PX w0 b o g p c L w) (k : Nat) (s : List UInt8) (hs : k + s.length ≤ 80) : PX w0 b o g p c (wput L k s) (w.setCells g k (bytesV s)) := by
  have hl := h.len
  have bl : (bytesV s).length = s.length := bytesV_len s
  have bL : (bytesV L).length = L.length := bytesV_len L
  have hout := World.cell?_setCells_out g (bytesV s) k w
  have hin := World.cell?_setCells_in g (bytesV s) k w (fun j hj => (by have := (h.free (k + j) (by omega)).1; rwa [Nat.zero_add] at this))
  refine ⟨⟨below_sets g h.hg _ _ h.ox.below, ?_, ?_⟩, h.hb, h.hg, h.hp, ?_, ?_, ?_, ?_, ?_⟩
  · rw [sets_size]; exact h.ox.lt
  · intro i x hi
    rw [hout _ (fun e => absurd e (Nat.ne_of_lt h.hb))]
    exact h.ox.row i x hi
  · rw [sets_size]; exact h.lt
  · intro i x hi
    rw [hout _ (fun e => absurd e (Nat.ne_of_gt h.hp))]
    exact h.var i x hi
  · rw [wput_len (by omega), hl]
  · intro i x hi
    rw [Nat.zero_add]
    unfold bytesV at hi
    rw [List.getElem?_map] at hi
    obtain ⟨y, hy, rfl⟩ := Option.map_eq_some_iff.1 hi
    by_cases h1 : i < k
    · rw [wput_lo (by omega) i h1] at hy
      rw [hout _ (fun _ _ => Or.inl h1)]
      have := h.row i (.int .u8 (y.toNat : Int)) (by unfold bytesV; rw [List.getElem?_map, hy]; rfl)
      rwa [Nat.zero_add] at this
    · by_cases h2 : k + s.length ≤ i
      · rw [wput_hi (by omega) i h2] at hy
        rw [hout _ (fun _ _ => Or.inr (by show k + (bytesV s).length ≤ i; omega))]
        have := h.row i (.int .u8 (y.toNat : Int)) (by unfold bytesV; rw [List.getElem?_map, hy]; rfl)
        rwa [Nat.zero_add] at this
      · obtain ⟨j, rfl⟩ : ∃ j, i = k + j := ⟨i - k, by omega⟩
        rw [wput_in (by omega) j (by omega)] at hy
        rw [hin j (by omega)]
        unfold bytesV
        rw [List.getElem_map]
        rw [(List.getElem?_eq_some_iff.1 hy).2]
  · intro j hj
    refine ⟨?_, by rw [World.frozen?_setCells]; exact (h.free j hj).2⟩
    by_cases h1 : k ≤ j ∧ j < k + s.length
    · obtain ⟨i, rfl⟩ : ∃ i, j = k + i := ⟨j - k, by omega⟩
      rw [Nat.zero_add, hin i (by omega)]
      rfl
    · rw [hout _ (fun _ _ => by show 0 + j < _ ∨ _ ≤ 0 + j; omega)]
      exact (h.free j hj).1

end Ow
end Go.Proofs.YtafeigpmldgifaaDoor
/-
  Plain law of observations: bytes put into eighty spaces make the line; lengths of the parts; no walk here.
-/
namespace Go.Proofs.YtafeigpmldgifaaDoor
namespace Op
open Go.RowKit Lw Go.Proofs.YtafeigpmldgifaaDoor.Ap Go.Proofs.YtafeigpmldgifaaDoor.Mp Go.Proofs.YtafeigpmldgifaaDoor.At Go.Proofs.YtafeigpmldgifaaDoor.Ow

theorem wput_seg {A B C s : List UInt8} {k : Nat} (hA : A.length = k) (hB : B.length = s.length) : wput (A ++ (B ++ C)) k s = A ++ (s ++ C) := by
  unfold wput
  rw [← hA, List.take_left, ← hB, ← List.drop_drop, List.drop_left, List.drop_left]
theorem spL_add (a b : Nat) : spL (a + b) = spL a ++ spL b := by unfold spL; exact (List.replicate_append_replicate).symm
/-- The part of a line from its mark on. -/
def midL (day : ByteArray) (o : Ob) : List UInt8 := 67 :: (day.data.toList ++ (Gt.raL o.ra 3 ++ Gt.decL o.dec 2))
theorem put_name {s : ByteArray} (h : nameP s) : wput (spL 80) (if numbP s then 0 else 5) s.data.toList = nameF s ++ spL 66 := by
  unfold nameF
  by_cases c : numbP s
  · rw [if_pos c, if_pos c]
    have z : s.data.toList.length = 5 := by rw [← size_L]; exact c.1
    have := wput_seg (A := []) (B := spL 5) (C := spL 75) (s := s.data.toList) (k := 0) rfl (by rw [spL_len, z])
    rw [List.nil_append, List.nil_append, ← spL_add] at this
    rw [this, List.append_assoc, ← spL_add]
  · rw [if_neg c, if_neg c]
    rcases h with h | ⟨h1, h2, _⟩
    · exact absurd h c
    · have z : s.data.toList.length = s.size := (size_L s).symm
      have := wput_seg (A := spL 5) (B := spL s.size) (C := spL (75 - s.size)) (s := s.data.toList) (k := 5) (spL_len 5) (by rw [spL_len, z])
      rw [← spL_add, ← spL_add, show 5 + (s.size + (75 - s.size)) = 80 by omega] at this
      rw [this, show 75 - s.size = (9 - s.size) + 66 by omega, spL_add]
      simp only [List.append_assoc]
theorem clock_len12 {n d : Nat} (hd : 1 ≤ d) (h : n / 10 ^ d < 360000) : (Gt.clockL n d).length = 9 + d := by
  rw [clock_dec hd h]
  simp [decL_len]; omega
theorem ra_len (a : Int) : (Gt.raL a 3).length = 12 := by
  unfold Gt.raL
  refine clock_len12 (by omega) ?_
  have := Nat.mod_lt (Gt.rndN (a % 1296000000000).toNat (15000000 / 10 ^ 3)) (show 0 < 86400 * 10 ^ 3 by decide)
  omega
theorem rnd_le2 (a u : Nat) : Gt.rndN a u ≤ a / u + 1 := by
  have h := Gt.rndN_eq a u
  have e : ((a / u : Nat) : Int) = (a : Int) / u := by omega
  unfold Gp.rndI at h
  split at h <;> omega
theorem dec_len {a : Int} (h0 : -324000000000 ≤ a) (h1 : a ≤ 324000000000) : (Gt.decL a 2).length = 12 := by
  unfold Gt.decL
  rw [List.length_cons, clock_len12 (by omega)]
  have := rnd_le2 a.natAbs (1000000 / 10 ^ 2)
  have e : 1000000 / 10 ^ 2 = 10000 := by decide
  rw [e] at this ⊢
  omega
theorem day_len17 {t : Int} {s : ByteArray} (h : DayIs t 6 s 0) : s.data.toList.length = 17 := by
  rw [← size_L]
  rcases h with ⟨_, _, h⟩ | ⟨_, _, _, _, h⟩ | ⟨_, _, _, _, n, y, m, z, k, _, rfl, _⟩
  · cases h
  · cases h
  · unfold daytS dbS
    rw [if_pos (by decide)]
    simp only [ByteArray.size_append, dS_size]
    rfl
theorem magB_len {m : Int} (h0 : -999 ≤ m) (h1 : m ≤ 9999) : (magB m).length ≤ 5 ∧ 4 ≤ (magB m).length := by
  unfold magB
  have h2 : (decL m.natAbs 2).length = 2 := decL_len _ _
  have l : (m.natAbs / 100 < 10 → (Lib.itoa ((m.natAbs / 100 : Nat) : Int)).length = 1) ∧ (Lib.itoa ((m.natAbs / 100 : Nat) : Int)).length ≤ 2 ∧ 1 ≤ (Lib.itoa ((m.natAbs / 100 : Nat) : Int)).length := by
    by_cases c : m.natAbs / 100 < 10
    · rw [itoa_dg _ c]; simp
    · refine ⟨fun h => absurd h c, ?_⟩
      unfold Lib.itoa
      rw [if_neg (by omega), Int.toNat_natCast, Lib.decDigits_two c (by omega)]; simp
  rw [List.length_append, List.length_append, List.length_append, h2, List.length_singleton]
  by_cases c : m < 0
  · rw [if_pos c, List.length_singleton, l.1 (by omega)]; omega
  · rw [if_neg c, List.length_nil]; omega
theorem magL_len {m : Int} (h0 : -999 ≤ m) (h1 : m ≤ 9999) : (magL m).length = 5 := by
  have := magB_len h0 h1
  unfold magL
  rw [List.length_append, spL_len]; omega
theorem mid_len {day : ByteArray} {o : Ob} (ok : okO o) (hd : DayIs o.t 6 day 0) : (midL day o).length = 42 := by
  obtain ⟨_, hn, hs, _, _, _, d0, d1, _, _, hm⟩ := ok
  unfold midL
  rw [List.length_cons, List.length_append, List.length_append, day_len17 hd, ra_len, dec_len d0 d1]
theorem put_line {day : ByteArray} {o : Ob} (ok : okO o) (hd : DayIs o.t 6 day 0) :
    wput (if o.mag = 9999 then wput (wput (spL 80) (if numbP o.name then 0 else 5) o.name.data.toList) 14 (midL day o) else wput (wput (wput (spL 80) (if numbP o.name then 0 else 5) o.name.data.toList) 14 (midL day o)) 65 (magL o.mag ++ [UInt8.ofNat o.band.toNat])) 77 o.site.data.toList = lineL day o := by
  obtain ⟨_, hn, hs, _, _, _, d0, d1, _, _, hm⟩ := ok
  have lm : (midL day o).length = 42 := by
    unfold midL
    rw [List.length_cons, List.length_append, List.length_append, day_len17 hd, ra_len, dec_len d0 d1]
  have ln := nameF_len hn
  have ls : o.site.data.toList.length = 3 := by rw [← size_L]; exact hs
  have el : lineL day o = nameF o.name ++ (midL day o ++ (spL 9 ++ (magF o.mag o.band ++ (spL 6 ++ o.site.data.toList)))) := by
    unfold lineL midL
    simp only [List.cons_append, List.append_assoc]
  rw [put_name hn, el]
  generalize nameF o.name = N at *
  generalize midL day o = M at *
  have e1 : wput (N ++ spL 66) 14 M = N ++ (M ++ spL 24) := by
    have := wput_seg (A := N) (B := spL 42) (C := spL 24) (s := M) (k := 14) ln (by rw [spL_len, lm])
    rwa [← spL_add] at this
  rw [e1]
  by_cases c : o.mag = 9999
  · rw [if_pos c]
    unfold magF
    rw [if_pos c]
    have := wput_seg (A := N ++ (M ++ spL 21)) (B := spL 3) (C := []) (s := o.site.data.toList) (k := 77) (by simp only [List.length_append, spL_len, ln, lm]) (by rw [spL_len, ls])
    rw [List.append_nil, List.append_nil, List.append_assoc, List.append_assoc, ← spL_add] at this
    rw [this, show (21 : Nat) = 9 + (6 + 6) by rfl, spL_add 9, spL_add 6]
    simp only [List.append_assoc]
  · rw [if_neg c]
    unfold magF
    rw [if_neg c]
    have lg : (magL o.mag).length = 5 := by
      rcases hm with ⟨h, _⟩ | ⟨h1, h2, _⟩
      · exact absurd h c
      · exact magL_len (by omega) (by omega)
    have e2 : wput (N ++ (M ++ spL 24)) 65 (magL o.mag ++ [UInt8.ofNat o.band.toNat]) = N ++ (M ++ (spL 9 ++ ((magL o.mag ++ [UInt8.ofNat o.band.toNat]) ++ spL 9))) := by
      have := wput_seg (A := N ++ (M ++ spL 9)) (B := spL 6) (C := spL 9) (s := magL o.mag ++ [UInt8.ofNat o.band.toNat]) (k := 65) (by simp only [List.length_append, spL_len, ln, lm]) (by rw [spL_len, List.length_append, lg]; rfl)
      rw [← spL_add, List.append_assoc, List.append_assoc, ← spL_add] at this
      rw [this]
      simp only [List.append_assoc]
    rw [e2]
    have := wput_seg (A := N ++ (M ++ (spL 9 ++ ((magL o.mag ++ [UInt8.ofNat o.band.toNat]) ++ spL 6)))) (B := spL 3) (C := []) (s := o.site.data.toList) (k := 77) (by simp only [List.length_append, spL_len, ln, lm, lg, List.length_singleton]) (by rw [spL_len, ls])
    rw [List.append_nil, List.append_nil] at this
    rw [show (9 : Nat) = 6 + 3 by rfl, spL_add 6 3] at this ⊢
    simp only [List.append_assoc] at this ⊢
    exact this
end Op
end Go.Proofs.YtafeigpmldgifaaDoor
/-
  Plain law of observations: the columns of a line that is made of its parts; no walk here.
-/
namespace Go.Proofs.YtafeigpmldgifaaDoor
namespace Op
open Go.RowKit Lw Go.Proofs.YtafeigpmldgifaaDoor.Ap Go.Proofs.YtafeigpmldgifaaDoor.Mp Go.Proofs.YtafeigpmldgifaaDoor.At Go.Proofs.YtafeigpmldgifaaDoor.Ow Go.Proofs.YtafeigpmldgifaaDoor.Mw

/-- A line made of its parts. -/
def rowL (n1 n2 n3 D R E M S : List UInt8) : List UInt8 := n1 ++ (n2 ++ (n3 ++ (67 :: (D ++ (R ++ (E ++ (spL 9 ++ (M ++ (spL 6 ++ S)))))))))
structure Seg (s : ByteArray) (n1 n2 n3 D R E M S : List UInt8) : Prop where
  eq : s.data.toList = rowL n1 n2 n3 D R E M S
  l1 : n1.length = 5
  l2 : n2.length = 7
  l3 : n3 = [32, 32]
  d : D.length = 17
  r : R.length = 12
  e : E.length = 12
  m : M.length = 6
  s : S.length = 3
section
variable {s : ByteArray} {n1 n2 n3 D R E M S : List UInt8}
theorem Seg.size (h : Seg s n1 n2 n3 D R E M S) : s.size = 80 := by
  have := congrArg List.length h.eq
  have e : s.data.toList.length = s.size := Array.length_toList (xs := s.data)
  unfold rowL at this
  simp only [List.length_append, List.length_cons, spL_len, h.l1, h.l2, h.l3, h.d, h.r, h.e, h.m, h.s, List.length_nil] at this
  omega
theorem Seg.x0 (h : Seg s n1 n2 n3 D R E M S) : s.extract 0 5 = ⟨n1.toArray⟩ := by
  refine ext_seg (A := []) (C := n2 ++ (n3 ++ (67 :: (D ++ (R ++ (E ++ (spL 9 ++ (M ++ (spL 6 ++ S))))))))) ?_ rfl (by rw [h.l1])
  rw [h.eq]; rfl
theorem Seg.x5 (h : Seg s n1 n2 n3 D R E M S) : s.extract 5 12 = ⟨n2.toArray⟩ := by
  refine ext_seg (A := n1) (C := (n3 ++ (67 :: (D ++ (R ++ (E ++ (spL 9 ++ (M ++ (spL 6 ++ S))))))))) ?_ h.l1 (by rw [h.l2])
  rw [h.eq]; rfl
theorem Seg.b12 (h : Seg s n1 n2 n3 D R E M S) : bt s 12 = 32 := by
  refine bt_seg (A := n1 ++ n2) (c := 32) (C := 32 :: (67 :: (D ++ (R ++ (E ++ (spL 9 ++ (M ++ (spL 6 ++ S)))))))) ?_ (by rw [List.length_append, h.l1, h.l2])
  rw [h.eq, rowL, h.l3, List.append_assoc]; rfl
theorem Seg.b13 (h : Seg s n1 n2 n3 D R E M S) : bt s 13 = 32 := by
  refine bt_seg (A := n1 ++ (n2 ++ [32])) (c := 32) (C := (67 :: (D ++ (R ++ (E ++ (spL 9 ++ (M ++ (spL 6 ++ S)))))))) ?_ (by rw [List.length_append, List.length_append, h.l1, h.l2]; rfl)
  rw [h.eq, rowL, h.l3]; simp only [List.append_assoc]; rfl
theorem Seg.b14 (h : Seg s n1 n2 n3 D R E M S) : bt s 14 = 67 := by
  refine bt_seg (A := n1 ++ (n2 ++ n3)) (c := 67) (C := ((D ++ (R ++ (E ++ (spL 9 ++ (M ++ (spL 6 ++ S)))))))) ?_ (by rw [List.length_append, List.length_append, h.l1, h.l2, h.l3]; rfl)
  rw [h.eq, rowL]; simp only [List.append_assoc]
theorem Seg.x15 (h : Seg s n1 n2 n3 D R E M S) : s.extract 15 32 = ⟨D.toArray⟩ := by
  refine ext_seg (A := n1 ++ (n2 ++ (n3 ++ [67]))) (C := (R ++ (E ++ (spL 9 ++ (M ++ (spL 6 ++ S)))))) ?_ (by simp [h.l1, h.l2, h.l3]) (by rw [h.d])
  rw [h.eq, rowL]; simp
theorem Seg.x32 (h : Seg s n1 n2 n3 D R E M S) : s.extract 32 44 = ⟨R.toArray⟩ := by
  refine ext_seg (A := n1 ++ (n2 ++ (n3 ++ (67 :: D)))) (C := ((E ++ (spL 9 ++ (M ++ (spL 6 ++ S)))))) ?_ (by simp [h.l1, h.l2, h.l3, h.d]) (by rw [h.r])
  rw [h.eq, rowL]; simp
theorem Seg.x44 (h : Seg s n1 n2 n3 D R E M S) : s.extract 44 56 = ⟨E.toArray⟩ := by
  refine ext_seg (A := n1 ++ (n2 ++ (n3 ++ (67 :: (D ++ R))))) (C := (((spL 9 ++ (M ++ (spL 6 ++ S)))))) ?_ (by simp [h.l1, h.l2, h.l3, h.d, h.r]) (by rw [h.e])
  rw [h.eq, rowL]; simp
theorem Seg.x56 (h : Seg s n1 n2 n3 D R E M S) : s.extract 56 65 = ⟨(spL 9).toArray⟩ := by
  refine ext_seg (A := n1 ++ (n2 ++ (n3 ++ (67 :: (D ++ (R ++ E)))))) (C := ((((M ++ (spL 6 ++ S)))))) ?_ (by simp [h.l1, h.l2, h.l3, h.d, h.r, h.e]) (by rw [spL_len])
  rw [h.eq, rowL]; simp
theorem Seg.x65 (h : Seg s n1 n2 n3 D R E M S) : s.extract 65 71 = ⟨M.toArray⟩ := by
  refine ext_seg (A := n1 ++ (n2 ++ (n3 ++ (67 :: (D ++ (R ++ (E ++ spL 9))))))) (C := ((((spL 6 ++ S))))) ?_ (by simp [h.l1, h.l2, h.l3, h.d, h.r, h.e, spL_len]) (by rw [h.m])
  rw [h.eq, rowL]; simp
theorem Seg.x71 (h : Seg s n1 n2 n3 D R E M S) : s.extract 71 77 = ⟨(spL 6).toArray⟩ := by
  refine ext_seg (A := n1 ++ (n2 ++ (n3 ++ (67 :: (D ++ (R ++ (E ++ (spL 9 ++ M)))))))) (C := S) ?_ (by simp [h.l1, h.l2, h.l3, h.d, h.r, h.e, h.m, spL_len]) (by rw [spL_len])
  rw [h.eq, rowL]; simp
theorem Seg.x77 (h : Seg s n1 n2 n3 D R E M S) : s.extract 77 80 = ⟨S.toArray⟩ := by
  refine ext_seg (A := n1 ++ (n2 ++ (n3 ++ (67 :: (D ++ (R ++ (E ++ (spL 9 ++ (M ++ spL 6))))))))) (C := []) ?_ (by simp [h.l1, h.l2, h.l3, h.d, h.r, h.e, h.m, spL_len]) (by rw [h.s])
  rw [h.eq, rowL]; simp
theorem Seg.x6570 (h : Seg s n1 n2 n3 D R E M S) : s.extract 65 70 = ⟨(M.take 5).toArray⟩ := by
  have hl := h.m
  refine ext_seg (A := n1 ++ (n2 ++ (n3 ++ (67 :: (D ++ (R ++ (E ++ spL 9))))))) (C := (M.drop 5 ++ (((spL 6 ++ S))))) ?_ (by simp [h.l1, h.l2, h.l3, h.d, h.r, h.e, spL_len]) (by rw [List.length_take, hl]; rfl)
  have e : M ++ (spL 6 ++ S) = M.take 5 ++ (M.drop 5 ++ (spL 6 ++ S)) := by rw [← List.append_assoc (M.take 5), List.take_append_drop]
  rw [h.eq, rowL, e]
  simp only [List.append_assoc, List.cons_append]
theorem Seg.b70 (h : Seg s n1 n2 n3 D R E M S) {A : List UInt8} {c : UInt8} (hM : M = A ++ [c]) : bt s 70 = (c.toNat : Int) := by
  have hl := h.m
  rw [hM] at hl
  have hA : A.length = 5 := by simpa using hl
  refine bt_seg (A := n1 ++ (n2 ++ (n3 ++ (67 :: (D ++ (R ++ (E ++ (spL 9 ++ A)))))))) (C := (((spL 6 ++ S)))) ?_ (by simp [h.l1, h.l2, h.l3, h.d, h.r, h.e, hA, spL_len])
  rw [h.eq, rowL, hM]; simp
end
/-! ### Points and ends -/
theorem ptL_app {r : List UInt8} : ∀ {l : List UInt8}, (∀ c ∈ l, c ≠ 46) → ptL (l ++ 46 :: r) = l.length := by
  intro l h
  refine ptL_uniq (by simp) (fun j g hj => ?_) (fun g => ?_)
  · rw [List.getElem_append_left hj]
    intro e
    refine h _ (List.getElem_mem hj) ?_
    apply UInt8.toNat_inj.1
    exact Int.ofNat.inj e
  · rw [List.getElem_append_right (Nat.le_refl _)]
    simp
theorem decs_app {l r : List UInt8} (h : ∀ c ∈ l, c ≠ 46) : decs ⟨(l ++ 46 :: r).toArray⟩ = r.length := by
  unfold decs ptS
  rw [size_mk]
  have : (⟨(l ++ 46 :: r).toArray⟩ : ByteArray).data.toList = l ++ 46 :: r := by simp
  rw [this, ptL_app h]
  simp
theorem allD_ne46 {l : List UInt8} (h : allD l) : ∀ c ∈ l, c ≠ 46 := fun c hc e => by have := h c hc; rw [e] at this; have := this.1; exact absurd this (by decide)
theorem cutS_id {l : List UInt8} {c : UInt8} (h : c ≠ 32) : cutS ⟨(l ++ [c]).toArray⟩ = ⟨(l ++ [c]).toArray⟩ := by
  unfold cutS
  have : (⟨(l ++ [c]).toArray⟩ : ByteArray).data.toList = l ++ [c] := by simp
  rw [this, cut_id h]
theorem dg_ne {n : Nat} : dg (n % 10) ≠ 32 := fun e => by
  have := dg_of (n % 10) (Nat.mod_lt _ (by omega))
  rw [e] at this
  have h : ((32 : UInt8).toNat : Int) = 32 := rfl
  omega
theorem cut_dec {l : List UInt8} {n k : Nat} : cutS ⟨(l ++ decL n (k + 1)).toArray⟩ = ⟨(l ++ decL n (k + 1)).toArray⟩ := by
  rw [decL, ← List.append_assoc]
  exact cutS_id dg_ne
theorem mem3 {P : UInt8 → Prop} {a b c : List UInt8} {x y : UInt8} (ha : ∀ z ∈ a, P z) (hx : P x) (hb : ∀ z ∈ b, P z) (hy : P y) (hc : ∀ z ∈ c, P z) : ∀ z ∈ a ++ ([x] ++ (b ++ ([y] ++ c))), P z := by
  intro z hz
  simp only [List.mem_append, List.mem_singleton] at hz
  rcases hz with h | rfl | h | rfl | h
  · exact ha z h
  · exact hx
  · exact hb z h
  · exact hy
  · exact hc z h
theorem ra_split (a : Int) : ∃ x r, Gt.raL a 3 = x ++ 46 :: decL r 3 ∧ (∀ c ∈ x, c ≠ 46) := by
  unfold Gt.raL
  generalize Gt.rndN (a % 1296000000000).toNat (15000000 / 10 ^ 3) = q
  have := Nat.mod_lt q (show 0 < 86400 * 10 ^ 3 by decide)
  generalize q % (86400 * 10 ^ 3) = n at *
  rw [clock_dec (by omega) (by omega)]
  refine ⟨decL (n / 10 ^ 3 / 3600) 2 ++ ([32] ++ (decL (n / 10 ^ 3 / 60 % 60) 2 ++ ([32] ++ decL (n / 10 ^ 3 % 60) 2))), n % 10 ^ 3, by simp, mem3 (allD_ne46 (decL_num _ _).2) (by decide) (allD_ne46 (decL_num _ _).2) (by decide) (allD_ne46 (decL_num _ _).2)⟩
theorem dec_split {a : Int} (h0 : -324000000000 ≤ a) (h1 : a ≤ 324000000000) : ∃ x r, Gt.decL a 2 = x ++ 46 :: decL r 2 ∧ (∀ c ∈ x, c ≠ 46) := by
  unfold Gt.decL
  have := rnd_le2 a.natAbs (1000000 / 10 ^ 2)
  have e : 1000000 / 10 ^ 2 = 10000 := by decide
  rw [e] at this ⊢
  generalize Gt.rndN a.natAbs 10000 = n at *
  rw [clock_dec (by omega) (by omega)]
  refine ⟨(if a < 0 then 45 else 43) :: (decL (n / 10 ^ 2 / 3600) 2 ++ ([32] ++ (decL (n / 10 ^ 2 / 60 % 60) 2 ++ ([32] ++ decL (n / 10 ^ 2 % 60) 2)))), n % 10 ^ 2, by simp, ?_⟩
  intro z hz
  rcases List.mem_cons.1 hz with rfl | hz
  · split <;> decide
  · exact mem3 (P := fun c => c ≠ 46) (allD_ne46 (decL_num _ _).2) (by decide) (allD_ne46 (decL_num _ _).2) (by decide) (allD_ne46 (decL_num _ _).2) z hz
theorem day_split {t : Int} {s : ByteArray} (h : DayIs t 6 s 0) : ∃ x r, s.data.toList = x ++ 46 :: decL r 6 ∧ (∀ c ∈ x, c ≠ 46) := by
  rcases h with ⟨_, _, h⟩ | ⟨_, _, _, _, h⟩ | ⟨_, _, _, _, n, y, m, z, k, _, rfl, _⟩
  · cases h
  · cases h
  · rw [dayt_L, if_pos (by decide)]
    exact ⟨decL y.toNat 4 ++ ([32] ++ (decL m.toNat 2 ++ ([32] ++ decL (n - mo y m + 1).toNat 2))), _, by simp; rfl, mem3 (allD_ne46 (decL_num _ _).2) (by decide) (allD_ne46 (decL_num _ _).2) (by decide) (allD_ne46 (decL_num _ _).2)⟩
end Op
end Go.Proofs.YtafeigpmldgifaaDoor
/-
  The walks of the reference's texts of observations: spaces, behind.
-/
namespace Go.Proofs.YtafeigpmldgifaaDoor
namespace Ow
open Go.RowKit Lw Go.Proofs.YtafeigpmldgifaaDoor.Ap Go.Proofs.YtafeigpmldgifaaDoor.Op Go.Proofs.YtafeigpmldgifaaDoor.Mp Go.Proofs.YtafeigpmldgifaaDoor.Mw Go.Proofs.YtafeigpmldgifaaDoor.At

def lenOfV : Value → Nat
  | .string s => s.size
  | _ => 0
theorem spL_succ (k : Nat) : ((⟨(spL k).toArray⟩ : ByteArray) ++ ⟨#[32]⟩) = ⟨(spL (k + 1)).toArray⟩ := by
  have : spL (k + 1) = spL k ++ [32] := by unfold spL; rw [List.replicate_succ']
  rw [this, ← str_app]
theorem spL_size (k : Nat) : (⟨(spL k).toArray⟩ : ByteArray).size = k := by simp [ByteArray.size, spL]
theorem sp_toNat (a b : Nat) : spL (((a : Int) - (b : Int)).toNat) = spL (a - b) := by congr 1; omega
end Ow
end Go.Proofs.YtafeigpmldgifaaDoor
/-
  The walk of mag of the reference of observations.
-/
namespace Go.Proofs.YtafeigpmldgifaaDoor
namespace Ow
open Go.RowKit Lw Go.Proofs.YtafeigpmldgifaaDoor.Ap Go.Proofs.YtafeigpmldgifaaDoor.Op Go.Proofs.YtafeigpmldgifaaDoor.Mp Go.Proofs.YtafeigpmldgifaaDoor.Mw Go.Proofs.YtafeigpmldgifaaDoor.At

theorem itoa_two (n : Nat) (h1 : ¬ n < 10) (h : n < 100) : Lib.itoa (n : Int) = [dg (n / 10), dg (n % 10)] := by
  unfold Lib.itoa
  rw [if_neg (by omega), Int.toNat_natCast, Lib.decDigits_two h1 h]
  rfl
end Ow
end Go.Proofs.YtafeigpmldgifaaDoor
/-
  Plain law of observations: the line of an observation is read as the rounded observation; no walk here.
-/
namespace Go.Proofs.YtafeigpmldgifaaDoor
namespace Op
open Go.RowKit Lw Go.Proofs.YtafeigpmldgifaaDoor.Ap Go.Proofs.YtafeigpmldgifaaDoor.Mp Go.Proofs.YtafeigpmldgifaaDoor.At Go.Proofs.YtafeigpmldgifaaDoor.Ow Go.Proofs.YtafeigpmldgifaaDoor.Mw

theorem cutL_sp (l : List UInt8) : ∀ k, cutL (l ++ spL k) = cutL l
  | 0 => by simp [spL]
  | k + 1 => by
    have ih := cutL_sp l k
    have e : spL (k + 1) = spL k ++ [32] := by unfold spL; rw [List.replicate_succ']
    rw [e, ← List.append_assoc]
    unfold cutL at ih ⊢
    have e2 : (l ++ spL k ++ [32]).reverse = 32 :: (l ++ spL k).reverse := by simp
    rw [e2, List.dropWhile_cons_of_pos (by decide)]
    exact ih
theorem toL_mk (l : List UInt8) : (⟨l.toArray⟩ : ByteArray).data.toList = l := by simp
theorem mk_toL (s : ByteArray) : (⟨s.data.toList.toArray⟩ : ByteArray) = s := toL_inj (by simp)
theorem blank_sp (n : Nat) : blankP ⟨(spL n).toArray⟩ := fun c hc => by rw [toL_mk] at hc; exact (List.mem_replicate.1 hc).2
theorem word_ne {c : UInt8} (h : dgP (c.toNat : Int) ∨ ltP (c.toNat : Int)) : c ≠ 32 := fun e => by
  rw [e] at h
  revert h
  decide
/-- What the columns of a name say. -/
def NameIs (n1 n2 : List UInt8) (nm : ByteArray) : Prop := (blankP ⟨n1.toArray⟩ ∧ nm = cutS ⟨n2.toArray⟩ ∧ ¬ numbP nm) ∨ (¬ blankP ⟨n1.toArray⟩ ∧ nm = ⟨n1.toArray⟩ ∧ numbP nm ∧ blankP ⟨n2.toArray⟩)
theorem numb_first {s : ByteArray} (h : numbP s) : ¬ blankP s := by
  intro b
  obtain ⟨z, h⟩ := h
  have e : s.data.toList.length = s.size := Array.length_toList (xs := s.data)
  match hl : s.data.toList with
  | [] => rw [hl] at e; simp at e; omega
  | x :: l =>
    have hx : x = 32 := b x (by rw [hl]; exact List.mem_cons_self)
    rcases h with ⟨h, _⟩ | ⟨h, _⟩
    · rw [bt_L s 0 (by omega), hl, hx] at h
      change ((32 : UInt8).toNat : Int) = 126 at h
      exact absurd h (by decide)
    · have := h x (by rw [ext_L s 0 1 (by omega), hl]; simp)
      exact word_ne this hx
theorem name_split {nm : ByteArray} (h : nameP nm) : ∃ n1 n2, nameF nm = n1 ++ (n2 ++ [32, 32]) ∧ n1.length = 5 ∧ n2.length = 7 ∧ NameIs n1 n2 nm := by
  have e : nm.data.toList.length = nm.size := Array.length_toList (xs := nm.data)
  unfold nameF
  by_cases c : numbP nm
  · rw [if_pos c]
    refine ⟨nm.data.toList, spL 7, by rfl, by rw [e]; exact c.1, spL_len 7, Or.inr ⟨?_, (mk_toL nm).symm, c, blank_sp 7⟩⟩
    rw [mk_toL]
    exact numb_first c
  · rw [if_neg c]
    rcases h with h | ⟨h1, h2, h3⟩
    · exact absurd h c
    · refine ⟨spL 5, nm.data.toList ++ spL (7 - nm.size), ?_, spL_len 5, by rw [List.length_append, e, spL_len]; omega, Or.inl ⟨blank_sp 5, ?_, c⟩⟩
      · rw [show 9 - nm.size = (7 - nm.size) + 2 by omega, spL_add]
        simp only [List.append_assoc]
        rfl
      · obtain ⟨l, x, hl⟩ : ∃ l x, nm.data.toList = l ++ [x] := ⟨_, _, (List.dropLast_concat_getLast (by intro hn; rw [hn] at e; simp at e; omega)).symm⟩
        unfold cutS
        rw [toL_mk, cutL_sp, hl, cut_id (word_ne (h3 x (by rw [hl]; simp))), ← hl, mk_toL]
/-! ### Magnitudes -/
theorem bt5 (a b c d e : UInt8) : bt ⟨#[a, b, c, d, e]⟩ 0 = (a.toNat : Int) ∧ bt ⟨#[a, b, c, d, e]⟩ 1 = (b.toNat : Int) ∧ bt ⟨#[a, b, c, d, e]⟩ 2 = (c.toNat : Int) ∧ bt ⟨#[a, b, c, d, e]⟩ 3 = (d.toNat : Int) ∧ bt ⟨#[a, b, c, d, e]⟩ 4 = (e.toNat : Int) :=
  ⟨by rw [bt_L _ _ (by simp [ByteArray.size])]; rfl, by rw [bt_L _ _ (by simp [ByteArray.size])]; rfl, by rw [bt_L _ _ (by simp [ByteArray.size])]; rfl, by rw [bt_L _ _ (by simp [ByteArray.size])]; rfl, by rw [bt_L _ _ (by simp [ByteArray.size])]; rfl⟩
theorem mag_list {m : Int} (h0 : -500 ≤ m) (h1 : m ≤ 3000) : ∃ a b d e : UInt8, magL m = [a, b, 46, d, e] ∧ (b.toNat : Int) = 48 + m.natAbs / 100 % 10 ∧ (d.toNat : Int) = 48 + m.natAbs / 10 % 10 ∧ (e.toNat : Int) = 48 + m.natAbs % 10 ∧
    ((m < 0 ∧ (a.toNat : Int) = 45) ∨ (0 ≤ m ∧ m < 1000 ∧ (a.toNat : Int) = 32) ∨ (1000 ≤ m ∧ (a.toNat : Int) = 48 + m.natAbs / 1000)) := by
  obtain ⟨n, hn⟩ : ∃ n, m.natAbs = n := ⟨_, rfl⟩
  have hB : magB m = (if m < 0 then [45] else []) ++ Lib.itoa ((n / 100 : Nat) : Int) ++ [46] ++ [dg (n / 10 % 10), dg (n % 10)] := by rw [← hn]; rfl
  have d1 := dg_of (n / 10 % 10) (Nat.mod_lt _ (by omega))
  have d2 := dg_of (n % 10) (Nat.mod_lt _ (by omega))
  rw [hn]
  by_cases c : n / 100 < 10
  · have d0 := dg_of (n / 100) c
    rw [itoa_dg _ c] at hB
    by_cases g : m < 0
    · rw [if_pos g] at hB
      refine ⟨45, dg (n / 100), _, _, by unfold magL; rw [hB]; rfl, by omega, by omega, by omega, Or.inl ⟨g, rfl⟩⟩
    · rw [if_neg g] at hB
      refine ⟨32, dg (n / 100), _, _, by unfold magL; rw [hB]; rfl, by omega, by omega, by omega, Or.inr (Or.inl ⟨by omega, by omega, rfl⟩)⟩
  · have d0 := dg_of (n / 100 % 10) (Nat.mod_lt _ (by omega))
    have d3 := dg_of (n / 100 / 10) (by omega)
    have g : ¬ m < 0 := by omega
    rw [itoa_two _ c (by omega), if_neg g] at hB
    refine ⟨dg (n / 100 / 10), dg (n / 100 % 10), _, _, by unfold magL; rw [hB]; rfl, by omega, by omega, by omega, Or.inr (Or.inr ⟨by omega, by omega⟩)⟩
theorem magL_is {m : Int} (h0 : -500 ≤ m) (h1 : m ≤ 3000) : MagIs ⟨(magL m).toArray⟩ m := by
  obtain ⟨a, b, d, e, hl, hb, hd, he, ha⟩ := mag_list h0 h1
  rw [hl]
  obtain ⟨q0, q1, q2, q3, q4⟩ := bt5 a b 46 d e
  have e46 : ((46 : UInt8).toNat : Int) = 46 := rfl
  unfold MagIs magN dgP
  rw [q0, q1, q2, q3, q4, e46]
  clear q0 q1 q2 q3 q4 hl
  have n1 : ¬ ((e.toNat : Int) = 32) := by omega
  rw [if_neg n1]
  refine ⟨rfl, by omega, by omega, Or.inl (by omega), ?_⟩
  rcases ha with ⟨g, ha⟩ | ⟨g, g', ha⟩ | ⟨g, ha⟩
  · exact Or.inl ⟨ha, by omega, by omega⟩
  · exact Or.inr (Or.inl ⟨ha, by omega⟩)
  · exact Or.inr (Or.inr ⟨by omega, by omega, by omega, by omega⟩)
/-! ### Angles -/
theorem rnd_mul (n u : Nat) (hu : 1 ≤ u) : Gt.rndN (n * u) u = n := by
  have h := Gt.rndN_eq (n * u) u
  unfold Gp.rndI at h
  have e1 : ((n * u : Nat) : Int) % (u : Int) = 0 := by rw [Int.natCast_mul]; exact Int.mul_emod_left _ _
  have e2 : ((n * u : Nat) : Int) / (u : Int) = n := by rw [Int.natCast_mul]; exact Int.mul_ediv_cancel _ (by omega)
  rw [e1, e2] at h
  rw [if_neg (by omega)] at h
  omega
theorem ra_val (a : Int) : ∃ N : Nat, N < 86400000 ∧ Gt.raL a 3 = Gt.clockL N 3 ∧ Gp.RaIs ⟨(Gt.raL a 3).toArray⟩ ((N * 15000 : Nat) : Int) 0 ∧ Gt.raL ((N * 15000 : Nat) : Int) 3 = Gt.clockL N 3 ∧
    2 * Pl.dif ((N * 15000 : Nat) : Int) a ≤ 15000 ∧ -15000 ≤ 2 * Pl.dif ((N * 15000 : Nat) : Int) a := by
  obtain ⟨v, h1, _, _, h2, h3⟩ := Gt.ra_back a 3 (by omega)
  obtain ⟨N, hN⟩ : ∃ N, Gt.rndN (a % 1296000000000).toNat (15000000 / 10 ^ 3) % (86400 * 10 ^ 3) = N := ⟨_, rfl⟩
  have lt : N < 86400000 := by rw [← hN]; exact Nat.mod_lt _ (by decide)
  have hL : Gt.raL a 3 = Gt.clockL N 3 := by unfold Gt.raL; rw [hN]
  obtain ⟨c1, c2, c3⟩ := Gt.clock_reads N 3 (by omega) (by omega)
  have c4 := c3 15000
  have R : Gp.RaIs ⟨(Gt.raL a 3).toArray⟩ ((N * 15000 : Nat) : Int) 0 := by
    rw [hL]
    exact Or.inl ⟨c1, by rw [c2]; omega, c4.symm, rfl⟩
  obtain ⟨rfl, _⟩ := h1.det R
  refine ⟨N, lt, hL, R, ?_, h2, h3⟩
  unfold Gt.raL
  have e1 : (((N * 15000 : Nat) : Int) % 1296000000000).toNat = N * 15000 := by omega
  have e2 : 15000000 / 10 ^ 3 = 15000 := by decide
  rw [e1, e2, rnd_mul N 15000 (by omega), Nat.mod_eq_of_lt (by omega)]
theorem dec_valu {c : Int} (h0 : -324000000000 ≤ c) (h1 : c ≤ 324000000000) : ∃ v : Int, Gp.DecIs ⟨(Gt.decL c 2).toArray⟩ v 0 ∧ -324000000000 ≤ v ∧ v ≤ 324000000000 ∧ v - c ≤ 5000 ∧ -5000 ≤ v - c ∧
    ((c < 0 ∧ v = 0 ∧ Gt.decL c 2 = 45 :: Gt.clockL 0 2) ∨ Gt.decL v 2 = Gt.decL c 2) := by
  obtain ⟨v, h2, v0, v1, v2, v3⟩ := Gt.dec_back c 2 (by omega) h0 h1
  refine ⟨v, h2, v0, v1, by omega, by omega, ?_⟩
  have e2 : 1000000 / 10 ^ 2 = 10000 := by decide
  obtain ⟨R, hR⟩ : ∃ R, Gt.rndN c.natAbs (1000000 / 10 ^ 2) = R := ⟨_, rfl⟩
  have lR : R ≤ 32400001 := by
    have := rnd_le2 c.natAbs (1000000 / 10 ^ 2)
    rw [e2] at this hR
    omega
  have hL : Gt.decL c 2 = (if c < 0 then 45 else 43) :: Gt.clockL R 2 := by unfold Gt.decL; rw [hR]
  obtain ⟨c1, c2, c3⟩ := Gt.clock_reads R 2 (by omega) (by omega)
  have c4 := c3 10000
  have hv : v = if c < 0 then -((R * 10000 : Nat) : Int) else ((R * 10000 : Nat) : Int) := by
    rcases h2 with ⟨_, h2, _⟩ | ⟨_, _, h2⟩
    · rw [hL] at h2
      rw [Gp.get0, Gp.tail_mk] at h2
      rw [h2, show (1000000 : Int) = ((10000 * 10 ^ 2 : Nat) : Int) from rfl, c4]
      by_cases g : c < 0
      · rw [if_pos g, if_pos g, if_pos (show (((45 : UInt8).toNat : Nat) : Int) = 45 from rfl)]
      · rw [if_neg g, if_neg g, if_neg (by decide)]
    · cases h2
  by_cases g : c < 0
  · rw [if_pos g] at hv hL
    by_cases z : R = 0
    · subst z
      exact Or.inl ⟨g, by omega, hL⟩
    · right
      rw [hL]
      unfold Gt.decL
      rw [if_pos (by omega), show v.natAbs = R * 10000 by omega, e2, rnd_mul R 10000 (by omega)]
  · rw [if_neg g] at hv hL
    right
    rw [hL]
    unfold Gt.decL
    rw [if_neg (by omega), show v.natAbs = R * 10000 by omega, e2, rnd_mul R 10000 (by omega)]
/-! ### Days -/
theorem day_time {t d : Int} {s : ByteArray} (h : DayIs t d s 0) : timeP t := by
  rcases h with ⟨_, _, h⟩ | ⟨_, _, _, _, h⟩ | ⟨_, _, h1, h2, _⟩
  · cases h
  · cases h
  · exact ⟨h1, h2⟩
/-- Two times with the same text of six digits are near. -/
theorem day_near {t v : Int} {s : ByteArray} (h : DayIs t 6 s 0) (hv : DayIs v 6 s 0) (hp : PDayIs s v 0) (le : v ≤ t) : t - v < 100000 := by
  obtain ⟨v', p1, le', hv', _⟩ := day_parse h
  obtain ⟨rfl, _⟩ := p1.uniq hp
  rcases h with ⟨_, _, c⟩ | ⟨_, _, _, _, c⟩ | ⟨d0, d6, b1, b2, n, y, m, z, k, hd, hs, _⟩
  · cases c
  · cases c
  have hw : wholeP y m (n - mo y m + 1) := ⟨hd.y1, by have := hd.y2; omega, hd.ym.m1, hd.ym.m12, by have := hd.ym.lo; omega, by have := hd.ym.hi; omega⟩
  have e : dn y m (n - mo y m + 1) = n := by rw [dn_mo]; omega
  obtain ⟨P0, L, T, p1', p2, p3, p4, p5, p6, p7, p8, p9, p10, p11, p12⟩ := part_nat hd 6 (by omega)
  have eL := day_diff hw (by rw [e]; exact hd.zk)
  rw [e, p2] at eL
  rw [show (6 : Int).toNat = 6 from rfl, p8, p3] at hs
  rw [p3] at p10
  obtain ⟨P, q1, q2, q3, q4, q5⟩ := day_core2 (by omega) hw p10 hs
  rw [e] at q1
  obtain ⟨rfl, _⟩ := q1.uniq hp
  rw [← eL] at q5
  have k1 := Nat.lt_div_mul_add (a := P0 * 10 ^ 6) (b := L) (by omega)
  have k2 : ((P0 * 10 ^ 6 / L : Nat) : Int) * L = ((P0 * 10 ^ 6 / L * L : Nat) : Int) := by simp
  rw [k2] at q5
  generalize P0 * 10 ^ 6 / L * L = Z at *
  omega
end Op
end Go.Proofs.YtafeigpmldgifaaDoor
/-
  The walk of name of package obs.
-/
namespace Go.Proofs.YtafeigpmldgifaaDoor
namespace Ow
open Go.RowKit Lw Go.Proofs.YtafeigpmldgifaaDoor.Ap Go.Proofs.YtafeigpmldgifaaDoor.Op Go.Proofs.YtafeigpmldgifaaDoor.Mp Go.Proofs.YtafeigpmldgifaaDoor.Mw Go.Proofs.YtafeigpmldgifaaDoor.At

/-- What the columns of a name say. -/
def NameOf (s n : ByteArray) : Prop := (blankP (s.extract 0 5) ∧ n = cutS (s.extract 5 12) ∧ ¬ numbP n) ∨ (¬ blankP (s.extract 0 5) ∧ n = s.extract 0 5 ∧ numbP n ∧ blankP (s.extract 5 12))
def NameA (s n : ByteArray) (b : Bool) : Prop := (b = true ∧ NameOf s n) ∨ (b = false ∧ ∀ x, ¬ NameOf s x)
def NamePost (s : ByteArray) (w : World) (e : Ending) (w' : World) : Prop := ∃ (n : ByteArray) (b : Bool), e = .returned (.tuple #[.string n, .bool b]) ∧ NameA s n b ∧ Below w.heap.size w w'
theorem cut_nil (s : ByteArray) : cutS s = ⟨#[]⟩ ↔ blankP s := by
  have e : cutS s = ⟨#[]⟩ ↔ cutL s.data.toList = [] := by
    unfold cutS
    constructor
    · intro h
      have := congrArg (fun t : ByteArray => t.data.toList) h
      simpa using this
    · intro h; rw [h]
  rw [e]
  unfold cutL blankP
  rw [List.reverse_eq_nil_iff, dropWhile_nil]
  constructor
  · intro h c hc
    have := h c (List.mem_reverse.2 hc)
    simpa using this
  · intro h c hc
    have := h c (List.mem_reverse.1 hc)
    simp [this]
theorem zero_str {V : ByteArray} (z : V.size = 0) : V = ⟨#[]⟩ := by
  apply At.toL_inj
  have : V.data.toList.length = 0 := by rw [← size_L]; exact z
  rw [List.length_eq_zero_iff.1 this]
theorem name_b {s n : ByteArray} {ub : Bool} (h : blankP (s.extract 0 5)) (hn : n = cutS (s.extract 5 12)) (hu : ub = numbB n) : NameA s n (!ub) := by
  cases hub : ub
  · rw [hub] at hu
    exact Or.inl ⟨rfl, Or.inl ⟨h, hn, of_decide_eq_false hu.symm⟩⟩
  · rw [hub] at hu
    refine Or.inr ⟨rfl, fun x hx => ?_⟩
    rcases hx with ⟨_, a, b⟩ | ⟨a, _⟩
    · rw [a, ← hn] at b
      exact b (of_decide_eq_true hu.symm)
    · exact a h
theorem name_n {s n : ByteArray} {ub vb : Bool} (h : ¬ blankP (s.extract 0 5)) (hn : n = s.extract 0 5) (hu : ub = numbB n) (hv : vb = decide (blankP (s.extract 5 12))) : NameA s n (ub && vb) := by
  cases hub : ub && vb
  · refine Or.inr ⟨rfl, fun x hx => ?_⟩
    rcases hx with ⟨a, _⟩ | ⟨_, a, b, c⟩
    · exact h a
    · rw [a, ← hn] at b
      rw [hu, hv] at hub
      unfold numbB at hub
      rw [decide_eq_true b, decide_eq_true c] at hub
      cases hub
  · rw [Bool.and_eq_true] at hub
    obtain ⟨h1, h2⟩ := hub
    rw [h1] at hu
    rw [h2] at hv
    exact Or.inl ⟨rfl, Or.inr ⟨h, hn, of_decide_eq_true hu.symm, of_decide_eq_true hv.symm⟩⟩
end Ow
end Go.Proofs.YtafeigpmldgifaaDoor
/-
  Plain law of observations: what the columns of a magnitude say, by digits; no walk here.
-/
namespace Go.Proofs.YtafeigpmldgifaaDoor
namespace Op
open Go.RowKit Lw Go.Proofs.YtafeigpmldgifaaDoor.Ap Go.Proofs.YtafeigpmldgifaaDoor.Mp Go.Proofs.YtafeigpmldgifaaDoor.At Go.Proofs.YtafeigpmldgifaaDoor.Ow Go.Proofs.YtafeigpmldgifaaDoor.Mw

theorem five {s : ByteArray} (h : s.size = 5) : ∃ a b c d e : UInt8, s = ⟨#[a, b, c, d, e]⟩ := by
  have e : s.data.toList.length = 5 := by rw [← size_L]; exact h
  match hl : s.data.toList with
  | [a, b, c, d, x] => exact ⟨a, b, c, d, x, toL_inj (by rw [hl])⟩
  | [] => rw [hl] at e; simp at e
  | [_] => rw [hl] at e; simp at e
  | [_, _] => rw [hl] at e; simp at e
  | [_, _, _] => rw [hl] at e; simp at e
  | [_, _, _, _] => rw [hl] at e; simp at e
  | _ :: _ :: _ :: _ :: _ :: _ :: _ => rw [hl] at e; simp at e
/-- A magnitude by the number of its digits. -/
def MagR (s : ByteArray) (T : List UInt8) (mn : Bool) : Prop := ∀ m, MagIs s m ↔ (allD T ∧ ((mn = true ∧ m = -numL T ∧ 0 < numL T) ∨ (mn = false ∧ m = numL T ∧ numL T ≤ 3000)))
theorem allD3 {x y z : UInt8} : allD [x, y, z] ↔ (dgP x.toNat ∧ dgP y.toNat ∧ dgP z.toNat) := by
  unfold allD dgP
  simp
theorem allD4 {w x y z : UInt8} : allD [w, x, y, z] ↔ (dgP w.toNat ∧ dgP x.toNat ∧ dgP y.toNat ∧ dgP z.toNat) := by
  unfold allD dgP
  simp
theorem numL3 {x y z : UInt8} : numL [x, y, z] = 100 * ((x.toNat : Int) - 48) + 10 * ((y.toNat : Int) - 48) + ((z.toNat : Int) - 48) := by
  unfold numL
  simp only [List.foldl]
  omega
theorem numL4 {w x y z : UInt8} : numL [w, x, y, z] = 1000 * ((w.toNat : Int) - 48) + 100 * ((x.toNat : Int) - 48) + 10 * ((y.toNat : Int) - 48) + ((z.toNat : Int) - 48) := by
  unfold numL
  simp only [List.foldl]
  omega
theorem pt_two {a b c d e : UInt8} : ptS ⟨#[a, b, c, d, e]⟩ = 2 ↔ ((a.toNat : Int) ≠ 46 ∧ (b.toNat : Int) ≠ 46 ∧ (c.toNat : Int) = 46) := by
  obtain ⟨q0, q1, q2, q3, q4⟩ := bt5 a b c d e
  constructor
  · intro h
    have h1 := pt_at ⟨#[a, b, c, d, e]⟩ (by rw [h]; simp [ByteArray.size])
    rw [h, q2] at h1
    refine ⟨fun g => ?_, fun g => ?_, h1⟩
    · have : ptS ⟨#[a, b, c, d, e]⟩ = 0 := pt_uniq (by omega) (fun j hj => by omega) (fun _ => by rw [q0]; exact g)
      omega
    · by_cases ha : (a.toNat : Int) = 46
      · have : ptS ⟨#[a, b, c, d, e]⟩ = 0 := pt_uniq (by omega) (fun j hj => by omega) (fun _ => by rw [q0]; exact ha)
        omega
      · have : ptS ⟨#[a, b, c, d, e]⟩ = 1 := pt_uniq (by simp [ByteArray.size]) (fun j hj => by
          obtain rfl : j = 0 := by omega
          rw [q0]; exact ha) (fun _ => by rw [q1]; exact g)
        omega
  · rintro ⟨h0, h1, h2⟩
    exact pt_uniq (by simp [ByteArray.size]) (fun j hj => by
      rcases (show j = 0 ∨ j = 1 by omega) with rfl | rfl
      · rw [q0]; exact h0
      · rw [q1]; exact h1) (fun _ => by rw [q2]; exact h2)
theorem mag_pt {a b c d e : UInt8} (h : ¬ ((a.toNat : Int) ≠ 46 ∧ (b.toNat : Int) ≠ 46 ∧ (c.toNat : Int) = 46)) : ∀ m, ¬ MagIs ⟨#[a, b, c, d, e]⟩ m := by
  intro m g
  obtain ⟨q0, q1, q2, q3, q4⟩ := bt5 a b c d e
  unfold MagIs dgP at g
  rw [q0, q1, q2, q3, q4] at g
  generalize magN ⟨#[a, b, c, d, e]⟩ = N at *
  omega
theorem mag_b {a b c d e : UInt8} (h : ¬ dgP b.toNat) : ∀ m, ¬ MagIs ⟨#[a, b, c, d, e]⟩ m := fun m g => h (by have := g.2.1; rwa [(bt5 a b c d e).2.1] at this)
theorem mag_d {a b c d e : UInt8} (h : ¬ dgP d.toNat) : ∀ m, ¬ MagIs ⟨#[a, b, c, d, e]⟩ m := fun m g => h (by have := g.2.2.1; rwa [(bt5 a b c d e).2.2.2.1] at this)
theorem mag_0 {a b c d e : UInt8} (h : (a.toNat : Int) = 48) : ∀ m, ¬ MagIs ⟨#[a, b, c, d, e]⟩ m := by
  intro m g
  obtain ⟨q0, q1, q2, q3, q4⟩ := bt5 a b c d e
  unfold MagIs dgP at g
  rw [q0, q1, q2, q3, q4] at g
  generalize magN ⟨#[a, b, c, d, e]⟩ = N at *
  omega
theorem mag_r1 {a b c d e z : UInt8} {mn : Bool} (hc : (c.toNat : Int) = 46) (hz : (z = e ∧ (e.toNat : Int) ≠ 32) ∨ ((z.toNat : Int) = 48 ∧ (e.toNat : Int) = 32)) (ha : ((a.toNat : Int) = 45 ∧ mn = true) ∨ ((a.toNat : Int) = 32 ∧ mn = false)) :
    MagR ⟨#[a, b, c, d, e]⟩ [b, d, z] mn := by
  intro m
  obtain ⟨q0, q1, q2, q3, q4⟩ := bt5 a b c d e
  rw [allD3, numL3]
  unfold MagIs magN dgP
  rw [q0, q1, q2, q3, q4]
  have hN : (if (e.toNat : Int) = 32 then 0 else (e.toNat : Int) - 48) = (z.toNat : Int) - 48 := by
    rcases hz with ⟨rfl, h⟩ | ⟨h, g⟩
    · rw [if_neg h]
    · rw [if_pos g]; omega
  have hE : ((48 ≤ (e.toNat : Int) ∧ (e.toNat : Int) ≤ 57) ∨ (e.toNat : Int) = 32) ↔ (48 ≤ (z.toNat : Int) ∧ (z.toNat : Int) ≤ 57) := by
    rcases hz with ⟨rfl, h⟩ | ⟨h, g⟩ <;> omega
  rw [hN, hE]
  rcases ha with ⟨h, rfl⟩ | ⟨h, rfl⟩
  · simp only [true_and, Bool.true_eq_false, false_and, or_false]
    omega
  · simp only [true_and, Bool.false_eq_true, false_and, false_or]
    omega
theorem mag_r2 {a b c d e z : UInt8} (hc : (c.toNat : Int) = 46) (hz : (z = e ∧ (e.toNat : Int) ≠ 32) ∨ ((z.toNat : Int) = 48 ∧ (e.toNat : Int) = 32)) (h1 : (a.toNat : Int) ≠ 45) (h2 : (a.toNat : Int) ≠ 32) (h3 : (a.toNat : Int) ≠ 48) :
    MagR ⟨#[a, b, c, d, e]⟩ [a, b, d, z] false := by
  intro m
  obtain ⟨q0, q1, q2, q3, q4⟩ := bt5 a b c d e
  rw [allD4, numL4]
  unfold MagIs magN dgP
  rw [q0, q1, q2, q3, q4]
  have hN : (if (e.toNat : Int) = 32 then 0 else (e.toNat : Int) - 48) = (z.toNat : Int) - 48 := by
    rcases hz with ⟨rfl, h⟩ | ⟨h, g⟩
    · rw [if_neg h]
    · rw [if_pos g]; omega
  have hE : ((48 ≤ (e.toNat : Int) ∧ (e.toNat : Int) ≤ 57) ∨ (e.toNat : Int) = 32) ↔ (48 ≤ (z.toNat : Int) ∧ (z.toNat : Int) ≤ 57) := by
    rcases hz with ⟨rfl, h⟩ | ⟨h, g⟩ <;> omega
  rw [hN, hE]
  simp only [true_and, Bool.false_eq_true, false_and, false_or]
  omega
/-- What magnitude answers. -/
def MagA (s : ByteArray) (m : Int) (b : Bool) : Prop := (b = true ∧ MagIs s m) ∨ (b = false ∧ ∀ x, ¬ MagIs s x)
theorem mag_f1 {s : ByteArray} {T : List UInt8} (R : MagR s T true) (h : allD T) : MagA s (-numL T) (decide (0 < numL T)) := by
  by_cases g : 0 < numL T
  · exact Or.inl ⟨decide_eq_true g, (R _).2 ⟨h, Or.inl ⟨rfl, rfl, g⟩⟩⟩
  · refine Or.inr ⟨decide_eq_false g, fun x hx => ?_⟩
    rcases ((R x).1 hx).2 with ⟨_, _, h⟩ | ⟨h, _⟩
    · exact g h
    · cases h
theorem mag_f2 {s : ByteArray} {T : List UInt8} (R : MagR s T false) (h : allD T) : MagA s (numL T) (decide (numL T ≤ 3000)) := by
  by_cases g : numL T ≤ 3000
  · exact Or.inl ⟨decide_eq_true g, (R _).2 ⟨h, Or.inr ⟨rfl, rfl, g⟩⟩⟩
  · refine Or.inr ⟨decide_eq_false g, fun x hx => ?_⟩
    rcases ((R x).1 hx).2 with ⟨h, _⟩ | ⟨_, _, h⟩
    · cases h
    · exact g h
theorem mag_f3 {s : ByteArray} {T : List UInt8} {mn : Bool} (R : MagR s T mn) (h : ¬ allD T) : MagA s 0 false := Or.inr ⟨rfl, fun x hx => h ((R x).1 hx).1⟩
theorem magA_no {s : ByteArray} (h : ∀ x, ¬ MagIs s x) : MagA s 0 false := Or.inr ⟨rfl, h⟩
end Op
end Go.Proofs.YtafeigpmldgifaaDoor
/-
  Plain law of observations: a line's candidate, all of it but the check; no walk here.
-/
namespace Go.Proofs.YtafeigpmldgifaaDoor
namespace Op
open Go.RowKit Lw Go.Proofs.YtafeigpmldgifaaDoor.Ap Go.Proofs.YtafeigpmldgifaaDoor.Mp Go.Proofs.YtafeigpmldgifaaDoor.At Go.Proofs.YtafeigpmldgifaaDoor.Ow Go.Proofs.YtafeigpmldgifaaDoor.Mw

/-- The variance of a line, by the digits of its declination. -/
def sgOf (n : Nat) : Int := if n = 0 then 1000000 else if n = 1 then 300000 else 100000
structure Cand (s : ByteArray) (o : Ob) : Prop where
  size : s.size = 80
  mark : bt s 12 = 32 ∧ bt s 13 = 32 ∧ bt s 14 = 67
  b1 : blankP (s.extract 56 65)
  b2 : blankP (s.extract 71 77)
  p : 3 ≤ decs (cutS (s.extract 15 32)) ∧ decs (cutS (s.extract 15 32)) ≤ 6
  q : 1 ≤ decs (cutS (s.extract 32 44)) ∧ decs (cutS (s.extract 32 44)) ≤ 3
  r : decs (cutS (s.extract 44 56)) ≤ 2
  day : PDayIs (cutS (s.extract 15 32)) o.t 0
  ra : Gp.RaIs (cutS (s.extract 32 44)) o.ra 0
  dec : Gp.DecIs (cutS (s.extract 44 56)) o.dec 0
  site : o.site = s.extract 77 80
  sg : o.sg = sgOf (decs (cutS (s.extract 44 56)))
  name : NameOf s o.name
  mag : (blankP (s.extract 65 71) ∧ o.mag = 9999 ∧ o.band = 32) ∨ (¬ blankP (s.extract 65 71) ∧ MagIs (s.extract 65 70) o.mag ∧ o.band = bt s 70)
theorem Good.cand {s : ByteArray} {o : Ob} (h : Good s o) : Cand s o := ⟨h.size, h.mark, h.b1, h.b2, h.p, h.q, h.r, h.day, h.ra, h.dec, h.site, h.sg, h.name, h.mag⟩
theorem Cand.good {s : ByteArray} {o : Ob} (h : Cand s o) (ok : okO o) : Good s o := ⟨h.size, h.mark, h.b1, h.b2, h.p, h.q, h.r, h.day, h.ra, h.dec, h.site, h.sg, h.name, h.mag, ok⟩
theorem nameOf_uniq {s a b : ByteArray} (h : NameOf s a) (g : NameOf s b) : a = b := by
  rcases h with ⟨x1, x2, _⟩ | ⟨x1, x2, _⟩ <;> rcases g with ⟨y1, y2, _⟩ | ⟨y1, y2, _⟩
  · rw [x2, y2]
  · exact absurd x1 y1
  · exact absurd y1 x1
  · rw [x2, y2]
theorem Cand.uniq {s : ByteArray} {o o' : Ob} (a : Cand s o) (b : Cand s o') : o = o' := by
  have e1 := (a.day.uniq b.day).1
  have e2 := (a.ra.det b.ra).1
  have e3 := (a.dec.det b.dec).1
  have e4 := a.site.trans b.site.symm
  have e5 := a.sg.trans b.sg.symm
  have e6 := nameOf_uniq (s := s) a.name b.name
  have e7 : o.mag = o'.mag ∧ o.band = o'.band := by
    rcases a.mag with ⟨x1, x2, x3⟩ | ⟨x1, x2, x3⟩ <;> rcases b.mag with ⟨y1, y2, y3⟩ | ⟨y1, y2, y3⟩
    · exact ⟨by omega, by omega⟩
    · exact absurd x1 y1
    · exact absurd y1 x1
    · exact ⟨x2.uniq y2, by omega⟩
  obtain ⟨e7, e8⟩ := e7
  cases o; cases o'
  simp only at e1 e2 e3 e4 e5 e6 e7 e8
  rw [e1, e2, e3, e4, e5, e6, e7, e8]
/-- No observation has this line. -/
def NoO (s : ByteArray) : Prop := ∀ x, ¬ Good s x
theorem obs_no {s : ByteArray} (h : NoO s) : ObsIs s zeroO 12 := Or.inr ⟨h, rfl, rfl⟩
theorem Cand.obs {s : ByteArray} {o : Ob} (h : Cand s o) : (okO o → ObsIs s o 0) ∧ (¬ okO o → ObsIs s zeroO 12) := by
  refine ⟨fun g => Or.inl ⟨h.good g, rfl⟩, fun g => obs_no fun x hx => g ?_⟩
  rw [← hx.cand.uniq h]
  exact hx.ok
theorem no_size {s : ByteArray} (h : s.size ≠ 80) : NoO s := fun _ g => h g.size
theorem no_mark {s : ByteArray} (h : ¬ (bt s 12 = 32 ∧ bt s 13 = 32 ∧ bt s 14 = 67)) : NoO s := fun _ g => h g.mark
theorem no_b1 {s : ByteArray} (h : ¬ blankP (s.extract 56 65)) : NoO s := fun _ g => h g.b1
theorem no_b2 {s : ByteArray} (h : ¬ blankP (s.extract 71 77)) : NoO s := fun _ g => h g.b2
/-- The digits behind the points. -/
def digP (a b c : Nat) : Prop := 3 ≤ a ∧ a ≤ 6 ∧ 1 ≤ b ∧ b ≤ 3 ∧ c ≤ 2
theorem no_dig {s : ByteArray} (h : ¬ digP (decs (cutS (s.extract 15 32))) (decs (cutS (s.extract 32 44))) (decs (cutS (s.extract 44 56)))) : NoO s := fun _ g => h ⟨g.p.1, g.p.2, g.q.1, g.q.2, g.r⟩
theorem no_day {s : ByteArray} {t c : Int} (h : PDayIs (cutS (s.extract 15 32)) t c) (n : c ≠ 0) : NoO s := fun _ g => n (h.uniq g.day).2
theorem no_ra {s : ByteArray} {t c : Int} (h : Gp.RaIs (cutS (s.extract 32 44)) t c) (n : c ≠ 0) : NoO s := fun _ g => n (h.det g.ra).2
theorem no_dec {s : ByteArray} {t c : Int} (h : Gp.DecIs (cutS (s.extract 44 56)) t c) (n : c ≠ 0) : NoO s := fun _ g => n (h.det g.dec).2
theorem ext_ext (s : ByteArray) (i j k l : Nat) (h : i + l ≤ j) : (s.extract i j).extract k l = s.extract (i + k) (i + l) := by
  rw [ByteArray.extract_extract, Nat.min_eq_left h]
theorem nameOf_12 {s n : ByteArray} : NameOf (s.extract 0 12) n ↔ NameOf s n := by
  unfold NameOf
  rw [ext_ext s 0 12 0 5 (by omega), ext_ext s 0 12 5 12 (by omega)]
theorem no_name {s n : ByteArray} (h : NameA (s.extract 0 12) n false) : NoO s := fun x g => by
  rcases h with ⟨h, _⟩ | ⟨_, h⟩
  · cases h
  · exact h x.name (nameOf_12.2 g.name)
theorem yes_name {s n : ByteArray} (h : NameA (s.extract 0 12) n true) : NameOf s n := by
  rcases h with ⟨_, h⟩ | ⟨h, _⟩
  · exact nameOf_12.1 h
  · cases h
theorem no_mag {s : ByteArray} {m : Int} (hb : ¬ blankP (s.extract 65 71)) (h : MagA (s.extract 65 70) m false) : NoO s := fun x g => by
  rcases h with ⟨h, _⟩ | ⟨_, h⟩
  · cases h
  · rcases g.mag with ⟨a, _⟩ | ⟨_, a, _⟩
    · exact hb a
    · exact h _ a
theorem yes_mag {s : ByteArray} {m : Int} (h : MagA s m true) : MagIs s m := by
  rcases h with ⟨_, h⟩ | ⟨h, _⟩
  · exact h
  · cases h
/-- The mark as a string. -/
theorem mark_is {s : ByteArray} (h : s.size = 80) : s.extract 12 15 = ⟨#[32, 32, 67]⟩ ↔ (bt s 12 = 32 ∧ bt s 13 = 32 ∧ bt s 14 = 67) := by
  have b : ∀ k, k < 3 → bt (s.extract 12 15) k = bt s (12 + k) := fun k hk => by
    rw [bt_of _ k (by rw [ByteArray.size_extract]; omega), bt_of s (12 + k) (by omega)]
    congr 2
    simp [ByteArray.getElem_eq_getElem_data]
  have b0 := b 0 (by omega)
  have b1 := b 1 (by omega)
  have b2 := b 2 (by omega)
  constructor
  · intro e
    rw [e] at b0 b1 b2
    exact ⟨b0.symm, b1.symm, b2.symm⟩
  · rintro ⟨h0, h1, h2⟩
    have z : (s.extract 12 15).size = 3 := by rw [ByteArray.size_extract]; omega
    have l : (s.extract 12 15).data.toList.length = 3 := by rw [← size_L]; exact z
    match hl : (s.extract 12 15).data.toList, l with
    | [x, y, w], _ =>
      rw [bt_L _ _ (by omega), hl] at b0 b1 b2
      have v : ∀ {x : UInt8} {n : Nat}, n < 256 → (x.toNat : Int) = n → x = UInt8.ofNat n := fun hn h => u8_val hn h
      have e0 : x = 32 := v (n := 32) (by omega) (b0.trans h0)
      have e1 : y = 32 := v (n := 32) (by omega) (b1.trans h1)
      have e2 : w = 67 := v (n := 67) (by omega) (b2.trans h2)
      apply toL_inj
      rw [hl, e0, e1, e2]
theorem pday_bd {s : ByteArray} {t c : Int} (h : PDayIs s t c) : -9223372036854775808 ≤ t ∧ t ≤ 9223372036854775807 := by
  by_cases hc : c = 0
  · subst hc
    have := day_time (parse_day h).1
    have b : -1000000000000000 ≤ bgv (-10227) 1972 1 ∧ bgv 36525 2100 1 ≤ 10000000000000000 := by decide +kernel
    unfold timeP at this
    omega
  · rcases h with ⟨_, _, h⟩ | ⟨_, h, _⟩
    · exact absurd h hc
    · omega
end Op
end Go.Proofs.YtafeigpmldgifaaDoor
/-
  The walk of magnitude of package obs.
-/
namespace Go.Proofs.YtafeigpmldgifaaDoor
namespace Ow
open Go.RowKit Lw Go.Proofs.YtafeigpmldgifaaDoor.Ap Go.Proofs.YtafeigpmldgifaaDoor.Op Go.Proofs.YtafeigpmldgifaaDoor.Mp Go.Proofs.YtafeigpmldgifaaDoor.Mw Go.Proofs.YtafeigpmldgifaaDoor.At

def MagPost (s : ByteArray) (w : World) (e : Ending) (w' : World) : Prop := ∃ (m : Int) (b : Bool), e = .returned (.tuple #[.int .i64 m, .bool b]) ∧ MagA s m b ∧ Below w.heap.size w w'
theorem mag_parts {a b c d e : UInt8} (h : ptS ⟨#[a, b, c, d, e]⟩ = 2) : hdP ⟨#[a, b, c, d, e]⟩ = ⟨#[a, b]⟩ ∧ tlP ⟨#[a, b, c, d, e]⟩ = ⟨#[d, e]⟩ ∧ decide (ptS ⟨#[a, b, c, d, e]⟩ < (⟨#[a, b, c, d, e]⟩ : ByteArray).size) = true := by
  have z : (⟨#[a, b, c, d, e]⟩ : ByteArray).size = 5 := rfl
  refine ⟨?_, ?_, decide_eq_true (by rw [h, z]; omega)⟩
  · unfold hdP
    rw [h]
    apply At.toL_inj
    rw [At.ext_L _ _ _ (by rw [z]; omega)]
    rfl
  · unfold tlP
    rw [if_pos (by rw [h, z]; omega), h, z]
    apply At.toL_inj
    rw [At.ext_L _ _ _ (by rw [z]; omega)]
    rfl
/-- Two bytes as a string. -/
theorem two_str (a b : UInt8) : ∃ F : ByteArray, F = ⟨#[a, b]⟩ ∧ F.size = 2 ∧ (∀ h : 0 < F.size, (F[0]'h).toNat = a.toNat) ∧ (∀ h : 1 < F.size, (F[1]'h).toNat = b.toNat) ∧ F.extract 1 2 = ⟨#[b]⟩ ∧ F.extract 0 1 = ⟨#[a]⟩ := by
  refine ⟨_, rfl, rfl, fun _ => rfl, fun _ => rfl, ?_, ?_⟩
  · apply At.toL_inj
    rw [At.ext_L _ _ _ (by show (2 : Nat) ≤ 2; omega)]
    rfl
  · apply At.toL_inj
    rw [At.ext_L _ _ _ (by show (1 : Nat) ≤ 2; omega)]
    rfl
theorem one_str (b : UInt8) : ∃ F : ByteArray, F = ⟨#[b]⟩ ∧ F.size = 1 := ⟨_, rfl, rfl⟩
theorem cat_str (x y : ByteArray) : ∃ T : ByteArray, x ++ y = T ∧ T.size = x.size + y.size ∧ T.data.toList = x.data.toList ++ y.data.toList := ⟨_, rfl, ByteArray.size_append, by simp⟩
end Ow
end Go.Proofs.YtafeigpmldgifaaDoor
/-
  The day texts of times: Day of the reference.
-/
namespace Go.Proofs.YtafeigpmldgifaaDoor
namespace At
open Go.RowKit Lw Ap Go.Proofs.YtafeigpmldgifaaDoor.Mp Go.Proofs.YtafeigpmldgifaaDoor.Mw

theorem XSr.call {w : World} {b : Nat} {a c : World} (h : XSr w b a) (hb : Below a.heap.size a c) : XSr w b c := ⟨Nat.lt_of_lt_of_le h.lt hb.size, below_then h.below hb⟩
end At
end Go.Proofs.YtafeigpmldgifaaDoor
/-
  Text and Day of both, for any time and number of digits.
-/
namespace Go.Proofs.YtafeigpmldgifaaDoor
namespace At
open Go.RowKit Lw Ap Go.Proofs.YtafeigpmldgifaaDoor.Mp Go.Proofs.YtafeigpmldgifaaDoor.Mw

end At
end Go.Proofs.YtafeigpmldgifaaDoor
/-
  The walk of Print of package obs.
-/
namespace Go.Proofs.YtafeigpmldgifaaDoor
namespace Ow
open Go.RowKit Lw Go.Proofs.YtafeigpmldgifaaDoor.Ap Go.Proofs.YtafeigpmldgifaaDoor.Op Go.Proofs.YtafeigpmldgifaaDoor.Mp Go.Proofs.YtafeigpmldgifaaDoor.Mw Go.Proofs.YtafeigpmldgifaaDoor.At

/-- A line of spaces as bytes, in a block of its own. -/
theorem line_new (w : World) (s : ByteArray) : ∃ (W : World) (cap : Nat), (convert 9 58 (.string s)).run Tryd.prog w = .ok (.slice (some ⟨w.heap.size, 0, none⟩) s.size cap) W ∧ w.heap.size < W.heap.size ∧ W.rangeAt w.heap.size 0 (bytesV s.data.toList) ∧ W.there w.heap.size 0 s.size ∧ Below w.heap.size w W ∧ s.size ≤ cap := by
  obtain ⟨W, cap, h1, h2, h3, h4⟩ := Ap.bytes_in w s
  refine ⟨W, cap, h1, h2.1, ?_, ?_, h3, h4⟩
  · intro i x hi
    unfold bytesV at hi
    rw [List.getElem?_map] at hi
    obtain ⟨y, hy, rfl⟩ := Option.map_eq_some_iff.1 hi
    obtain ⟨hl, hy⟩ := List.getElem?_eq_some_iff.1 hy
    have hl' : i < s.size := by rw [size_L]; exact hl
    have := h2.2 i hl'
    rw [Nat.zero_add, this, ← hy]
    rfl
  · intro j hj
    rw [Nat.zero_add]
    refine ⟨by rw [h2.2 j hj]; rfl, ?_⟩
    rw [run_bytes_of_string (P := Tryd.prog) w 9 58 5 s Tryd.underlying9 Tryd.underlying58 Tryd.underlying5] at h1
    injection h1 with _ h1
    rw [← h1]
    have hz : ∀ C, s.size ≤ (bytesRow s C).size := fun C => by
      unfold bytesRow
      rw [Array.size_append, Array.size_map]
      exact Nat.le_add_right _ _
    have := World.frozen?_alloc_mark w.drew (bytesRow s (grownCap w s.size 0 5)) 5 (bytesRow s (grownCap w s.size 0 5)).size ((bytesRow s (grownCap w s.size 0 5)).size + 1) j
    rw [show (decide ((bytesRow s (grownCap w s.size 0 5)).size ≤ j)) = false from decide_eq_false (by have := hz (grownCap w s.size 0 5); omega)] at this
    exact this
theorem PX.tab {w0 w' : World} {b g p c : Nat} {o : Ob} {L' : List UInt8} (h : PX w0 b o g p c L' w') (hT : Gt.Tab w0) : Gt.Tab w' := hT.below h.ox.below
theorem back_line {w0 w : World} {b g p c : Nat} {o : Ob} {L : List UInt8} (h : PX w0 b o g p c L w) : (convert 58 9 (.slice (some ⟨g, 0, none⟩) 80 c)).run Tryd.prog w = .ok (.string ⟨L.toArray⟩) w := by
  have := run_convert_bytes_back (P := Tryd.prog) w 58 9 5 ⟨g, 0, none⟩ c L Tryd.underlying58 Tryd.underlying5 Tryd.underlying9 (fun j hj => by
    have := h.row j (.int .u8 (L[j].toNat : Int)) (by unfold bytesV; rw [List.getElem?_map, List.getElem?_eq_getElem hj]; rfl)
    rw [Addr.add_mid]
    rw [this])
  rw [h.len] at this
  exact this
theorem wput_wput {L s : List UInt8} {k : Nat} (h : k + s.length ≤ L.length) : wput (wput L k s) k s = wput L k s := by
  unfold wput
  have e1 : (L.take k).length = k := by simp; omega
  have e2 : (L.take k ++ (s ++ L.drop (k + s.length))).take k = L.take k := by rw [List.take_append_of_le_length (by omega), List.take_of_length_le (by omega)]
  have e3 : (L.take k ++ (s ++ L.drop (k + s.length))).drop (k + s.length) = L.drop (k + s.length) := by
    rw [← List.append_assoc, List.drop_append_of_le_length (by simp; omega)]
    have : (L.take k ++ s).length = k + s.length := by simp; omega
    rw [List.drop_of_length_le (by omega), List.nil_append]
  rw [e2, e3]
/-- Before or behind one put. -/
structure PS (w0 : World) (b : Nat) (o : Ob) (g p c : Nat) (L : List UInt8) (k : Nat) (s : ByteArray) (w : World) : Prop where
  px : ∃ L0, (L0 = L ∨ L0 = wput L k s.data.toList) ∧ PX w0 b o g p c L0 w
  tab : Gt.Tab w
  len : k + s.data.toList.length ≤ L.length
theorem PS.call {w0 w w' : World} {b g p c k : Nat} {o : Ob} {L : List UInt8} {s : ByteArray} (h : PS w0 b o g p c L k s w) (hb : Below w.heap.size w w') : PS w0 b o g p c L k s w' := by
  obtain ⟨⟨L0, h1, h2⟩, h3, h4⟩ := h
  exact ⟨⟨L0, h1, h2.call hb⟩, h3.below hb, h4⟩
theorem PS.drew {w0 w : World} {b g p c k : Nat} {o : Ob} {L : List UInt8} {s : ByteArray} (h : PS w0 b o g p c L k s w) : PS w0 b o g p c L k s w.drew := h.call (Below.refl _ _).drew
theorem PS.lift {w0 w w' : World} {b g p c k : Nat} {o : Ob} {L : List UInt8} {s : ByteArray} (h : PS w0 b o g p c L k s w) (hT : Gt.Tab w0) (g' : PX w0 b o g p c (wput L k s.data.toList) w') : PS w0 b o g p c L k s w' := ⟨⟨_, Or.inr rfl, g'⟩, g'.tab hT, h.len⟩
/-- The same with the cells that are read. -/
abbrev PQ (w0 : World) (b : Nat) (o : Ob) (g p c : Nat) (L : List UInt8) (k : Nat) (s : ByteArray) (w : World) : Prop := w.cell? ⟨b, 6, none⟩ = some (.int .i64 o.mag) ∧ w.cell? ⟨b, 7, none⟩ = some (.int .u8 o.band) ∧ PS w0 b o g p c L k s w
theorem PS.q {w0 w : World} {b g p c k : Nat} {o : Ob} {L : List UInt8} {s : ByteArray} (h : PS w0 b o g p c L k s w) : PQ w0 b o g p c L k s w := by
  obtain ⟨L0, h1, h2⟩ := h.px
  have a := h2.ox.row 6 _ rfl
  have b := h2.ox.row 7 _ rfl
  rw [Nat.zero_add] at a b
  exact ⟨a, b, h⟩
theorem mag_bd {m b : Int} (h : magP m b) (h9 : m ≠ 9999) : -500 ≤ m ∧ m ≤ 3000 := by
  unfold magP at h
  omega
theorem band_u8 {m b : Int} (h : magP m b) : 0 ≤ b ∧ b ≤ 255 ∧ b < 128 := by
  unfold magP ltP at h
  omega
theorem band_enc {m b : Int} (h : magP m b) : Utf8.encode b = ⟨#[UInt8.ofNat b.toNat]⟩ := by
  have hb : 0 ≤ b ∧ b < 128 := by
    unfold magP ltP at h
    omega
  unfold Utf8.encode
  have v : Utf8.valid b = true := by
    unfold Utf8.valid
    rw [decide_eq_true (show 0 ≤ b by omega), decide_eq_true (show b < 55296 by omega)]
    rfl
  simp only [v, if_true]
  rw [if_pos (by omega)]
theorem band_enc2 {m b : Int} (h : magP m b) : Utf8.encode (IntKind.i32.wrap b) = ⟨#[UInt8.ofNat b.toNat]⟩ := by
  obtain ⟨b0, b1, _⟩ := band_u8 h
  rw [wrap_i32_small b b0 (by omega), band_enc h]
end Ow
end Go.Proofs.YtafeigpmldgifaaDoor
/-
  ParseRa and ParseDec of package angle.
-/
namespace Go.Proofs.YtafeigpmldgifaaDoor
namespace Gp
open Go.RowKit Lw

theorem mul_neg {p q : Int} (h0 : -1 ≤ p) (h1 : p ≤ 999999) (g0 : 0 ≤ q) (g1 : q ≤ 15000000) : -15000000 ≤ p * q ∧ p * q ≤ 14999985000000 := by
  by_cases h : 0 ≤ p
  · have := mul_bd h h1 g0 g1
    omega
  · obtain rfl : p = -1 := by omega
    omega
theorem bad_letters (p : Int) (d : Nat) (h0 : -1 ≤ p) (h1 : p ≤ 999999) (hd : d ≤ 6) : ∃ Q T : Int, tenI d = T ∧ (1000000 : Int).tdiv T = Q ∧ 1 ≤ T ∧ 0 ≤ Q ∧ Q ≤ 15000000 ∧ -15000000 ≤ p * Q ∧ p * Q ≤ 14999985000000 := by
  have t := (tenI_bd d (by omega)).1
  have e : (1000000 : Int).tdiv (tenI d) = 1000000 / tenI d := Int.tdiv_eq_ediv_of_nonneg (by omega)
  have q := div_bd (u := 1000000) (by omega) t
  rw [← e] at q
  have m := mul_neg h0 h1 q.1 (by omega)
  exact ⟨_, _, rfl, rfl, t, q.1, by omega, m.1, m.2⟩
end Gp
end Go.Proofs.YtafeigpmldgifaaDoor
/-
  The walk of Parse of package obs.
-/
namespace Go.Proofs.YtafeigpmldgifaaDoor
namespace Ow
open Go.RowKit Lw Go.Proofs.YtafeigpmldgifaaDoor.Ap Go.Proofs.YtafeigpmldgifaaDoor.Op Go.Proofs.YtafeigpmldgifaaDoor.Mp Go.Proofs.YtafeigpmldgifaaDoor.Mw Go.Proofs.YtafeigpmldgifaaDoor.At

def ObsPost (s : ByteArray) (w : World) (e : Ending) (w' : World) : Prop := ∃ (o : Ob) (c : Int), e = .returned (.tuple #[obsV o, .int .i64 c]) ∧ ObsIs s o c ∧ Below w.heap.size w w'
/-- The result's box. -/
structure Res (w0 w : World) : Prop where
  below : Below w0.heap.size w0 w
  lt : w0.heap.size < w.heap.size
  th : w.there w0.heap.size 0 8
theorem Res.call {w0 w w' : World} (h : Res w0 w) (hb : Below w.heap.size w w') : Res w0 w' := ⟨below_then h.below hb, Nat.lt_of_lt_of_le h.lt hb.size, there_below h.th hb h.lt⟩
end Ow
end Go.Proofs.YtafeigpmldgifaaDoor
/-
  The walk of Parse of package obs: the main way.
-/
namespace Go.Proofs.YtafeigpmldgifaaDoor
namespace Ow
open Go.RowKit Lw Go.Proofs.YtafeigpmldgifaaDoor.Ap Go.Proofs.YtafeigpmldgifaaDoor.Op Go.Proofs.YtafeigpmldgifaaDoor.Mp Go.Proofs.YtafeigpmldgifaaDoor.Mw Go.Proofs.YtafeigpmldgifaaDoor.At

/-- The result's box, and an observation in a box of its own. -/
structure OY (w0 : World) (b : Nat) (o : Ob) (w : World) : Prop where
  res : Res w0 w
  hb : w0.heap.size < b
  lt : b < w.heap.size
  row : w.rangeAt b 0 (obsC o)
  th : w.there b 0 8
theorem nameOf_size {s n : ByteArray} (h : NameOf s n) (h8 : s.size = 80) : n.size ≤ 7 := by
  rcases h with ⟨_, rfl, _⟩ | ⟨_, rfl, _⟩
  · exact Nat.le_trans (cutS_le _) (by rw [ByteArray.size_extract]; omega)
  · rw [ByteArray.size_extract]; omega
theorem pday_code {s : ByteArray} {t c : Int} (h : PDayIs s t c) : c = 0 ∨ c = 12 := by
  rcases h with ⟨_, _, h⟩ | ⟨_, _, h⟩
  · exact Or.inl h
  · exact Or.inr h
theorem ra_code {s : ByteArray} {t c : Int} (h : Gp.RaIs s t c) : c = 0 ∨ c = 12 := by
  rcases h with ⟨_, _, _, h⟩ | ⟨_, _, h⟩
  · exact Or.inl h
  · exact Or.inr h
theorem dec_code {s : ByteArray} {t c : Int} (h : Gp.DecIs s t c) : c = 0 ∨ c = 12 := by
  rcases h with ⟨_, _, h⟩ | ⟨_, _, h⟩
  · exact Or.inl h
  · exact Or.inr h
theorem OY.call {w0 w w' : World} {b : Nat} {o : Ob} (h : OY w0 b o w) (hb : Below w.heap.size w w') : OY w0 b o w' := ⟨h.res.call hb, h.hb, Nat.lt_of_lt_of_le h.lt hb.size, rangeAt_below h.row hb h.lt, there_below h.th hb h.lt⟩
theorem OY.set {w0 w : World} {b : Nat} {o : Ob} (h : OY w0 b o w) (i : Nat) (v : Value) (o' : Ob) (_hi : i < 8) (e : obsC o' = (obsC o).set i v) : OY w0 b o' (w.setCell ⟨b, i, none⟩ v) := by
  have hw0 : w0.heap.size ≠ b := Nat.ne_of_lt h.hb
  have out := World.cell?_setCells_out b [v] i w
  have inn := World.cell?_setCells_in b [v] i w (fun j hj => by
    have hj : j < 1 := hj
    have := (h.th (i + j) (by omega)).1
    rwa [Nat.zero_add] at this)
  have ew : w.setCells b i [v] = w.setCell ⟨b, i, none⟩ v := rfl
  have fz : ∀ p, (w.setCell ⟨b, i, none⟩ v).frozen? p = w.frozen? p := fun p => by rw [← ew, World.frozen?_setCells]
  rw [ew] at out inn
  refine ⟨⟨?_, ?_, ?_⟩, h.hb, ?_, ?_, ?_⟩
  · exact h.res.below.setCell (p := ⟨b, i, none⟩) (Nat.le_of_lt h.hb) v
  · have := sets_size b [v] i w
    rw [ew] at this
    rw [this]; exact h.res.lt
  · intro j hj
    rw [fz, out _ (fun e => absurd e hw0)]
    exact h.res.th j hj
  · have := sets_size b [v] i w
    rw [ew] at this
    rw [this]; exact h.lt
  · intro j x hx
    rw [e] at hx
    rw [Nat.zero_add]
    by_cases hj : j = i
    · subst hj
      have hl : j < (obsC o).length := _hi
      rw [List.getElem?_set_self hl] at hx
      have := inn 0 (by show 0 < 1; omega)
      rw [Nat.add_zero] at this
      rw [this]; exact hx
    · rw [List.getElem?_set_ne (fun h => hj h.symm)] at hx
      rw [out _ (fun _ _ => by show j < i ∨ i + 1 ≤ j; omega)]
      have := h.row j x hx
      rwa [Nat.zero_add] at this
  · intro j hj
    refine ⟨?_, by rw [fz]; exact (h.th j hj).2⟩
    rw [Nat.zero_add]
    by_cases hj2 : j = i
    · subst hj2
      have := inn 0 (by show 0 < 1; omega)
      rw [Nat.add_zero] at this
      rw [this]; rfl
    · rw [out _ (fun _ _ => by show j < i ∨ i + 1 ≤ j; omega)]
      have := (h.th j hj).1
      rwa [Nat.zero_add] at this
end Ow
end Go.Proofs.YtafeigpmldgifaaDoor
/-
  Plain law of observations: the line of an observation is read as the rounded observation; rounding again changes nothing; no walk here.
-/
namespace Go.Proofs.YtafeigpmldgifaaDoor
namespace Op
open Go.RowKit Lw Go.Proofs.YtafeigpmldgifaaDoor.Ap Go.Proofs.YtafeigpmldgifaaDoor.Mp Go.Proofs.YtafeigpmldgifaaDoor.At Go.Proofs.YtafeigpmldgifaaDoor.Ow Go.Proofs.YtafeigpmldgifaaDoor.Mw

theorem line_seg {day : ByteArray} {o : Ob} (ok : okO o) (hd : DayIs o.t 6 day 0) : ∃ n1 n2, NameIs n1 n2 o.name ∧
    Seg ⟨(lineL day o).toArray⟩ n1 n2 [32, 32] day.data.toList (Gt.raL o.ra 3) (Gt.decL o.dec 2) (magF o.mag o.band) o.site.data.toList := by
  obtain ⟨_, hn, hs, _, _, _, d0, d1, _, _, hm⟩ := ok
  obtain ⟨n1, n2, e, l1, l2, hN⟩ := name_split hn
  refine ⟨n1, n2, hN, ?_, l1, l2, rfl, day_len17 hd, ra_len _, dec_len d0 d1, ?_, by rw [← size_L]; exact hs⟩
  · rw [toL_mk]
    unfold lineL rowL
    rw [e]
    simp only [List.append_assoc]
  · unfold magF
    by_cases c : o.mag = 9999
    · rw [if_pos c, spL_len]
    · rw [if_neg c, List.length_append]
      rcases hm with ⟨h, _⟩ | ⟨h1, h2, _⟩
      · exact absurd h c
      · rw [magL_len (by omega) (by omega)]; rfl
/-- The rounded observation. -/
structure Rnd (day : ByteArray) (o r : Ob) : Prop where
  name : r.name = o.name
  site : r.site = o.site
  mag : r.mag = o.mag
  band : r.band = o.band
  sg : r.sg = 100000
  le : r.t ≤ o.t
  near : o.t - r.t < 100000
  pday : PDayIs day r.t 0
  day : DayIs r.t 6 day 0
  pra : Gp.RaIs ⟨(Gt.raL o.ra 3).toArray⟩ r.ra 0
  ra : Gt.raL r.ra 3 = Gt.raL o.ra 3
  ra0 : 0 ≤ r.ra
  ra1 : r.ra < 1296000000000
  dif1 : 2 * Pl.dif r.ra o.ra ≤ 15000
  dif2 : -15000 ≤ 2 * Pl.dif r.ra o.ra
  pdec : Gp.DecIs ⟨(Gt.decL o.dec 2).toArray⟩ r.dec 0
  dec0 : -324000000000 ≤ r.dec
  dec1 : r.dec ≤ 324000000000
  dd1 : r.dec - o.dec ≤ 5000
  dd2 : -5000 ≤ r.dec - o.dec
  dec : (o.dec < 0 ∧ r.dec = 0 ∧ Gt.decL o.dec 2 = 45 :: Gt.clockL 0 2) ∨ Gt.decL r.dec 2 = Gt.decL o.dec 2
theorem Rnd.okO {day : ByteArray} {o r : Ob} (h : Rnd day o r) (ok : okO o) : Op.okO r := by
  obtain ⟨_, a2, a3, a4, _, _, _, _, _, _, a9⟩ := ok
  have := h.sg
  exact ⟨day_time h.day, by rw [h.name]; exact a2, by rw [h.site]; exact a3, by rw [h.site]; exact a4, h.ra0, h.ra1, h.dec0, h.dec1, by omega, by omega, by rw [h.mag, h.band]; exact a9⟩
theorem rnd_ex {day : ByteArray} {o : Ob} (ok : okO o) (hd : DayIs o.t 6 day 0) : ∃ r, Rnd day o r := by
  obtain ⟨_, hn, hs, _, _, _, d0, d1, _, _, hm⟩ := ok
  obtain ⟨v, q1, q2, q3, _⟩ := day_parse hd
  obtain ⟨N, n1, n2, n3, n4, n5, n6⟩ := ra_val o.ra
  obtain ⟨c, c1, c2, c3, c4, c5, c6⟩ := dec_valu d0 d1
  exact ⟨⟨o.name, o.site, v, ((N * 15000 : Nat) : Int), c, 100000, o.mag, o.band⟩, rfl, rfl, rfl, rfl, rfl, q2, day_near hd q3 q1 q2, q1, q3, n3, by rw [n2]; exact n4, by simp only; omega, by simp only; omega, n5, n6, c1, c2, c3, c4, c5, c6⟩
theorem band_u8 {m b : Int} (h : magP m b) : 0 ≤ b ∧ b ≤ 255 ∧ ((UInt8.ofNat b.toNat).toNat : Int) = b := by
  have hb : 0 ≤ b ∧ b ≤ 255 := by
    unfold magP ltP at h
    omega
  refine ⟨hb.1, hb.2, ?_⟩
  rw [UInt8.toNat_ofNat', Nat.mod_eq_of_lt (show b.toNat < 2 ^ 8 by omega)]
  omega
theorem line_good {day : ByteArray} {o r : Ob} (ok : okO o) (hd : DayIs o.t 6 day 0) (R : Rnd day o r) : Good ⟨(lineL day o).toArray⟩ r := by
  have okr := R.okO ok
  obtain ⟨n1, n2, hN, G⟩ := line_seg ok hd
  obtain ⟨_, hn, hs, _, _, _, d0, d1, _, _, hm⟩ := ok
  generalize (⟨(lineL day o).toArray⟩ : ByteArray) = s at *
  obtain ⟨x1, r1, s1, m1⟩ := day_split hd
  obtain ⟨x2, r2, s2, m2⟩ := ra_split o.ra
  obtain ⟨x3, r3, s3, m3⟩ := dec_split d0 d1
  have e1 : s.extract 15 32 = day := by rw [G.x15, mk_toL]
  have c1 : cutS (s.extract 15 32) = day := by
    rw [G.x15, s1, show x1 ++ 46 :: decL r1 6 = (x1 ++ [46]) ++ decL r1 (5 + 1) by simp, cut_dec, ← mk_toL day, s1]
    simp
  have c2 : cutS (s.extract 32 44) = ⟨(Gt.raL o.ra 3).toArray⟩ := by
    rw [G.x32, s2, show x2 ++ 46 :: decL r2 3 = (x2 ++ [46]) ++ decL r2 (2 + 1) by simp, cut_dec]
  have c3 : cutS (s.extract 44 56) = ⟨(Gt.decL o.dec 2).toArray⟩ := by
    rw [G.x44, s3, show x3 ++ 46 :: decL r3 2 = (x3 ++ [46]) ++ decL r3 (1 + 1) by simp, cut_dec]
  have p1 : decs (cutS (s.extract 15 32)) = 6 := by
    rw [c1, ← mk_toL day, s1, decs_app m1, decL_len]
  have p2 : decs (cutS (s.extract 32 44)) = 3 := by rw [c2, s2, decs_app m2, decL_len]
  have p3 : decs (cutS (s.extract 44 56)) = 2 := by rw [c3, s3, decs_app m3, decL_len]
  refine ⟨G.size, ⟨G.b12, G.b13, G.b14⟩, by rw [G.x56]; exact blank_sp 9, by rw [G.x71]; exact blank_sp 6, by rw [p1]; omega, by rw [p2]; omega, by rw [p3]; omega, by rw [c1]; exact R.pday, by rw [c2]; exact R.pra, by rw [c3]; exact R.pdec, ?_, ?_, ?_, ?_, okr⟩
  · rw [G.x77, mk_toL]; exact R.site
  · rw [p3, if_neg (by omega), if_neg (by omega)]; exact R.sg
  · rw [G.x0, G.x5, R.name]; exact hN
  · rw [R.mag, R.band]
    obtain ⟨b0, b1, b2⟩ := band_u8 hm
    by_cases c : o.mag = 9999
    · have hb : o.band = 32 := by
        unfold magP at hm
        omega
      refine Or.inl ⟨?_, c, hb⟩
      rw [G.x65]
      unfold magF
      rw [if_pos c]
      exact blank_sp 6
    · have hmm : -500 ≤ o.mag ∧ o.mag ≤ 3000 := by unfold magP at hm; omega
      have eM : magF o.mag o.band = magL o.mag ++ [UInt8.ofNat o.band.toNat] := by unfold magF; rw [if_neg c]
      have eT : (magF o.mag o.band).take 5 = magL o.mag := by
        rw [eM]
        have := magL_len (m := o.mag) (by omega) (by omega)
        rw [← this, List.take_left]
      refine Or.inr ⟨?_, ?_, ?_⟩
      · rw [G.x65]
        intro h
        obtain ⟨a, b, d, e, hl, _⟩ := mag_list hmm.1 hmm.2
        have := h 46 (by rw [toL_mk, eM, hl]; simp)
        exact absurd this (by decide)
      · rw [G.x6570, eT]; exact magL_is hmm.1 hmm.2
      · rw [G.b70 eM, b2]
theorem dec_zero : Gp.DecIs ⟨(Gt.decL 0 2).toArray⟩ 0 0 := by
  obtain ⟨v, h, _, _, _, _⟩ := Gt.dec_back 0 2 (by omega) (by omega) (by omega)
  have h' := h
  obtain ⟨c1, c2, c3⟩ := Gt.clock_reads 0 2 (by omega) (by omega)
  have c4 := c3 10000
  have z : Gt.rndN (0 : Int).natAbs (1000000 / 10 ^ 2) = 0 := by decide
  have hD : Gt.decL 0 2 = 43 :: Gt.clockL 0 2 := by unfold Gt.decL; rw [z]; rfl
  have e : ((10000 * 10 ^ 2 : Nat) : Int) = 1000000 := rfl
  rw [e] at c4
  have : v = 0 := by
    rcases h with ⟨_, h, _⟩ | ⟨_, _, h⟩
    · rw [hD, Gp.get0, Gp.tail_mk, if_neg (by decide), c4] at h
      rw [h]; simp
    · cases h
  rw [this] at h'
  exact h'
/-- Rounding again changes nothing. -/
theorem Rnd.again {day : ByteArray} {o r q : Ob} (h : Rnd day o r) (g : Rnd day r q) : q = r := by
  have e1 := (g.pday.uniq h.pday).1
  have e2 : q.ra = r.ra := by
    have := g.pra
    rw [h.ra] at this
    exact (this.det h.pra).1
  have e3 : q.dec = r.dec := by
    rcases h.dec with ⟨_, z, _⟩ | e
    · have := g.pdec
      rw [z] at this ⊢
      exact (this.det dec_zero).1
    · have := g.pdec
      rw [e] at this
      exact (this.det h.pdec).1
  have e4 := g.name
  have e5 := g.site
  have e6 := g.mag
  have e7 := g.band
  have e8 := g.sg.trans h.sg.symm
  cases q; cases r
  simp only at e1 e2 e3 e4 e5 e6 e7 e8
  rw [e1, e2, e3, e4, e5, e6, e7, e8]
end Op
end Go.Proofs.YtafeigpmldgifaaDoor
/-
  The contracts of package obs: Print, Parse, Round, for any observation and string.
-/
namespace Go.Proofs.YtafeigpmldgifaaDoor
namespace Ow
open Go.RowKit Lw Go.Proofs.YtafeigpmldgifaaDoor.Ap Go.Proofs.YtafeigpmldgifaaDoor.Op Go.Proofs.YtafeigpmldgifaaDoor.Mp Go.Proofs.YtafeigpmldgifaaDoor.Mw Go.Proofs.YtafeigpmldgifaaDoor.At

/-- The bounds of a Go observation. -/
structure OB (o : Ob) : Prop where
  t0 : -9223372036854775808 ≤ o.t
  t1 : o.t ≤ 9223372036854775807
  b0 : 0 ≤ o.band
  b1 : o.band ≤ 255
  n1 : o.name.size ≤ maxLen
  n2 : o.site.size ≤ maxLen
def PrintPost (o : Ob) (w : World) (e : Ending) (w' : World) : Prop := ∃ (s : ByteArray) (c : Int), e = .returned (.tuple #[.string s, .int .i64 c]) ∧ PrintIs o s c ∧ Below w.heap.size w w'
/-- What Round returns. -/
def RoundIs (o q : Ob) (c : Int) : Prop := (∃ s, PrintIs o s 0 ∧ ObsIs s q c) ∨ (¬ okO o ∧ q = zeroO ∧ c = 8)
theorem RoundIs.uniq {o q q' : Ob} {c c' : Int} (a : RoundIs o q c) (b : RoundIs o q' c') : q = q' ∧ c = c' := by
  have ok : ∀ {s}, PrintIs o s 0 → okO o := fun h => by
    rcases h with ⟨h, _⟩ | ⟨_, _, h⟩
    · exact h
    · cases h
  rcases a with ⟨s, a1, a2⟩ | ⟨a1, a2, a3⟩ <;> rcases b with ⟨s', b1, b2⟩ | ⟨b1, b2, b3⟩
  · obtain ⟨rfl, _⟩ := a1.uniq b1
    exact a2.uniq b2
  · exact absurd (ok a1) b1
  · exact absurd (ok b1) a1
  · exact ⟨by rw [a2, b2], by omega⟩
def RoundPost (o : Ob) (w : World) (e : Ending) (w' : World) : Prop := ∃ (q : Ob) (c : Int), e = .returned (.tuple #[obsV q, .int .i64 c]) ∧ RoundIs o q c ∧ Below w.heap.size w w'
/-- The boxes of Round. -/
structure RX (w0 : World) (o : Ob) (w : World) : Prop where
  below : Below w0.heap.size w0 w
  lt : w0.heap.size + 1 < w.heap.size
  row : w.rangeAt w0.heap.size 0 (obsC o)
  th : w.there (w0.heap.size + 1) 0 8
theorem RX.call {w0 w w' : World} {o : Ob} (h : RX w0 o w) (hb : Below w.heap.size w w') : RX w0 o w' :=
  ⟨below_then h.below hb, Nat.lt_of_lt_of_le h.lt hb.size, rangeAt_below h.row hb (by have := h.lt; omega), there_below h.th hb h.lt⟩
theorem print_size {o : Ob} {s : ByteArray} {c : Int} (h : PrintIs o s c) : s.size ≤ 80 := by
  rcases h with ⟨ok, ⟨day, hd, rfl⟩, _⟩ | ⟨_, rfl, _⟩
  · obtain ⟨n1, n2, _, G⟩ := line_seg ok hd
    rw [G.size]; omega
  · decide
end Ow
end Go.Proofs.YtafeigpmldgifaaDoor
/-
  Plain law of lists of observations: what PrintAll, ParseAll say; no walk here.
-/
namespace Go.Proofs.YtafeigpmldgifaaDoor
namespace Op
open Go.RowKit Lw Go.Proofs.YtafeigpmldgifaaDoor.Ap Go.Proofs.YtafeigpmldgifaaDoor.Mp Go.Proofs.YtafeigpmldgifaaDoor.At Go.Proofs.YtafeigpmldgifaaDoor.Ow Go.Proofs.YtafeigpmldgifaaDoor.Mw

def nlS : ByteArray := ⟨#[10]⟩
/-- The error of a list. -/
def allC (l : List Ob) : Int := if 500 < l.length then 4 else if ∀ o ∈ l, okO o then 0 else 8
theorem allC_zero {l : List Ob} (h : l.length ≤ 500) (g : ∀ o ∈ l, okO o) : allC l = 0 := by unfold allC; rw [if_neg (by omega), if_pos g]
theorem allC_many {l : List Ob} (h : 500 < l.length) : allC l = 4 := by unfold allC; rw [if_pos h]
theorem allC_bad {l : List Ob} {i : Nat} (h : l.length ≤ 500) (hi : i < l.length) (g : ¬ okO l[i]) : allC l = 8 := by
  unfold allC; rw [if_neg (by omega), if_neg (fun k => g (k _ (List.getElem_mem hi)))]
theorem allC_ok {l : List Ob} (h : allC l = 0) : l.length ≤ 500 ∧ ∀ o ∈ l, okO o := by
  unfold allC at h
  by_cases c : 500 < l.length
  · rw [if_pos c] at h; cases h
  · rw [if_neg c] at h
    by_cases d : ∀ o ∈ l, okO o
    · exact ⟨by omega, d⟩
    · rw [if_neg d] at h; cases h
/-- The lines of the first k observations. -/
def LinesTo (l : List Ob) : Nat → ByteArray → Prop
  | 0, s => s = ByteArray.empty
  | k + 1, s => ∃ a b o, LinesTo l k a ∧ l[k]? = some o ∧ PrintIs o b 0 ∧ s = a ++ (b ++ nlS)
theorem LinesTo.uniq {l : List Ob} : ∀ {k : Nat} {s s' : ByteArray}, LinesTo l k s → LinesTo l k s' → s = s'
  | 0, _, _, h, h' => h.trans h'.symm
  | _ + 1, _, _, ⟨_, _, _, h1, h2, h3, h4⟩, ⟨_, _, _, g1, g2, g3, g4⟩ => by
    obtain rfl := LinesTo.uniq h1 g1
    obtain rfl := Option.some.inj (h2.symm.trans g2)
    obtain ⟨rfl, _⟩ := h3.uniq g3
    rw [h4, g4]
theorem print0_size {o : Ob} {s : ByteArray} (h : PrintIs o s 0) : s.size = 80 := by
  rcases h with ⟨ok, ⟨day, hd, rfl⟩, _⟩ | ⟨_, _, h⟩
  · obtain ⟨n1, n2, _, G⟩ := line_seg ok hd
    rw [G.size]
  · cases h
theorem LinesTo.size {l : List Ob} : ∀ {k : Nat} {s : ByteArray}, LinesTo l k s → s.size = 81 * k
  | 0, _, h => by rw [h]; rfl
  | k + 1, _, ⟨_, _, _, h1, _, h3, h4⟩ => by
    rw [h4, ByteArray.size_append, ByteArray.size_append, h1.size, print0_size h3, show nlS.size = 1 from rfl]; omega
/-- What PrintAll returns. -/
def PrintAllIs (l : List Ob) (s : ByteArray) (c : Int) : Prop := (allC l = 0 ∧ LinesTo l l.length s ∧ c = 0) ∨ (allC l ≠ 0 ∧ s = ByteArray.empty ∧ c = allC l)
theorem PrintAllIs.uniq {l : List Ob} {s s' : ByteArray} {c c' : Int} (a : PrintAllIs l s c) (b : PrintAllIs l s' c') : s = s' ∧ c = c' := by
  rcases a with ⟨a1, a2, a3⟩ | ⟨a1, a2, a3⟩ <;> rcases b with ⟨b1, b2, b3⟩ | ⟨b1, b2, b3⟩
  · exact ⟨a2.uniq b2, by omega⟩
  · exact absurd a1 b1
  · exact absurd b1 a1
  · exact ⟨by rw [a2, b2], by omega⟩
/-- A line of a file. -/
def StepAt (s : ByteArray) (k : Nat) (o : Ob) : Prop := 81 * k + 81 ≤ s.size ∧ Good (s.extract (81 * k) (81 * k + 80)) o ∧ bt s (81 * k + 80) = 10
/-- The first k lines are read. -/
def PartTo (s : ByteArray) : Nat → List Ob → Prop
  | 0, l => l = []
  | k + 1, l => ∃ l' o, PartTo s k l' ∧ StepAt s k o ∧ l = l' ++ [o]
theorem PartTo.uniq {s : ByteArray} : ∀ {k : Nat} {l l' : List Ob}, PartTo s k l → PartTo s k l' → l = l'
  | 0, _, _, h, h' => h.trans h'.symm
  | _ + 1, _, _, ⟨_, _, h1, h2, h3⟩, ⟨_, _, g1, g2, g3⟩ => by
    obtain rfl := PartTo.uniq h1 g1
    obtain rfl := h2.2.1.uniq g2.2.1
    rw [h3, g3]
theorem PartTo.len {s : ByteArray} : ∀ {k : Nat} {l : List Ob}, PartTo s k l → l.length = k ∧ 81 * k ≤ s.size
  | 0, _, h => by rw [h]; exact ⟨rfl, by omega⟩
  | k + 1, _, ⟨_, _, h1, h2, h3⟩ => by
    obtain ⟨e1, e2⟩ := h1.len
    rw [h3]
    refine ⟨by simp [e1], ?_⟩
    have := h2.1
    omega
theorem PartTo.step {s : ByteArray} : ∀ {k : Nat} {l : List Ob}, PartTo s k l → ∀ j, j < k → ∃ o, StepAt s j o
  | 0, _, _, j, hj => by omega
  | k + 1, _, ⟨_, o, h1, h2, _⟩, j, hj => by
    by_cases e : j = k
    · subst e; exact ⟨o, h2⟩
    · exact h1.step j (by omega)
/-- What ParseAll returns. -/
def ParseAllIs (s : ByteArray) (l : List Ob) (c : Int) : Prop := ∃ k l', PartTo s k l' ∧
  ((81 * k = s.size ∧ k ≤ 500 ∧ l = l' ∧ c = 0) ∨ (81 * k = s.size ∧ 500 < k ∧ l = [] ∧ c = 4) ∨ (81 * k < s.size ∧ (∀ o, ¬ StepAt s k o) ∧ l = [] ∧ c = 12))
theorem ParseAllIs.uniq {s : ByteArray} {l l' : List Ob} {c c' : Int} (a : ParseAllIs s l c) (b : ParseAllIs s l' c') : l = l' ∧ c = c' := by
  obtain ⟨k, m, a1, a2⟩ := a
  obtain ⟨k', m', b1, b2⟩ := b
  have e : k = k' := by
    rcases Nat.lt_trichotomy k k' with h | h | h
    · obtain ⟨o, ho⟩ := b1.step k h
      have := b1.len.2
      have := ho.1
      rcases a2 with ⟨e, _⟩ | ⟨e, _⟩ | ⟨_, e, _⟩
      · omega
      · omega
      · exact absurd ho (e o)
    · exact h
    · obtain ⟨o, ho⟩ := a1.step k' h
      have := a1.len.2
      have := ho.1
      rcases b2 with ⟨e, _⟩ | ⟨e, _⟩ | ⟨_, e, _⟩
      · omega
      · omega
      · exact absurd ho (e o)
  subst e
  obtain rfl := a1.uniq b1
  rcases a2 with ⟨a3, a4, a5, a6⟩ | ⟨a3, a4, a5, a6⟩ | ⟨a3, a4, a5, a6⟩ <;> rcases b2 with ⟨b3, b4, b5, b6⟩ | ⟨b3, b4, b5, b6⟩ | ⟨b3, b4, b5, b6⟩
  · exact ⟨a5.trans b5.symm, by omega⟩
  · omega
  · omega
  · omega
  · exact ⟨a5.trans b5.symm, by omega⟩
  · omega
  · omega
  · omega
  · exact ⟨a5.trans b5.symm, by omega⟩
end Op
end Go.Proofs.YtafeigpmldgifaaDoor
/-
  The walk of Great of the reference of observations.
-/
namespace Go.Proofs.YtafeigpmldgifaaDoor
namespace Ow
open Go.RowKit Lw Go.Proofs.YtafeigpmldgifaaDoor.Ap Go.Proofs.YtafeigpmldgifaaDoor.Op Go.Proofs.YtafeigpmldgifaaDoor.Mp Go.Proofs.YtafeigpmldgifaaDoor.Mw

/-- Observations in a row of memory. -/
def ObsAt (w : World) (b off : Nat) (l : List Ob) : Prop := ∀ i (h : i < l.length), w.rangeAt b (off + i * 8) (obsC (l[i]'h))
theorem ObsAt.below {w w' : World} {b off : Nat} {l : List Ob} (h : ObsAt w b off l) (hb : Below w.heap.size w w') (lt : b < w.heap.size) : ObsAt w' b off l := fun i hi => rangeAt_below (h i hi) hb lt
/-- An observation with long names. -/
def longP (o : Ob) : Prop := 100 < o.name.size ∨ 100 < o.site.size
instance (o : Ob) : Decidable (longP o) := by unfold longP; infer_instance
def greatB (l : List Ob) (most : Int) : Bool := decide ((∃ o ∈ l, longP o) ∨ (most < l.length ∧ (l.length : Int) ≤ 500) ∨ 510 < (l.length : Int))
theorem great_yes {l : List Ob} {most : Int} {i : Nat} (h : i < l.length) (g : longP l[i]) : greatB l most = true := decide_eq_true (Or.inl ⟨_, List.getElem_mem h, g⟩)
theorem great_no {l : List Ob} {most : Int} (h : ∀ i (hi : i < l.length), ¬ longP (l[i]'hi)) : greatB l most = decide ((most < l.length ∧ (l.length : Int) ≤ 500) ∨ 510 < (l.length : Int)) := by
  refine decide_eq_decide.2 ⟨fun g => ?_, fun g => Or.inr g⟩
  rcases g with ⟨o, ho, g⟩ | g
  · obtain ⟨i, hi, rfl⟩ := List.getElem_of_mem ho
    exact absurd g (h i hi)
  · exact g
end Ow
end Go.Proofs.YtafeigpmldgifaaDoor
/-
  An observation in a box: what stays at calls, and at stores into its cells.
-/
namespace Go.Proofs.YtafeigpmldgifaaDoor
namespace Ow
open Go.RowKit Lw Go.Proofs.YtafeigpmldgifaaDoor.Ap Go.Proofs.YtafeigpmldgifaaDoor.Op Go.Proofs.YtafeigpmldgifaaDoor.Mp Go.Proofs.YtafeigpmldgifaaDoor.Mw

structure Box (b : Nat) (o : Ob) (w : World) : Prop where
  lt : b < w.heap.size
  row : w.rangeAt b 0 (obsC o)
  th : w.there b 0 8
theorem Box.call {w w' : World} {b : Nat} {o : Ob} (h : Box b o w) (hb : Below w.heap.size w w') : Box b o w' := ⟨Nat.lt_of_lt_of_le h.lt hb.size, rangeAt_below h.row hb h.lt, there_below h.th hb h.lt⟩
theorem Box.set {w : World} {b : Nat} {o : Ob} (h : Box b o w) (i : Nat) (v : Value) (o' : Ob) (_hi : i < 8) (e : obsC o' = (obsC o).set i v) : Box b o' (w.setCell ⟨b, i, none⟩ v) := by
  have out := World.cell?_setCells_out b [v] i w
  have inn := World.cell?_setCells_in b [v] i w (fun j hj => by
    have hj : j < 1 := hj
    have := (h.th (i + j) (by omega)).1
    rwa [Nat.zero_add] at this)
  have ew : w.setCells b i [v] = w.setCell ⟨b, i, none⟩ v := rfl
  have fz : ∀ p, (w.setCell ⟨b, i, none⟩ v).frozen? p = w.frozen? p := fun p => by rw [← ew, World.frozen?_setCells]
  rw [ew] at out inn
  refine ⟨?_, ?_, ?_⟩
  · have := sets_size b [v] i w
    rw [ew] at this
    rw [this]; exact h.lt
  · intro j x hx
    rw [e] at hx
    rw [Nat.zero_add]
    by_cases hj : j = i
    · subst hj
      have hl : j < (obsC o).length := _hi
      rw [List.getElem?_set_self hl] at hx
      have := inn 0 (by show 0 < 1; omega)
      rw [Nat.add_zero] at this
      rw [this]; exact hx
    · rw [List.getElem?_set_ne (fun h => hj h.symm)] at hx
      rw [out _ (fun _ _ => by show j < i ∨ i + 1 ≤ j; omega)]
      have := h.row j x hx
      rwa [Nat.zero_add] at this
  · intro j hj
    refine ⟨?_, by rw [fz]; exact (h.th j hj).2⟩
    rw [Nat.zero_add]
    by_cases hj2 : j = i
    · subst hj2
      have := inn 0 (by show 0 < 1; omega)
      rw [Nat.add_zero] at this
      rw [this]; rfl
    · rw [out _ (fun _ _ => by show j < i ∨ i + 1 ≤ j; omega)]
      have := (h.th j hj).1
      rwa [Nat.zero_add] at this
theorem Box.apart {w : World} {b c : Nat} {o : Ob} (h : Box b o w) (hc : b ≠ c) (i : Nat) (v : Value) : Box b o (w.setCell ⟨c, i, none⟩ v) := by
  have out := World.cell?_setCells_out c [v] i w
  have ew : w.setCells c i [v] = w.setCell ⟨c, i, none⟩ v := rfl
  have fz : ∀ p, (w.setCell ⟨c, i, none⟩ v).frozen? p = w.frozen? p := fun p => by rw [← ew, World.frozen?_setCells]
  rw [ew] at out
  refine ⟨?_, ?_, ?_⟩
  · have := sets_size c [v] i w
    rw [ew] at this
    rw [this]; exact h.lt
  · intro j x hx
    rw [out _ (fun e => absurd e hc)]
    exact h.row j x hx
  · intro j hj
    rw [fz, out _ (fun e => absurd e hc)]
    exact h.th j hj
theorem OX.apart {w0 w : World} {b c : Nat} {o : Ob} (h : OX w0 b o w) (hc : b ≠ c) (h0 : w0.heap.size ≤ c) (i : Nat) (v : Value) : OX w0 b o (w.setCell ⟨c, i, none⟩ v) := by
  have out := World.cell?_setCells_out c [v] i w
  have ew : w.setCells c i [v] = w.setCell ⟨c, i, none⟩ v := rfl
  rw [ew] at out
  refine ⟨h.below.setCell (p := ⟨c, i, none⟩) h0 v, ?_, ?_⟩
  · have := sets_size c [v] i w
    rw [ew] at this
    rw [this]; exact h.lt
  · intro j x hx
    rw [out _ (fun e => absurd e hc)]
    exact h.row j x hx
theorem OX.draws {w0 w : World} {b : Nat} {o : Ob} (h : OX w0 b o w) (n : Nat) : OX w0 b o (w.drewN n) := h.call (drewN_below2 (Below.refl _ _) n)
theorem Box.draws {w : World} {b : Nat} {o : Ob} (h : Box b o w) (n : Nat) : Box b o (w.drewN n) := h.call (drewN_below2 (Below.refl _ _) n)
end Ow
end Go.Proofs.YtafeigpmldgifaaDoor
/-
  The walk of Check of the reference of observations.
-/
namespace Go.Proofs.YtafeigpmldgifaaDoor
namespace Ow
open Go.RowKit Lw Go.Proofs.YtafeigpmldgifaaDoor.Ap Go.Proofs.YtafeigpmldgifaaDoor.Op Go.Proofs.YtafeigpmldgifaaDoor.Mp Go.Proofs.YtafeigpmldgifaaDoor.Mw

end Ow
end Go.Proofs.YtafeigpmldgifaaDoor
/-
  Slices of observations; the walks of checkAll of obs, and of All, Same of the reference.
-/
namespace Go.Proofs.YtafeigpmldgifaaDoor
namespace Ow
open Go.RowKit Lw Go.Proofs.YtafeigpmldgifaaDoor.Ap Go.Proofs.YtafeigpmldgifaaDoor.Op Go.Proofs.YtafeigpmldgifaaDoor.Mp Go.Proofs.YtafeigpmldgifaaDoor.Mw Go.Proofs.YtafeigpmldgifaaDoor.At

/-- A slice's address, and the observations that it holds. -/
def SlA (w : World) (x : Option Addr) (l : List Ob) : Prop := l = [] ∨ ∃ b off, x = some ⟨b, off, none⟩ ∧ b < w.heap.size ∧ ObsAt w b off l
theorem SlA.below {w w' : World} {x : Option Addr} {l : List Ob} (h : SlA w x l) (hb : Below w.heap.size w w') : SlA w' x l := by
  rcases h with h | ⟨b, off, h1, h2, h3⟩
  · exact Or.inl h
  · exact Or.inr ⟨b, off, h1, Nat.lt_of_lt_of_le h2 hb.size, h3.below hb h2⟩
theorem SlA.get {w : World} {x : Option Addr} {l : List Ob} (h : SlA w x l) {i : Nat} (hi : i < l.length) : ∃ b off, x = some ⟨b, off, none⟩ ∧ b < w.heap.size ∧ ObsAt w b off l := by
  rcases h with rfl | h
  · simp at hi
  · exact h
/-- The bounds of a list. -/
def OBs (l : List Ob) : Prop := ∀ i (h : i < l.length), OB (l[i]'h)
end Ow
end Go.Proofs.YtafeigpmldgifaaDoor
/-
  The walks of the reference's texts of angles at the digits of a line: digitsOf, sexagesimal, RaText, DecText.
-/
namespace Go.Proofs.YtafeigpmldgifaaDoor
namespace Ow
open Go.RowKit Lw Go.Proofs.YtafeigpmldgifaaDoor.Ap Go.Proofs.YtafeigpmldgifaaDoor.Op Go.Proofs.YtafeigpmldgifaaDoor.Mp Go.Proofs.YtafeigpmldgifaaDoor.Mw Go.Proofs.YtafeigpmldgifaaDoor.At

theorem ten_mono {k : Nat} (h : k ≤ 12) : 10 ^ k ≤ 1000000000000 := Nat.pow_le_pow_right (n := 10) (by omega) h
theorem cat6 (A B C D : ByteArray) (F : List UInt8) {L : List UInt8} (h : A.data.toList ++ ([32] ++ (B.data.toList ++ ([32] ++ (C.data.toList ++ (46 :: D.data.toList))))) = L) :
    (((((A ++ (⟨#[32]⟩ : ByteArray)) ++ B) ++ (⟨#[32]⟩ : ByteArray)) ++ C) ++ (⟨#[46]⟩ : ByteArray)) ++ D = ⟨L.toArray⟩ := by
  apply toL_inj
  rw [← h]
  simp [ByteArray.data_append]
end Ow
end Go.Proofs.YtafeigpmldgifaaDoor
/-
  The walk of line of the reference of observations.
-/
namespace Go.Proofs.YtafeigpmldgifaaDoor
namespace Ow
open Go.RowKit Lw Go.Proofs.YtafeigpmldgifaaDoor.Ap Go.Proofs.YtafeigpmldgifaaDoor.Op Go.Proofs.YtafeigpmldgifaaDoor.Mp Go.Proofs.YtafeigpmldgifaaDoor.Mw Go.Proofs.YtafeigpmldgifaaDoor.At

theorem str_of (X : ByteArray) : X = ⟨X.data.toList.toArray⟩ := toL_inj rfl
/-- The name as the reference writes it. -/
def nmS (s : ByteArray) : List UInt8 := if numbP s then s.data.toList else spL 5 ++ s.data.toList
theorem nmS_len {s : ByteArray} (h : nameP s) : (nmS s).length ≤ 12 := by
  unfold nmS
  by_cases c : numbP s
  · rw [if_pos c, ← size_L]; have := c.1; omega
  · rw [if_neg c, List.length_append, spL_len, ← size_L]
    rcases h with h | ⟨_, h, _⟩
    · exact absurd h c
    · omega
theorem nmS_fill {s : ByteArray} (h : nameP s) : nmS s ++ spL (14 - (nmS s).length) = nameF s := by
  unfold nmS nameF
  by_cases c : numbP s
  · rw [if_pos c, if_pos c, ← size_L, c.1]
  · rw [if_neg c, if_neg c, List.length_append, spL_len, ← size_L]
    congr 2
    omega
theorem fill_56 {L : List UInt8} {k n : Nat} (h : L.length = k) : L ++ spL (n - L.length) = L ++ spL (n - k) := by rw [h]
/-- A magnitude and its band, or nothing. -/
def mgS (m b : Int) : List UInt8 := if m = 9999 then [] else magL m ++ [UInt8.ofNat b.toNat]
theorem tail_of (A : List UInt8) (m b : Int) (hA : A.length = 65) (hm : m ≠ 9999 → (magL m).length = 5) : (A ++ mgS m b) ++ spL (77 - (A ++ mgS m b).length) = A ++ (magF m b ++ spL 6) := by
  unfold mgS magF
  by_cases h : m = 9999
  · rw [if_pos h, if_pos h, List.append_nil, hA, ← spL_add]
  · rw [if_neg h, if_neg h, List.length_append, List.length_append, hA, hm h, List.append_assoc]
    rfl
theorem ox_drawn {w0 w : World} {b : Nat} {o : Ob} (h : OX w0 b o w) : OX w0 b o w.drew := h.call (Below.refl _ _).drew
/-- The same with the cells that are read. -/
abbrev LS (w0 : World) (b : Nat) (o : Ob) (w : World) : Prop := w.cell? ⟨b, 6, none⟩ = some (.int .i64 o.mag) ∧ w.cell? ⟨b, 7, none⟩ = some (.int .u8 o.band) ∧ OX w0 b o w
theorem OX.ls {w0 w : World} {b : Nat} {o : Ob} (h : OX w0 b o w) : LS w0 b o w := by
  have a := h.row 6 _ rfl
  have c := h.row 7 _ rfl
  rw [Nat.zero_add] at a c
  exact ⟨a, c, h⟩
theorem one_u8 (u : UInt8) (W : World) (b : Nat) (h : W.cell? ⟨b, 0, none⟩ = some (.int .u8 (u.toNat : Int))) : (convert 58 9 (.slice (some ⟨b, 0, none⟩) 1 1)).run Tryd.prog W = .ok (.string ⟨#[u]⟩) W :=
  run_convert_bytes_back (P := Tryd.prog) W 58 9 5 ⟨b, 0, none⟩ 1 [u] Tryd.underlying58 Tryd.underlying5 Tryd.underlying9 (fun j hj => by
    have hj : j < 1 := hj
    obtain rfl : j = 0 := by omega
    rw [Addr.add_mid, h]
    rfl)
end Ow
end Go.Proofs.YtafeigpmldgifaaDoor
