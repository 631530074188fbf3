/-
  A text of degrees is read as its angle.
-/
import Derived.Test.YtmafjoboikbnnaaDoorBPl2
import Derived.Test.YtmafjoboikbnnaaDoorTAlive
import Derived.Test.YtmafjoboikbnnaaDoorPCut
namespace Go.Proofs.YtmafjoboikbnnaaDoor
namespace At
open Go.RowKit Lw Ap

theorem dig_no (n : Nat) (h : n < 10) : noPt (UInt8.ofNat (48 + n)) = true := decide_eq_true (by rw [u8_of n h]; omega)
/-- The digits of a number below a hundred. -/
theorem dd_small (D : Nat) (h : D < 100) : ∃ (x : UInt8) (l : List UInt8), Lib.itoa (D : Int) = x :: l ∧ l.length ≤ 1 ∧ (∀ c ∈ x :: l, noPt c = true) ∧ ¬ ((x.toNat : Nat) : Int) = 45 ∧ ((x :: l).length ≤ 1 ∨ ¬ ((x.toNat : Nat) : Int) = 48) := by
  by_cases g : D < 10
  · refine ⟨_, [], itoa_one D g, by simp, fun c hc => ?_, by rw [u8_of D g]; omega, Or.inl (by simp)⟩
    rw [List.mem_singleton.1 hc]
    exact dig_no D g
  · refine ⟨_, _, itoa_two D g h, by simp, fun c hc => ?_, by rw [u8_of (D / 10) (by omega)]; omega, Or.inr (by rw [u8_of (D / 10) (by omega)]; omega)⟩
    rcases List.mem_cons.1 hc with rfl | hc
    · exact dig_no _ (by omega)
    · rw [List.mem_singleton.1 hc]
      exact dig_no _ (by omega)
theorem tw_app (l r : List UInt8) (h : ∀ c ∈ l, noPt c = true) : ((l ++ 46 :: r).takeWhile noPt) = l := by
  induction l with
  | nil => rfl
  | cons a l ih =>
    rw [List.cons_append, List.takeWhile_cons, if_pos (h a (by simp)), ih (fun c hc => h c (by simp [hc]))]
/-- A text of degrees, without its sign. -/
theorem degB_reads (neg : Bool) (N d : Nat) (h1 : 1 ≤ d) (hd : d ≤ 9) (hN : N / 10 ^ d < 100) (hneg : neg = true → 0 < N) :
    DegT neg ⟨(degB N d).toArray⟩ (ptOf ⟨(degB N d).toArray⟩) (sgnI neg (((N / 10 ^ d : Nat) : Int) * 3600000000 + fracI ((N % 10 ^ d : Nat) : Int) d)) 0 ∧ ∃ x l, degB N d = x :: l ∧ ¬ ((x.toNat : Nat) : Int) = 45 := by
  have hp : 1 ≤ 10 ^ d := Nat.pow_pos (by omega)
  have hr := Nat.mod_lt N hp
  have hdm := Nat.div_add_mod N (10 ^ d)
  obtain ⟨x, l, e, ll, hno, h45, h48⟩ := dd_small (N / 10 ^ d) hN
  have nD := itoa_num (N / 10 ^ d)
  have nF := pad_num (N % 10 ^ d) d
  have lF := pad_size (N % 10 ^ d) d h1 hr
  have K : degB N d = (x :: l) ++ 46 :: padL ((N % 10 ^ d : Nat) : Int) d := by unfold degB; rw [e]
  obtain ⟨D, eD⟩ : ∃ D, N / 10 ^ d = D := ⟨_, rfl⟩
  obtain ⟨F, eF⟩ : ∃ F, N % 10 ^ d = F := ⟨_, rfl⟩
  rw [eF] at nF lF K hr hdm
  rw [eD] at nD e hN hdm
  rw [eD, eF]
  rw [e] at nD
  generalize padL (F : Int) d = q at *
  have hl : (x :: l).length = l.length + 1 := rfl
  have pt : ptOf ⟨(degB N d).toArray⟩ = l.length + 1 := by
    show (((⟨(degB N d).toArray⟩ : ByteArray).data.toList).takeWhile noPt).length = _
    rw [mk_list, K, tw_app _ _ hno]; rfl
  have sz : (⟨(degB N d).toArray⟩ : ByteArray).size = l.length + 1 + 1 + d := by rw [size_mk, K]; simp only [List.length_append, List.length_cons, lF]; omega
  have hD : degD ⟨(degB N d).toArray⟩ (l.length + 1) = D := by
    unfold degD
    have : ((⟨(degB N d).toArray⟩ : ByteArray).extract 0 (l.length + 1)).data.toList = x :: l := by
      have e1 : ((⟨(degB N d).toArray⟩ : ByteArray).extract 0 (l.length + 1)).data.toList = ((⟨(degB N d).toArray⟩ : ByteArray).data.toList).take (l.length + 1) := by simp
      rw [e1, mk_list, K, List.take_append_of_le_length (by simp)]
      exact List.take_of_length_le (by simp)
    rw [this]
    unfold numV
    rw [if_pos nD.2, nD.1]
  have hF : degF ⟨(degB N d).toArray⟩ (l.length + 1) = F := by
    unfold degF
    rw [Lib.extract_to_end, mk_list, K]
    have e1 : ((x :: l) ++ 46 :: q).drop (l.length + 1 + 1) = q := by simp
    rw [e1, nF]
  have g0 : ∀ (y : UInt8) (r : List UInt8), degB N d = y :: r → (⟨(degB N d).toArray⟩ : ByteArray).get! 0 = y := fun y r h => by rw [h, get0]
  have gx := g0 x (l ++ 46 :: q) (by rw [K]; rfl)
  refine ⟨?_, x, l ++ 46 :: q, by rw [K]; rfl, h45⟩
  rw [pt]
  refine Or.inl ⟨⟨by omega, by omega, by omega, by omega, ?_⟩, ?_, ?_, rfl⟩
  · rw [gx]
    rcases h48 with h | h
    · exact Or.inl (by omega)
    · exact Or.inr h
  · rw [hD, hF]
    refine ⟨by omega, by omega, by omega, Or.inl (by omega), ?_⟩
    cases neg with
    | false => exact Or.inl rfl
    | true =>
      have := hneg rfl
      by_cases z : D = 0
      · refine Or.inr (Or.inr ?_)
        rw [z, Nat.mul_zero] at hdm
        omega
      · exact Or.inr (Or.inl (by omega))
  · rw [hD, hF, sz, show l.length + 1 + 1 + d - (l.length + 1 + 1) = d by omega]
theorem wide_8 : ∀ d : Nat, d ≤ 8 → 3600000000 / 10 ^ d * 10 ^ d = 3600000000 ∧ 1 ≤ 3600000000 / 10 ^ d := by decide
/-- The size of the angle of a text of degrees. -/
theorem deg_size (m d : Nat) (h1 : 1 ≤ d) (hd : d ≤ 9) (hm : m ≤ 324000000000) : degN m d / 10 ^ d < 100 ∧
    ∃ V : Int, ((degN m d / 10 ^ d : Nat) : Int) * 3600000000 + fracI ((degN m d % 10 ^ d : Nat) : Int) d = V ∧ 0 ≤ V ∧ V ≤ 324000000010 ∧ 2 * (V - m) ≤ ((3600000000 / 10 ^ d : Nat) : Int) + 2 ∧ -((3600000000 / 10 ^ d : Nat) : Int) - 2 ≤ 2 * (V - m) ∧ (degN m d = 0 → V = 0) := by
  have hp : 1 ≤ 10 ^ d := Nat.pow_pos (by omega)
  by_cases h8 : d ≤ 8
  · obtain ⟨hu, u1⟩ := wide_8 d h8
    have e : degN m d = rndN m (3600000000 / 10 ^ d) := if_neg (by omega)
    have hh := rnd_half m (3600000000 / 10 ^ d) u1
    rw [e, frac_8 _ d h8]
    have tq : (3600000000 : Int) / tenI d = ((3600000000 / 10 ^ d : Nat) : Int) := rfl
    rw [tq]
    generalize 3600000000 / 10 ^ d = u at *
    generalize rndN m u = N at *
    have hdm := Nat.div_add_mod N (10 ^ d)
    have ek : 324000000000 = 90 * 10 ^ d * u := by
      rw [Nat.mul_assoc, Nat.mul_comm (10 ^ d), hu]
    have e2 : ((N * u : Nat) : Int) = (N : Int) * (u : Int) := by simp
    rw [← e2] at hh
    have b1 : N ≤ 90 * 10 ^ d := by
      by_cases g : N ≤ 90 * 10 ^ d
      · exact g
      · exfalso
        have : (90 * 10 ^ d + 1) * u ≤ N * u := Nat.mul_le_mul_right _ (by omega)
        rw [Nat.add_mul, ← ek] at this
        omega
    have b2 : N * u ≤ 324000000000 := by rw [ek]; exact Nat.mul_le_mul_right _ b1
    have b3 : N / 10 ^ d ≤ 90 := Nat.div_le_of_le_mul (by rw [Nat.mul_comm]; exact b1)
    refine ⟨by omega, ((N * u : Nat) : Int), ?_, by omega, by omega, by omega, by omega, fun z => by rw [z]; simp⟩
    generalize N / 10 ^ d = D at *
    generalize N % 10 ^ d = F at *
    have : (N * u : Nat) = D * 3600000000 + F * u := by
      rw [← hdm, Nat.add_mul, ← hu, Nat.mul_comm (10 ^ d) D, Nat.mul_assoc, Nat.mul_comm (10 ^ d) u]
    rw [this]
    simp
  · obtain rfl : d = 9 := by omega
    have e : degN m 9 = rndN (m * 5) 18 := if_pos (by omega)
    have hh := rnd_half (m * 5) 18 (by omega)
    rw [e, frac_9]
    have w3 : (3600000000 / 10 ^ 9 : Nat) = 3 := by decide
    rw [w3]
    generalize rndN (m * 5) 18 = N at *
    have f := rnd_half (N % 10 ^ 9 * 18) 5 (by omega)
    have fe := rndN_eq (N % 10 ^ 9 * 18) 5
    have fc : ((N % 10 ^ 9 : Nat) : Int) * 18 = ((N % 10 ^ 9 * 18 : Nat) : Int) := by simp
    rw [fc]
    have f5 : rndI ((N % 10 ^ 9 * 18 : Nat) : Int) 5 = ((rndN (N % 10 ^ 9 * 18) 5 : Nat) : Int) := fe.symm
    rw [f5]
    generalize hy : rndN (N % 10 ^ 9 * 18) 5 = y at *
    refine ⟨by omega, _, rfl, by omega, by omega, by omega, by omega, fun z => ?_⟩
    rw [z] at hy
    have : rndN (0 % 10 ^ 9 * 18) 5 = 0 := by decide
    rw [this] at hy
    omega
/-- The text of degrees is read. -/
theorem deg_back (c : Int) (d : Nat) (h1 : 1 ≤ d) (hd : d ≤ 9) (c0 : -324000000000 ≤ c) (c1 : c ≤ 324000000000) : ∃ v : Int, DegT (negB ⟨(degL c d).toArray⟩) (bodyOf ⟨(degL c d).toArray⟩) (ptOf (bodyOf ⟨(degL c d).toArray⟩)) v 0 ∧ -324000000010 ≤ v ∧ v ≤ 324000000010 ∧
    2 * (v - c) ≤ ((3600000000 / 10 ^ d : Nat) : Int) + 2 ∧ -((3600000000 / 10 ^ d : Nat) : Int) - 2 ≤ 2 * (v - c) := by
  obtain ⟨m, em⟩ : ∃ m : Nat, c.natAbs = m := ⟨_, rfl⟩
  obtain ⟨s1, V, eV, v0, v1, v2, v3, v4⟩ := deg_size m d h1 hd (by omega)
  unfold degL
  rw [em]
  by_cases g : c < 0 ∧ 0 < degN m d
  · rw [if_pos g]
    obtain ⟨H, x, l, ex, _⟩ := degB_reads true (degN m d) d h1 hd s1 (fun _ => g.2)
    have hn : negP ⟨(45 :: degB (degN m d) d).toArray⟩ := ⟨by rw [size_mk]; simp, by rw [get0]; rfl⟩
    have e1 : negB ⟨(45 :: degB (degN m d) d).toArray⟩ = true := decide_eq_true hn
    have e2 : bodyOf ⟨(45 :: degB (degN m d) d).toArray⟩ = ⟨(degB (degN m d) d).toArray⟩ := by
      have := tail_mk 45 (degB (degN m d) d)
      unfold tailOf at this
      unfold bodyOf
      rw [if_pos hn, this]
    rw [e1, e2]
    rw [eV] at H
    exact ⟨-V, H, by omega, by omega, by omega, by omega⟩
  · rw [if_neg g]
    obtain ⟨H, x, l, ex, h45⟩ := degB_reads false (degN m d) d h1 hd s1 (fun h => by cases h)
    have hn : ¬ negP ⟨(degB (degN m d) d).toArray⟩ := fun h => h45 (by
      have := h.2
      rw [ex, get0] at this
      exact this)
    have e1 : negB ⟨(degB (degN m d) d).toArray⟩ = false := decide_eq_false hn
    have e2 : bodyOf ⟨(degB (degN m d) d).toArray⟩ = ⟨(degB (degN m d) d).toArray⟩ := if_neg hn
    rw [e1, e2]
    rw [eV] at H
    refine ⟨V, H, by omega, by omega, ?_, ?_⟩
    · by_cases z : c < 0
      · have := v4 (by omega)
        omega
      · omega
    · by_cases z : c < 0
      · have := v4 (by omega)
        omega
      · omega
end At
end Go.Proofs.YtmafjoboikbnnaaDoor
