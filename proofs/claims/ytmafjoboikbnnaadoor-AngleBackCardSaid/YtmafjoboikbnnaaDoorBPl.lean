/-
  A text of digits is read as its number.
-/
import Derived.Test.YtmafjoboikbnnaaDoorTRa
import Derived.Test.YtmafjoboikbnnaaDoorPTrim
namespace Go.Proofs.YtmafjoboikbnnaaDoor
namespace At
open Go.RowKit Lw Ap

theorem u8_of (n : Nat) (h : n < 10) : (((UInt8.ofNat (48 + n)).toNat : Nat) : Int) = 48 + n := by
  rw [UInt8.toNat_ofNat']
  omega
theorem dd_num (u : Nat) : numL (Lib.decDigits u) = u ∧ allD (Lib.decDigits u) := by
  induction u using Nat.strongRecOn with
  | _ u ih =>
    by_cases h : u < 10
    · rw [Lib.decDigits_one h]
      have e := u8_of u h
      refine ⟨by unfold numL; simp only [List.foldl_cons, List.foldl_nil]; omega, fun c hc => ?_⟩
      rw [List.mem_singleton.1 hc]
      omega
    · rw [Lib.decDigits, dif_neg h]
      obtain ⟨h1, h2⟩ := ih (u / 10) (by omega)
      have e := u8_of (u % 10) (Nat.mod_lt _ (by omega))
      exact ⟨by rw [numL_snoc, h1]; omega, allD_snoc h2 (by omega) (by omega)⟩
theorem itoa_num (r : Nat) : numL (Lib.itoa (r : Int)) = r ∧ allD (Lib.itoa (r : Int)) := by
  unfold Lib.itoa
  rw [if_neg (by omega), Int.toNat_natCast]
  exact dd_num r
theorem rep_num (k : Nat) : numL (Lib.repeatL [48] k) = 0 ∧ allD (Lib.repeatL [48] k) := by
  induction k with
  | zero => exact ⟨rfl, fun c hc => by simp [Lib.repeatL] at hc⟩
  | succ k ih =>
    have e : Lib.repeatL [48] (k + 1) = 48 :: Lib.repeatL [48] k := rfl
    rw [e]
    refine ⟨?_, fun c hc => ?_⟩
    · have := ih.1
      unfold numL at this ⊢
      rw [List.foldl_cons]
      exact this
    · rcases List.mem_cons.1 hc with rfl | g
      · decide
      · exact ih.2 c g
theorem pad_num (r d : Nat) : numV (padL (r : Int) d) = r := by
  have h1 := itoa_num r
  have h2 := rep_num (d - (Lib.itoa (r : Int)).length)
  have hA : allD (padL (r : Int) d) := fun c hc => by
    rcases List.mem_append.1 hc with g | g
    · exact h2.2 c g
    · exact h1.2 c g
  unfold numV
  rw [if_pos hA]
  unfold padL numL
  rw [List.foldl_append]
  have e2 := h2.1
  have e1 := h1.1
  unfold numL at e1 e2
  rw [e2, e1]
theorem nd_le : ∀ (d r : Nat), r < 10 ^ (d + 1) → Lib.nDigits r ≤ d + 1
  | 0, r, h => by rw [Lib.nDigits_small (by simpa using h)]; exact Nat.le_refl _
  | d + 1, r, h => by
    by_cases g : r < 10
    · rw [Lib.nDigits_small g]; omega
    · rw [Lib.nDigits_big g]
      have := nd_le d (r / 10) (by rw [Nat.pow_succ] at h; omega)
      omega
theorem pad_size (r d : Nat) (hd : 1 ≤ d) (h : r < 10 ^ d) : (padL (r : Int) d).length = d := by
  obtain ⟨k, rfl⟩ : ∃ k, d = k + 1 := ⟨d - 1, by omega⟩
  have h1 := nd_le k r h
  have hl : (Lib.itoa (r : Int)).length = Lib.nDigits r := by
    unfold Lib.itoa
    rw [if_neg (by omega), Int.toNat_natCast, Lib.decDigits_length]
  unfold padL
  rw [List.length_append, rep_len, hl]
  omega
theorem len2 {l : List UInt8} (h : l.length = 2) : ∃ a b, l = [a, b] := by
  match l, h with
  | [a, b], _ => exact ⟨a, b, rfl⟩
theorem clock_reads (n d : Nat) (hd : d ≤ 6) (hn : n / 10 ^ d < 360000) :
    validP ⟨(clockL n d).toArray⟩ ∧ two ⟨(clockL n d).toArray⟩ 0 = ((n / 10 ^ d / 3600 : Nat) : Int) ∧
    ∀ u : Nat, angV ⟨(clockL n d).toArray⟩ ((u * 10 ^ d : Nat) : Int) = ((n * u : Nat) : Int) := by
  have hp : 1 ≤ 10 ^ d := Nat.pow_pos (by omega)
  have hr := Nat.mod_lt n hp
  have hdm := Nat.div_add_mod n (10 ^ d)
  have hs : ∃ s, n / 10 ^ d = s := ⟨_, rfl⟩
  obtain ⟨s, es⟩ := hs
  obtain ⟨r, er⟩ : ∃ r, n % 10 ^ d = r := ⟨_, rfl⟩
  rw [es] at hn hdm
  rw [er] at hr hdm
  have lx := pad_size (s / 3600) 2 (by omega) (by omega)
  have ly := pad_size (s / 60 % 60) 2 (by omega) (by omega)
  have lz := pad_size (s % 60) 2 (by omega) (by omega)
  have nx := pad_num (s / 3600) 2
  have ny := pad_num (s / 60 % 60) 2
  have nz := pad_num (s % 60) 2
  have nr := pad_num r d
  have K : clockL n d = glueL ((s / 3600 : Nat) : Int) ((s / 60 % 60 : Nat) : Int) ((s % 60 : Nat) : Int) ++ (if 0 < d then 46 :: padL (r : Int) d else []) := by
    unfold clockL; rw [es, er]
  obtain ⟨x0, x1, ex⟩ := len2 lx
  obtain ⟨y0, y1, ey⟩ := len2 ly
  obtain ⟨z0, z1, ez⟩ := len2 lz
  unfold glueL at K
  rw [ex] at nx K
  rw [ey] at ny K
  rw [ez] at nz K
  have lr : 1 ≤ d → (padL (r : Int) d).length = d := fun h => pad_size r d h hr
  obtain ⟨q, eq⟩ : ∃ q, padL (r : Int) d = q := ⟨_, rfl⟩
  rw [eq] at nr K lr
  generalize hl : clockL n d = l at *
  have hx : 0 ≤ ((s / 3600 : Nat) : Int) := by omega
  by_cases h0 : 0 < d
  · have lq := lr h0
    rw [if_pos h0] at K
    have K' : l = x0 :: x1 :: 32 :: y0 :: y1 :: 32 :: z0 :: z1 :: 46 :: q := by rw [K]; rfl
    have sz : (⟨l.toArray⟩ : ByteArray).size = 9 + d := by rw [size_mk, K']; simp only [List.length_cons, lq]; omega
    have t0 : two ⟨l.toArray⟩ 0 = ((s / 3600 : Nat) : Int) := by rw [two_eq, mk_list, K', ← nx]; rfl
    have t3 : two ⟨l.toArray⟩ 3 = ((s / 60 % 60 : Nat) : Int) := by rw [two_eq, mk_list, K', ← ny]; rfl
    have t6 : two ⟨l.toArray⟩ 6 = ((s % 60 : Nat) : Int) := by rw [two_eq, mk_list, K', ← nz]; rfl
    have er9 : restOf ⟨l.toArray⟩ = ⟨q.toArray⟩ := by
      rw [restOf_9 (by omega)]
      apply ByteArray.ext
      apply Array.toList_inj.1
      rw [Lib.extract_to_end, mk_list, K']
      simp
    have nq : numV (restOf ⟨l.toArray⟩).data.toList = r := by rw [er9, mk_list, nr]
    have sr : (restOf ⟨l.toArray⟩).size = d := by rw [er9, size_mk, lq]
    have sp : shapeP ⟨l.toArray⟩ := by
      refine ⟨by omega, ?_, ?_, by omega, by omega, fun _ => ?_⟩ <;> (rw [K']; simp [ByteArray.get!])
    refine ⟨⟨sp, by rw [t0]; omega, by rw [t3]; omega, by rw [t6]; omega, by rw [nq]; omega⟩, by rw [es]; exact t0, fun u => ?_⟩
    have pd : ((u * 10 ^ d : Nat) : Int) / tenI d = (u : Int) := by
      unfold tenI
      rw [← Int.natCast_ediv, Nat.mul_div_cancel _ hp]
    unfold angV secs
    rw [t0, t3, t6, nq, sr, pd]
    have e1 : ((s / 3600 : Nat) : Int) * 3600 + ((s / 60 % 60 : Nat) : Int) * 60 + ((s % 60 : Nat) : Int) = (s : Int) := by omega
    rw [e1, ← hdm]
    simp only [Int.natCast_mul, Int.natCast_add]
    rw [Int.add_mul, Int.mul_comm (u : Int), ← Int.mul_assoc, Int.mul_comm (s : Int)]
  · have d0 : d = 0 := by omega
    subst d0
    rw [if_neg h0, List.append_nil] at K
    have K' : l = [x0, x1, 32, y0, y1, 32, z0, z1] := by rw [K]; rfl
    have sz : (⟨l.toArray⟩ : ByteArray).size = 8 := by rw [size_mk, K']; rfl
    have t0 : two ⟨l.toArray⟩ 0 = ((s / 3600 : Nat) : Int) := by rw [two_eq, mk_list, K', ← nx]; rfl
    have t3 : two ⟨l.toArray⟩ 3 = ((s / 60 % 60 : Nat) : Int) := by rw [two_eq, mk_list, K', ← ny]; rfl
    have t6 : two ⟨l.toArray⟩ 6 = ((s % 60 : Nat) : Int) := by rw [two_eq, mk_list, K', ← nz]; rfl
    have er9 : restOf ⟨l.toArray⟩ = ByteArray.empty := restOf_8 sz
    have sp : shapeP ⟨l.toArray⟩ := by
      refine ⟨by omega, ?_, ?_, by omega, by omega, fun h => by omega⟩ <;> (rw [K']; simp [ByteArray.get!])
    refine ⟨⟨sp, by rw [t0]; omega, by rw [t3]; omega, by rw [t6]; omega, by rw [er9]; decide⟩, by rw [es]; exact t0, fun u => ?_⟩
    have r0 : r = 0 := by simp at hr; exact hr
    unfold angV secs
    rw [t0, t3, t6, er9, numV_empty]
    have e1 : ((s / 3600 : Nat) : Int) * 3600 + ((s / 60 % 60 : Nat) : Int) * 60 + ((s % 60 : Nat) : Int) = (s : Int) := by omega
    rw [e1, ← hdm, r0]
    simp
end At
end Go.Proofs.YtmafjoboikbnnaaDoor
