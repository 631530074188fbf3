/-
  Signs and points of a text: strings.TrimLeft, CutPrefix and Cut at this program.
-/
import Derived.Test.YtmafjoboikbnnaaDoorShelf
import Derived.Test.YtmafjoboikbnnaaDoorPDSpec
namespace Go.Proofs.YtmafjoboikbnnaaDoor
namespace Ap
open Go.RowKit Lw

theorem trim_any (s : ByteArray) (w : World) :
    Calls Tryd.prog 28 #[.string s, .string ⟨#[43, 45]⟩] w fun e w' => e = .returned (.string ⟨(Lib.trimLeftS s.data.toList [43, 45]).toArray⟩) ∧ Below w.heap.size w w' :=
  Any.strings_TrimLeft_laid Tryd.lays161 (by kernel_rfl) s ⟨#[43, 45]⟩ w (by decide) (fun j b hb => by
    match j, hb with
    | 0, hb => obtain rfl : (43 : UInt8) = b := by simpa using hb
               decide
    | 1, hb => obtain rfl : (45 : UInt8) = b := by simpa using hb
               decide
    | k + 2, hb => simp at hb)
theorem arr_str (s : ByteArray) : (⟨s.data.toList.toArray⟩ : ByteArray) = s := by cases s; simp
theorem sign_iff (c : UInt8) : List.contains [43, 45] c = true ↔ (((c.toNat : Nat) : Int) = 43 ∨ ((c.toNat : Nat) : Int) = 45) := by
  have e : ∀ d : UInt8, c = d ↔ c.toNat = d.toNat := fun d => UInt8.toNat_inj.symm
  have h43 : (43 : UInt8).toNat = 43 := rfl
  have h45 : (45 : UInt8).toNat = 45 := rfl
  simp only [List.contains_cons, List.contains_nil, Bool.or_false, Bool.or_eq_true, beq_iff_eq, e, h43, h45]
  omega
theorem len_dw (p : UInt8 → Bool) : ∀ l : List UInt8, (l.dropWhile p).length ≤ l.length
  | [] => Nat.le_refl _
  | a :: l => by
    rw [List.dropWhile_cons]
    split
    · have := len_dw p l
      simp; omega
    · exact Nat.le_refl _
theorem mk_list (l : List UInt8) : (⟨l.toArray⟩ : ByteArray).data.toList = l := by simp
theorem get0 (c : UInt8) (r : List UInt8) : (⟨(c :: r).toArray⟩ : ByteArray).get! 0 = c := by simp [ByteArray.get!]
theorem tail_mk (c : UInt8) (r : List UInt8) : tailOf ⟨(c :: r).toArray⟩ = ⟨r.toArray⟩ := by
  unfold tailOf
  apply ByteArray.ext
  apply Array.toList_inj.1
  rw [Lib.extract_to_end, mk_list]
  simp
theorem size_mk (l : List UInt8) : (⟨l.toArray⟩ : ByteArray).size = l.length := by simp [ByteArray.size]
theorem numV_sign (c : UInt8) (r : List UInt8) (h : List.contains [43, 45] c = true) : numV (c :: r) = -1 := by
  unfold numV
  rw [if_neg]
  intro g
  have := g c (by simp)
  have := (sign_iff c).1 h
  omega
theorem two_mk (c : UInt8) (r : List UInt8) : two ⟨(c :: r).toArray⟩ 0 = numV (c :: r.take 1) := by
  rw [two_eq, mk_list]; rfl
/-- What is left where the leading signs are cut off, and it is shorter by one. -/
theorem trim_l (l : List UInt8) : ((((l.dropWhile (List.contains [43, 45])).length : Nat) : Int) = l.length - 1 → signP ⟨l.toArray⟩ ∧ l.dropWhile (List.contains [43, 45]) = l.drop 1) ∧
    (¬ (((l.dropWhile (List.contains [43, 45])).length : Nat) : Int) = l.length - 1 → ¬ (signP ⟨l.toArray⟩ ∧ validP (tailOf ⟨l.toArray⟩))) := by
  cases l with
  | nil => exact ⟨fun h => by simp at h, fun _ g => by have := g.1.1; simp [ByteArray.size] at this⟩
  | cons c r =>
    by_cases hc : List.contains [43, 45] c = true
    · rw [List.dropWhile_cons, if_pos hc]
      have sg : signP ⟨(c :: r).toArray⟩ := ⟨by rw [size_mk]; simp, by rw [get0]; exact (sign_iff c).1 hc⟩
      cases r with
      | nil => exact ⟨fun _ => ⟨sg, rfl⟩, fun h => absurd rfl h⟩
      | cons d q =>
        by_cases hd : List.contains [43, 45] d = true
        · rw [List.dropWhile_cons, if_pos hd]
          have := len_dw (List.contains [43, 45]) q
          refine ⟨fun h => ?_, fun _ g => ?_⟩
          · simp only [List.length_cons] at h; omega
          · have := g.2.2.1
            rw [tail_mk, two_mk, numV_sign d _ hd] at this
            omega
        · rw [List.dropWhile_cons, if_neg hd]
          exact ⟨fun _ => ⟨sg, rfl⟩, fun h => absurd (by simp) h⟩
    · rw [List.dropWhile_cons, if_neg hc]
      refine ⟨fun h => by omega, fun _ g => ?_⟩
      have := g.1.2
      rw [get0] at this
      exact hc ((sign_iff c).2 this)
theorem trim_one (s t : ByteArray) (h : t = ⟨(Lib.trimLeftS s.data.toList [43, 45]).toArray⟩) (hs : (t.size : Int) = s.size - 1) : signP s ∧ t = tailOf s := by
  obtain ⟨l, rfl⟩ : ∃ l : List UInt8, s = ⟨l.toArray⟩ := ⟨s.data.toList, (arr_str s).symm⟩
  rw [mk_list] at h
  rw [h, size_mk, size_mk] at hs
  have := (trim_l l).1 hs
  refine ⟨this.1, ?_⟩
  rw [h]
  show (⟨(l.dropWhile (List.contains [43, 45])).toArray⟩ : ByteArray) = _
  rw [this.2]
  cases l with
  | nil => simp [signP, ByteArray.size] at this
  | cons c r => rw [tail_mk]; rfl
theorem trim_not (s t : ByteArray) (h : t = ⟨(Lib.trimLeftS s.data.toList [43, 45]).toArray⟩) (hs : ¬ (t.size : Int) = s.size - 1) : ¬ (signP s ∧ validP (tailOf s)) := by
  obtain ⟨l, rfl⟩ : ∃ l : List UInt8, s = ⟨l.toArray⟩ := ⟨s.data.toList, (arr_str s).symm⟩
  rw [mk_list] at h
  rw [h, size_mk, size_mk] at hs
  exact (trim_l l).2 hs
end Ap
end Go.Proofs.YtmafjoboikbnnaaDoor
