/-
  Head and tail of a string: strings.Cut at a point, strings.CutSuffix of a Z.
-/
import Derived.Test.YtmgehfakcnmdnaaDoorMForm
import Derived.Test.YtmgehfakcnmdnaaDoorShelf
namespace Go.Proofs.YtmgehfakcnmdnaaDoor
namespace Ap
open Go.RowKit Lw

theorem point_iff (c : UInt8) : (c == 46) = true ↔ ((c.toNat : Nat) : Int) = 46 := by
  have e : c = 46 ↔ c.toNat = (46 : UInt8).toNat := UInt8.toNat_inj.symm
  have h46 : (46 : UInt8).toNat = 46 := rfl
  rw [beq_iff_eq, e, h46]
  omega
theorem idx_pt : ∀ l : List UInt8, Lib.indexByte l 46 = if ptL l < l.length then ((ptL l : Nat) : Int) else -1
  | [] => rfl
  | b :: l => by
    have ih := idx_pt l
    unfold ptL at ih ⊢
    unfold Lib.indexByte
    by_cases h : (b == 46) = true
    · have hb : noPt b = false := decide_eq_false (not_not_intro ((point_iff b).1 h))
      rw [if_pos h, List.takeWhile_cons, hb]
      simp
    · have hb : noPt b = true := decide_eq_true fun g => h ((point_iff b).2 g)
      rw [if_neg h, List.takeWhile_cons, if_pos hb, ih]
      simp only [List.length_cons, beq_iff_eq]
      by_cases g : (l.takeWhile noPt).length < l.length
      · rw [if_pos g, if_neg (by omega), if_pos (by omega)]
        omega
      · rw [if_neg g, if_pos rfl, if_neg (by omega)]
/-- The place of the first point of a string. -/
def ptS (s : ByteArray) : Nat := ptL s.data.toList
def hdP (s : ByteArray) : ByteArray := s.extract 0 (ptS s)
def tlP (s : ByteArray) : ByteArray := if ptS s < s.size then s.extract (ptS s + 1) s.size else ⟨#[]⟩
theorem ptS_le (s : ByteArray) : ptS s ≤ s.size := by have := ptL_le s.data.toList; unfold ptS; simpa using this
theorem extract_all (s : ByteArray) : s.extract 0 s.size = s := by simp
set_option maxRecDepth 100000 in
set_option maxHeartbeats 1000000 in
theorem icut_any (s : ByteArray) (w : World) (hs : s.size ≤ maxLen) :
    Calls Tryd.prog 27 #[.string s, .string ⟨#[46]⟩] w fun e w' => e = .returned (.tuple #[.string (hdP s), .string (tlP s), .bool (decide (ptS s < s.size))]) ∧ Below w.heap.size w w' := by
  have IX := Tryd.stringslite_Index_one s 46 w
  have ix := idx_pt s.data.toList
  have hl : s.data.toList.length = s.size := by simp
  rw [hl] at ix
  replace ix : Lib.indexByte s.data.toList 46 = if ptS s < s.size then ((ptS s : Nat) : Int) else -1 := ix
  have le := ptS_le s
  have M : maxLen = 9223372036854775807 := rfl
  by_cases h : ptS s < s.size
  · have e : Lib.indexByte s.data.toList 46 = ((ptS s : Nat) : Int) := by rw [ix, if_pos h]
    rw [e] at IX
    have T := Lib.hid (show tlP s = s.extract (ptS s + 1) s.size from if_pos h)
    have H := Lib.hid (show hdP s = s.extract 0 (ptS s) from rfl)
    rw [decide_eq_true h]
    clear ix e
    generalize ptS s = q at *
    have i0 : 0 ≤ (q : Int) := by omega
    go_enter Tryd.func27, Tryd.ntmps27
    go_wp2_with fail
    refine IX.mono ?_
    rintro e w1 ⟨rfl, rfl⟩
    go_wp2_with fail
    go_quiet (fail)
    go_wp2_with fail
    go_ret3

    exact ⟨by rw [T.out, H.out]; rfl, drewN_below2 (Below.refl _ _) _⟩
  · have e : Lib.indexByte s.data.toList 46 = -1 := by rw [ix, if_neg h]
    rw [e] at IX
    have T := Lib.hid (show tlP s = ⟨#[]⟩ from if_neg h)
    have H := Lib.hid (show hdP s = s by unfold hdP; rw [show ptS s = s.size by omega]; exact extract_all s)
    rw [decide_eq_false h]
    clear ix e
    go_enter Tryd.func27, Tryd.ntmps27
    go_wp2_with fail
    refine IX.mono ?_
    rintro e w1 ⟨rfl, rfl⟩
    go_wp2_with fail
    go_ret3
    exact ⟨by rw [T.out, H.out]; rfl, Below.refl _ _⟩
theorem cut_any (s : ByteArray) (w : World) (hs : s.size ≤ maxLen) :
    Calls Tryd.prog 9 #[.string s, .string ⟨#[46]⟩] w fun e w' => e = .returned (.tuple #[.string (hdP s), .string (tlP s), .bool (decide (ptS s < s.size))]) ∧ Below w.heap.size w w' := by
  go_enter Tryd.func9, Tryd.ntmps9
  go_wp2_with fail
  refine (icut_any s w hs).mono ?_
  rintro e w1 ⟨rfl, hb⟩
  go_wp2_with fail
  go_ret3
  exact ⟨rfl, hb⟩
/-- Does a string end in a Z? -/
def zP (s : ByteArray) : Prop := 1 ≤ s.size ∧ bt s (s.size - 1) = 90
instance (s : ByteArray) : Decidable (zP s) := by unfold zP; infer_instance
def noZ (s : ByteArray) : ByteArray := if zP s then s.extract 0 (s.size - 1) else s
theorem suf_z (s : ByteArray) : Lib.hasSuffix s.data.toList [90] = decide (zP s) := by
  unfold Lib.hasSuffix
  rw [Bool.eq_iff_iff, decide_eq_true_iff, List.isSuffixOf_iff_suffix]
  constructor
  · rintro ⟨r, h⟩
    have hl := congrArg List.length h
    simp at hl
    refine ⟨by omega, ?_⟩
    rw [bt_of s _ (by omega)]
    have e : s[s.size - 1]'(by omega) = s.data.toList[s.size - 1]'(by simp; omega) := rfl
    rw [e]
    have : s.data.toList[s.size - 1]'(by simp; omega) = (r ++ [90])[s.size - 1]'(by simp; omega) := by simp only [h]
    rw [this, List.getElem_append_right (by omega)]
    simp
  · rintro ⟨h1, h2⟩
    rw [bt_of s _ (by omega)] at h2
    refine ⟨s.data.toList.take (s.size - 1), ?_⟩
    have e := take_snoc s (s.size - 1) (by omega)
    have hz : s[s.size - 1] = 90 := by
      apply UInt8.toNat_inj.1
      have : (90 : UInt8).toNat = 90 := rfl
      omega
    rw [hz, show s.size - 1 + 1 = s.size by omega] at e
    rw [← e]
    exact List.take_of_length_le (by simp)
set_option maxRecDepth 100000 in
set_option maxHeartbeats 1000000 in
theorem suf_any (s : ByteArray) (w : World) (hs : s.size ≤ maxLen) :
    Calls Tryd.prog 8 #[.string s, .string ⟨#[90]⟩] w fun e w' => e = .returned (.tuple #[.string (noZ s), .bool (decide (zP s))]) ∧ w = w' := by
  have M : maxLen = 9223372036854775807 := rfl
  have IX := Tryd.stringslite_HasSuffix s ⟨#[90]⟩ w (by omega)
  have e : Lib.hasSuffix s.data.toList (⟨#[90]⟩ : ByteArray).data.toList = decide (zP s) := suf_z s
  rw [e] at IX
  clear e
  by_cases h : zP s
  · have T := Lib.hid (show noZ s = s.extract 0 (s.size - 1) from if_pos h)
    have h1 : 1 ≤ s.size := h.1
    rw [decide_eq_true h] at IX ⊢
    clear h
    go_enter Tryd.func8, Tryd.ntmps8
    go_wp2_with (first | (go_at_call 38; refine IX.mono ?_; rintro e w1 ⟨rfl, rfl⟩) | (go_at_call 26; go_in))

    go_ret2
    exact ⟨by rw [T.out]; rfl, rfl⟩
  · have T := Lib.hid (show noZ s = s from if_neg h)
    rw [decide_eq_false h] at IX ⊢
    clear h
    go_enter Tryd.func8, Tryd.ntmps8
    go_wp2_with (first | (go_at_call 38; refine IX.mono ?_; rintro e w1 ⟨rfl, rfl⟩) | (go_at_call 26; go_in))
    go_ret2
    exact ⟨by rw [T.out]; rfl, rfl⟩
end Ap
end Go.Proofs.YtmgehfakcnmdnaaDoor
