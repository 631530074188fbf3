/-
  The walk of whole of package desig: the number in the digits of a string.
-/
import Derived.Test.YtdjndoafnoidbaaDoorDIdx2
import Derived.Lib.Strings
namespace Go.Proofs.YtdjndoafnoidbaaDoor
namespace Dw
open Go.RowKit Dp Lw

theorem take_snoc (s : ByteArray) (k : Nat) (h : k < s.size) : s.data.toList.take (k + 1) = s.data.toList.take k ++ [s[k]] := by
  rw [List.take_succ_eq_append_getElem (by simpa using h)]; rfl
theorem take_all (s : ByteArray) (k : Nat) (h : ¬ k < s.size) : s.data.toList.take k = s.data.toList := List.take_of_length_le (by simp; omega)
theorem valN_app (b : Nat) (hb : 1 ≤ b) (l m : List UInt8) : valN b l ≤ valN b (l ++ m) := by
  induction m generalizing l with
  | nil => simp
  | cons c m ih =>
    have h := ih (l ++ [c])
    rw [List.append_assoc, List.singleton_append, valN_snoc] at h
    have := Nat.le_mul_of_pos_right (valN b l) hb
    omega
theorem valN_take (b : Nat) (hb : 1 ≤ b) (l : List UInt8) (k : Nat) : valN b (l.take k) ≤ valN b l := by
  have := valN_app b hb (l.take k) (l.drop k)
  rwa [List.take_append_drop] at this
/-- What the loop keeps. -/
structure WInv (b : Nat) (s : ByteArray) (k : Nat) : Prop where
  all : allW b (s.data.toList.take k)
  hi : valN b (s.data.toList.take k) ≤ 954572831
theorem WInv.start (b : Nat) (s : ByteArray) : WInv b s 0 := ⟨allW_nil b, by simp [valN]⟩
def valI (b : Nat) (s : ByteArray) (k : Nat) : Int := (valN b (s.data.toList.take k) : Int)
theorem valI_0 (b : Nat) (s : ByteArray) : valI b s 0 = 0 := rfl
theorem valI_bd {b : Nat} {s : ByteArray} {k : Nat} (h : WInv b s k) : 0 ≤ valI b s k ∧ valI b s k ≤ 954572831 := by
  have := h.hi
  unfold valI
  omega
theorem WInv.next {b : Nat} {s : ByteArray} {k : Nat} (h : WInv b s k) (hb : b ≤ 62) (hk : k < s.size) (hw : worthN s[k] < b) (hv : valI b s k ≤ 15396335) : WInv b s (k + 1) ∧ valI b s (k + 1) = valI b s k * b + worthN s[k] := by
  have e := take_snoc s k hk
  have v : valN b (s.data.toList.take (k + 1)) = valN b (s.data.toList.take k) * b + worthN s[k] := by rw [e, valN_snoc]
  have m : valN b (s.data.toList.take k) * b ≤ 15396335 * 62 := Nat.mul_le_mul (by unfold valI at hv; omega) hb
  refine ⟨⟨by rw [e]; exact allW_snoc h.all hw, by omega⟩, ?_⟩
  unfold valI
  rw [v]
  simp
theorem WInv.over {b : Nat} {s : ByteArray} {k : Nat} (hb : 1 ≤ b) (hv : ¬ valI b s k ≤ 15396335) : WholeIs b s.data.toList 0 false :=
  ⟨by omega, by omega, (fun h => by cases h), fun _ => ⟨rfl, fun g => by have := valN_take b hb s.data.toList k; unfold valI at hv; omega⟩⟩
theorem WInv.none {b : Nat} {s : ByteArray} {k : Nat} (hk : k < s.size) (hw : ¬ worthN s[k] < b) : WholeIs b s.data.toList 0 false :=
  ⟨by omega, by omega, (fun h => by cases h), fun _ => ⟨rfl, fun g => hw (g.1 _ (get_mem s k hk))⟩⟩
theorem WInv.fin {b : Nat} {s : ByteArray} {k : Nat} (h : WInv b s k) (hk : ¬ k < s.size) (ok : Bool) (ho : ok = decide (s.size ≠ 0)) : WholeIs b s.data.toList (valI b s k) ok := by
  have e := take_all s k hk
  have bd := valI_bd h
  have ha := h.all
  rw [e] at ha
  have hl : s.data.toList.length = s.size := by simp
  refine ⟨bd.1, by omega, fun g => ⟨ha, ?_, by unfold valI; rw [e]⟩, fun g => ?_⟩
  · rw [g] at ho
    have := of_decide_eq_true ho.symm
    intro z
    rw [z] at hl
    exact this hl.symm
  · rw [g] at ho
    have z := of_decide_eq_false ho.symm
    have z' : s.data.toList = [] := List.eq_nil_of_length_eq_zero (by omega)
    refine ⟨by unfold valI; rw [e, z']; rfl, fun g => g.2.1 z'⟩
theorem idxR_yes {b : Nat} {c : UInt8} (h : c.toNat < 128) (hw : worthN c < b) : idxR b (c.toNat : Int) = worthN c := by
  unfold idxR
  rw [Int.toNat_natCast, UInt8.ofNat_toNat, if_pos ⟨by omega, hw⟩]
theorem idxR_no {b : Nat} {c : UInt8} (hw : ¬ worthN c < b) : idxR b (c.toNat : Int) = -1 := by
  unfold idxR
  rw [Int.toNat_natCast, UInt8.ofNat_toNat, if_neg (fun g => hw g.2)]
theorem idxR_high {b : Nat} {r : Int} (h : 128 ≤ r) : idxR b r = -1 := if_neg (fun g => by omega)
theorem worth_high {c : UInt8} (h : 128 ≤ c.toNat) : worthN c = 99 := by
  unfold worthN
  rw [if_neg (by omega), if_neg (by omega), if_neg (by omega)]
theorem size_data (s : ByteArray) : s.size = s.data.toList.length := by simp
theorem str_ne (s : ByteArray) : (!s.toList.isEmpty) = decide (s.size ≠ 0) := by
  rw [size_data s, Lib.toList_data]
  cases s.data.toList <;> simp
def WholePost (b : Nat) (s : ByteArray) (w : World) (e : Ending) (w' : World) : Prop := ∃ (n : Int) (ok : Bool), e = .returned (.tuple #[.int .i64 n, .bool ok]) ∧ WholeIs b s.data.toList n ok ∧ Below w.heap.size w w'
theorem dig10 : (⟨#[48, 49, 50, 51, 52, 53, 54, 55, 56, 57, 65, 66, 67, 68, 69, 70, 71, 72, 73, 74, 75, 76, 77, 78, 79, 80, 81, 82, 83, 84, 85, 86, 87, 88, 89, 90, 97, 98, 99, 100, 101, 102, 103, 104, 105, 106, 107, 108, 109, 110, 111, 112, 113, 114, 115, 116, 117, 118, 119, 120, 121, 122]⟩ : ByteArray).extract 0 10 = digS 10 := by decide +kernel
theorem dig62' : (⟨#[48, 49, 50, 51, 52, 53, 54, 55, 56, 57, 65, 66, 67, 68, 69, 70, 71, 72, 73, 74, 75, 76, 77, 78, 79, 80, 81, 82, 83, 84, 85, 86, 87, 88, 89, 90, 97, 98, 99, 100, 101, 102, 103, 104, 105, 106, 107, 108, 109, 110, 111, 112, 113, 114, 115, 116, 117, 118, 119, 120, 121, 122]⟩ : ByteArray).extract 0 62 = digS 62 := by decide +kernel
set_option maxRecDepth 100000 in
set_option maxHeartbeats 2000000 in
theorem whole_10 (s : ByteArray) (w : World) (hs : s.size ≤ 1000) : Calls Tryd.prog 41 #[.string s, .int .i64 10] w (WholePost 10 s w) := by
  go_enter Tryd.func41, Tryd.ntmps41
  go_wp2
  go_loopw [6] (fun n w' => ∃ k : Nat, k ≤ s.size ∧ w' = w.iter s k ∧ n = .int .i64 (valI 10 s k) ∧ WInv 10 s k) (fun _ w' => s.size - w'.iterPos w.heap.size)
  case atStart => exact ⟨0, Nat.zero_le _, rfl, rfl, WInv.start 10 s⟩
  case round =>
    obtain ⟨k, hk, rfl, rfl, D⟩ := hrel
    by_cases hlt : k < s.size
    · have hnx : ∀ ty, (Instr.next (.pointer (some ⟨w.heap.size, 0, none⟩)) true ty).run Tryd.prog (w.iter s k) = _ := fun ty => run_next_any w s k ty hlt
      have bd := valI_bd D
      have DD := Lib.hid D
      clear D
      by_cases ha : (s[k]'hlt).toNat < 128
      · rw [decode_ascii s k hlt ha] at hnx
        have hnx' : ∀ ty, (Instr.next (.pointer (some ⟨w.heap.size, 0, none⟩)) true ty).run Tryd.prog (w.iter s k) = .ok (.tuple #[.bool true, .int .i64 k, .int .i32 ((s[k]'hlt).toNat : Int)]) (w.iter s (k + 1)) := hnx
        clear hnx
        have C := Lib.hid (idxr_any 10 ((s[k]'hlt).toNat : Int) (w.iter s (k + 1)) (Or.inl rfl) (by omega) (by omega))
        by_cases hw : worthN (s[k]'hlt) < 10
        · rw [idxR_yes ha hw] at C
          by_cases hv : valI 10 s k ≤ 15396335
          · have NX := Lib.hid (DD.out.next (by omega) hlt hw hv)
            go_wp2_with fail
            go_at_call 56
            refine C.out.mono ?_
            rintro e w1 ⟨rfl, _, h2⟩
            have h2 := h2 (by omega)
            subst h2
            clear C
            have wb : (worthN (s[k]'hlt) : Int) < 10 := by omega
            go_wp2_with fail
            go_roundw
            case rel => exact ⟨k + 1, by omega, rfl, by rw [NX.out.2]; rfl, NX.out.1⟩
            case measure => simp; omega
          · have OV := Lib.hid (WInv.over (b := 10) (s := s) (k := k) (by omega) hv)
            go_wp2_with fail
            go_at_call 56
            refine C.out.mono ?_
            rintro e w1 ⟨rfl, h1, _⟩
            clear C
            go_wp2_with fail
            go_ret2
            exact ⟨0, false, rfl, OV.out, below_then (below_iter _ _ _) h1⟩
        · rw [idxR_no hw] at C
          have OV := Lib.hid (WInv.none (b := 10) hlt hw)
          go_wp2_with fail
          go_at_call 56
          refine C.out.mono ?_
          rintro e w1 ⟨rfl, h1, _⟩
          clear C
          go_wp2_with fail
          go_ret2
          exact ⟨0, false, rfl, OV.out, below_then (below_iter _ _ _) h1⟩
      · obtain ⟨d1, d2⟩ := decode_high s k hlt (by omega)
        have d3 := decode_le s k
        have hw : ¬ worthN (s[k]'hlt) < 10 := by rw [worth_high (by omega)]; omega
        have OV := Lib.hid (WInv.none (b := 10) hlt hw)
        clear hw
        generalize (Utf8.decode s k).1 = r at *
        generalize (Utf8.decode s k).2 = q at *
        have C := Lib.hid (idxr_any 10 (r : Int) (w.iter s (k + q)) (Or.inl rfl) (by omega) (by omega))
        rw [idxR_high (by omega)] at C
        go_wp2_with fail
        go_at_call 56
        refine C.out.mono ?_
        rintro e w1 ⟨rfl, h1, _⟩
        clear C
        go_wp2_with fail
        go_ret2
        exact ⟨0, false, rfl, OV.out, below_then (below_iter _ _ _) h1⟩
    · have hnx : ∀ ty, (Instr.next (.pointer (some ⟨w.heap.size, 0, none⟩)) true ty).run Tryd.prog (w.iter s k) = _ := fun ty => run_next_end w s k ty hlt
      have F := Lib.hid (D.fin hlt)
      go_wp2
      go_ret2
      exact ⟨_, _, rfl, F.out _ (str_ne s), below_iter _ _ _⟩
set_option maxRecDepth 100000 in
set_option maxHeartbeats 2000000 in
theorem whole_62 (s : ByteArray) (w : World) (hs : s.size ≤ 1000) : Calls Tryd.prog 41 #[.string s, .int .i64 62] w (WholePost 62 s w) := by
  go_enter Tryd.func41, Tryd.ntmps41
  go_wp2
  go_loopw [6] (fun n w' => ∃ k : Nat, k ≤ s.size ∧ w' = w.iter s k ∧ n = .int .i64 (valI 62 s k) ∧ WInv 62 s k) (fun _ w' => s.size - w'.iterPos w.heap.size)
  case atStart => exact ⟨0, Nat.zero_le _, rfl, rfl, WInv.start 62 s⟩
  case round =>
    obtain ⟨k, hk, rfl, rfl, D⟩ := hrel
    by_cases hlt : k < s.size
    · have hnx : ∀ ty, (Instr.next (.pointer (some ⟨w.heap.size, 0, none⟩)) true ty).run Tryd.prog (w.iter s k) = _ := fun ty => run_next_any w s k ty hlt
      have bd := valI_bd D
      have DD := Lib.hid D
      clear D
      by_cases ha : (s[k]'hlt).toNat < 128
      · rw [decode_ascii s k hlt ha] at hnx
        have hnx' : ∀ ty, (Instr.next (.pointer (some ⟨w.heap.size, 0, none⟩)) true ty).run Tryd.prog (w.iter s k) = .ok (.tuple #[.bool true, .int .i64 k, .int .i32 ((s[k]'hlt).toNat : Int)]) (w.iter s (k + 1)) := hnx
        clear hnx
        have C := Lib.hid (idxr_any 62 ((s[k]'hlt).toNat : Int) (w.iter s (k + 1)) (Or.inr rfl) (by omega) (by omega))
        by_cases hw : worthN (s[k]'hlt) < 62
        · rw [idxR_yes ha hw] at C
          by_cases hv : valI 62 s k ≤ 15396335
          · have NX := Lib.hid (DD.out.next (by omega) hlt hw hv)
            go_wp2_with fail
            go_at_call 56
            refine C.out.mono ?_
            rintro e w1 ⟨rfl, _, h2⟩
            have h2 := h2 (by omega)
            subst h2
            clear C
            have wb : (worthN (s[k]'hlt) : Int) < 62 := by omega
            go_wp2_with fail
            go_roundw
            case rel => exact ⟨k + 1, by omega, rfl, by rw [NX.out.2]; rfl, NX.out.1⟩
            case measure => simp; omega
          · have OV := Lib.hid (WInv.over (b := 62) (s := s) (k := k) (by omega) hv)
            go_wp2_with fail
            go_at_call 56
            refine C.out.mono ?_
            rintro e w1 ⟨rfl, h1, _⟩
            clear C
            go_wp2_with fail
            go_ret2
            exact ⟨0, false, rfl, OV.out, below_then (below_iter _ _ _) h1⟩
        · rw [idxR_no hw] at C
          have OV := Lib.hid (WInv.none (b := 62) hlt hw)
          go_wp2_with fail
          go_at_call 56
          refine C.out.mono ?_
          rintro e w1 ⟨rfl, h1, _⟩
          clear C
          go_wp2_with fail
          go_ret2
          exact ⟨0, false, rfl, OV.out, below_then (below_iter _ _ _) h1⟩
      · obtain ⟨d1, d2⟩ := decode_high s k hlt (by omega)
        have d3 := decode_le s k
        have hw : ¬ worthN (s[k]'hlt) < 62 := by rw [worth_high (by omega)]; omega
        have OV := Lib.hid (WInv.none (b := 62) hlt hw)
        clear hw
        generalize (Utf8.decode s k).1 = r at *
        generalize (Utf8.decode s k).2 = q at *
        have C := Lib.hid (idxr_any 62 (r : Int) (w.iter s (k + q)) (Or.inr rfl) (by omega) (by omega))
        rw [idxR_high (by omega)] at C
        go_wp2_with fail
        go_at_call 56
        refine C.out.mono ?_
        rintro e w1 ⟨rfl, h1, _⟩
        clear C
        go_wp2_with fail
        go_ret2
        exact ⟨0, false, rfl, OV.out, below_then (below_iter _ _ _) h1⟩
    · have hnx : ∀ ty, (Instr.next (.pointer (some ⟨w.heap.size, 0, none⟩)) true ty).run Tryd.prog (w.iter s k) = _ := fun ty => run_next_end w s k ty hlt
      have F := Lib.hid (D.fin hlt)
      go_wp2
      go_ret2
      exact ⟨_, _, rfl, F.out _ (str_ne s), below_iter _ _ _⟩
end Dw
end Go.Proofs.YtdjndoafnoidbaaDoor
