/-
  Digits of the reference: value, digit, worth.
-/
import Derived.Test.YtdjndoafnoidbaaDoorDDig
namespace Go.Proofs.YtdjndoafnoidbaaDoor
namespace Dw
open Go.RowKit Dp Lw

theorem worth_dec {c : UInt8} : worthN c < 10 ↔ 48 ≤ (c.toNat : Int) ∧ (c.toNat : Int) ≤ 57 := by
  unfold worthN
  split
  · omega
  · split
    · omega
    · split <;> omega
theorem worth_val {c : UInt8} (h : 48 ≤ (c.toNat : Int) ∧ (c.toNat : Int) ≤ 57) : (worthN c : Int) = (c.toNat : Int) - 48 := by
  unfold worthN
  rw [if_pos (by omega)]
  omega
/-- What the loop of value keeps. -/
structure VInv (s : ByteArray) (k : Nat) : Prop where
  all : allW 10 (s.data.toList.take k)
theorem VInv.start (s : ByteArray) : VInv s 0 := ⟨allW_nil 10⟩
theorem val_pow (l : List UInt8) (h : allW 10 l) : valN 10 l < 10 ^ l.length := by
  obtain ⟨k, hk⟩ : ∃ k, l.length = k := ⟨_, rfl⟩
  induction k generalizing l with
  | zero => rw [List.eq_nil_of_length_eq_zero hk]; simp [valN]
  | succ k ih =>
    obtain ⟨l', c, rfl⟩ : ∃ l' c, l = l' ++ [c] := ⟨l.dropLast, l.getLast (by intro e; rw [e] at hk; simp at hk), (List.dropLast_concat_getLast _).symm⟩
    have hc := h c (List.mem_append_right _ (List.mem_singleton.2 rfl))
    rw [List.length_append] at hk ⊢
    simp only [List.length_cons, List.length_nil] at hk ⊢
    have := ih l' (fun x hx => h x (List.mem_append_left _ hx)) (by omega)
    rw [valN_snoc, show l'.length + 0 + 1 = l'.length + 1 by omega, Nat.pow_succ]
    omega
theorem VInv.bd {s : ByteArray} {k : Nat} (h : VInv s k) (h8 : k ≤ 8) : 0 ≤ valI 10 s k ∧ valI 10 s k ≤ 100000000 := by
  have h1 := val_pow _ h.all
  have h2 : (s.data.toList.take k).length ≤ 8 := Nat.le_trans (List.length_take_le _ _) h8
  have h3 : 10 ^ (s.data.toList.take k).length ≤ 10 ^ 8 := Nat.pow_le_pow_right (by omega) h2
  unfold valI
  omega
theorem VInv.next {s : ByteArray} {k : Nat} (h : VInv s k) (hk : k < s.size) (hw : 48 ≤ (s[k].toNat : Int) ∧ (s[k].toNat : Int) ≤ 57) : VInv s (k + 1) ∧ valI 10 s (k + 1) = 10 * valI 10 s k + ((s[k].toNat : Int) - 48) := by
  have e := take_snoc s k hk
  refine ⟨⟨by rw [e]; exact allW_snoc h.all (worth_dec.2 hw)⟩, ?_⟩
  unfold valI
  rw [e, valN_snoc, ← worth_val hw]
  simp
  omega
theorem valR_fin {s : ByteArray} {k : Nat} (h : VInv s k) (hk : ¬ k < s.size) (h1 : 1 ≤ s.size) (h8 : s.size ≤ 8) : valI 10 s k = valR s.data.toList := by
  have ha := h.all
  unfold valI
  rw [take_all s k hk] at ha ⊢
  have hl := size_data s
  rw [valR_yes (by omega) (by omega) ha]
theorem valR_not {s : ByteArray} {k : Nat} (hk : k < s.size) (h : ¬ (48 ≤ (s[k].toNat : Int) ∧ (s[k].toNat : Int) ≤ 57)) : valR s.data.toList = -1 :=
  valR_no (not_all (get_mem s k hk) (fun g => h (worth_dec.1 g)))
theorem valR_len {s : ByteArray} (h : ¬ (1 ≤ s.size ∧ s.size ≤ 8)) : valR s.data.toList = -1 := by
  have hl := size_data s
  exact if_neg (fun g => h (by omega))
theorem valR_bd (l : List UInt8) : -1 ≤ valR l ∧ valR l ≤ 100000000 := by
  unfold valR
  split
  · next g =>
    have h1 := val_pow l g.2.2
    have h3 : 10 ^ l.length ≤ 10 ^ 8 := Nat.pow_le_pow_right (by omega) g.2.1
    omega
  · omega
theorem byte_bd (b : UInt8) : 0 ≤ (b.toNat : Int) ∧ (b.toNat : Int) < 256 := by have := b.toNat_lt; omega
set_option maxRecDepth 100000 in
set_option maxHeartbeats 2000000 in
theorem value_any (s : ByteArray) (w : World) (hs : s.size ≤ 1000) :
    Calls Tryd.prog 42 #[.string s] w fun e w' => e = .returned (.int .i64 (valR s.data.toList)) ∧ w = w' := by
  by_cases hl : 1 ≤ s.size ∧ s.size ≤ 8
  · obtain ⟨l1, l2⟩ := hl
    have l1' : ¬ (s.size : Int) < 1 := by omega
    have l2' : ¬ 8 < (s.size : Int) := by omega
    have L1 := Lib.hid l1
    clear l1
    go_enter Tryd.func42, Tryd.ntmps42
    go_wp2
    go_loop [3, 4] (fun n i => ∃ k : Nat, k ≤ s.size ∧ i = .int .i64 k ∧ n = .int .i64 (valI 10 s k) ∧ Hid (VInv s k)) (fun _ i => s.size - (intOf i).toNat)
    case atStart => exact ⟨0, Nat.zero_le _, rfl, rfl, Lib.hid (VInv.start s)⟩
    case round =>
      obtain ⟨k, hk, rfl, rfl, D⟩ := hrel
      by_cases hlt : k < s.size
      · obtain ⟨n0, n1⟩ := D.out.bd (by omega)
        obtain ⟨b0, b1⟩ := byte_bd s[k]
        by_cases d : 48 ≤ (s[k].toNat : Int) ∧ (s[k].toNat : Int) ≤ 57
        · have NX := Lib.hid (D.out.next hlt d)
          obtain ⟨d1, d2⟩ := d
          go_wp2
          go_round
          case rel => exact ⟨k + 1, by omega, by go_num, by rw [NX.out.2], Lib.hid NX.out.1⟩
          case measure => simp [intOf]; omega
        · have N := Lib.hid (valR_not hlt d)
          have d' : (s[k].toNat : Int) < 48 ∨ 57 < (s[k].toNat : Int) := by omega
          clear d
          go_wp2
          all_goals first | (exfalso; omega) | (go_ret; exact ⟨ret_int N.out.symm, rfl⟩)
      · have N := Lib.hid (valR_fin D.out hlt L1.out l2)
        go_wp2
        go_ret
        exact ⟨ret_int N.out, rfl⟩
  · have N := Lib.hid (valR_len hl)
    have hl' : (s.size : Int) < 1 ∨ 8 < (s.size : Int) := by omega
    clear hl
    rcases hl' with g | g
    · go_enter Tryd.func42, Tryd.ntmps42
      go_wp2
      all_goals first | (exfalso; omega) | (go_ret; exact ⟨ret_int N.out.symm, rfl⟩)
    · have g' : ¬ (s.size : Int) < 1 := by omega
      go_enter Tryd.func42, Tryd.ntmps42
      go_wp2
      all_goals first | (exfalso; omega) | (go_ret; exact ⟨ret_int N.out.symm, rfl⟩)
theorem dig_ext_lit (n : Nat) (h : n < 62) : (⟨#[48, 49, 50, 51, 52, 53, 54, 55, 56, 57, 65, 66, 67, 68, 69, 70, 71, 72, 73, 74, 75, 76, 77, 78, 79, 80, 81, 82, 83, 84, 85, 86, 87, 88, 89, 90, 97, 98, 99, 100, 101, 102, 103, 104, 105, 106, 107, 108, 109, 110, 111, 112, 113, 114, 115, 116, 117, 118, 119, 120, 121, 122]⟩ : ByteArray).extract n (n + 1) = ⟨[dig62 n].toArray⟩ := by
  rw [dig_lit]
  exact digS_ext n h
theorem digit_any (n : Nat) (w : World) (h : n < 62) : Calls Tryd.prog 55 #[.int .i64 n] w fun e w' => e = .returned (.string ⟨[dig62 n].toArray⟩) ∧ w = w' := by
  have H := Lib.hid (dig_ext_lit n h)
  go_enter Tryd.func55, Tryd.ntmps55
  go_wp2_with fail
  go_ret
  exact ⟨congrArg (fun x => Ending.returned (.string x)) H.out, rfl⟩
theorem lit_at : ∀ k, k < 62 → ∀ h : k < (⟨#[48, 49, 50, 51, 52, 53, 54, 55, 56, 57, 65, 66, 67, 68, 69, 70, 71, 72, 73, 74, 75, 76, 77, 78, 79, 80, 81, 82, 83, 84, 85, 86, 87, 88, 89, 90, 97, 98, 99, 100, 101, 102, 103, 104, 105, 106, 107, 108, 109, 110, 111, 112, 113, 114, 115, 116, 117, 118, 119, 120, 121, 122]⟩ : ByteArray).size, ((⟨#[48, 49, 50, 51, 52, 53, 54, 55, 56, 57, 65, 66, 67, 68, 69, 70, 71, 72, 73, 74, 75, 76, 77, 78, 79, 80, 81, 82, 83, 84, 85, 86, 87, 88, 89, 90, 97, 98, 99, 100, 101, 102, 103, 104, 105, 106, 107, 108, 109, 110, 111, 112, 113, 114, 115, 116, 117, 118, 119, 120, 121, 122]⟩ : ByteArray)[k]'h) = dig62 k := by decide +kernel
theorem worth_eq (k : Nat) (hk : k < 62) (c : UInt8) : dig62 k = c ↔ worthN c = k := by
  constructor
  · rintro rfl
    exact worth_dig k hk
  · intro h
    have key : ∀ c : UInt8, worthN c < 62 → dig62 (worthN c) = c := by
      intro c
      have : ∀ n : Nat, n < 256 → worthN (UInt8.ofNat n) < 62 → dig62 (worthN (UInt8.ofNat n)) = UInt8.ofNat n := by decide +kernel
      have h := this c.toNat c.toNat_lt
      rwa [UInt8.ofNat_toNat] at h
    rw [← h]
    exact key c (by omega)
theorem idx_lit (k : Nat) (hk : k < 62) (w : World) : (Instr.index 9 (.string ⟨#[48, 49, 50, 51, 52, 53, 54, 55, 56, 57, 65, 66, 67, 68, 69, 70, 71, 72, 73, 74, 75, 76, 77, 78, 79, 80, 81, 82, 83, 84, 85, 86, 87, 88, 89, 90, 97, 98, 99, 100, 101, 102, 103, 104, 105, 106, 107, 108, 109, 110, 111, 112, 113, 114, 115, 116, 117, 118, 119, 120, 121, 122]⟩) (.int .i64 (k : Int))).run Tryd.prog w = .ok (.int .u8 ((dig62 k).toNat : Int)) w := by
  have hs : (⟨#[48, 49, 50, 51, 52, 53, 54, 55, 56, 57, 65, 66, 67, 68, 69, 70, 71, 72, 73, 74, 75, 76, 77, 78, 79, 80, 81, 82, 83, 84, 85, 86, 87, 88, 89, 90, 97, 98, 99, 100, 101, 102, 103, 104, 105, 106, 107, 108, 109, 110, 111, 112, 113, 114, 115, 116, 117, 118, 119, 120, 121, 122]⟩ : ByteArray).size = 62 := rfl
  rw [run_index_string (P := Tryd.prog) w 9 _ .i64 (k : Int) Tryd.underlying9, dif_pos ⟨by omega, by rw [hs]; omega⟩]
  simp only [Int.toNat_natCast]
  rw [lit_at k hk]
theorem worthI_yes {c : UInt8} {k : Nat} (hk : k < 62) (h : worthN c = k) : worthI c = k := by unfold worthI; rw [if_pos (by omega), h]
theorem worthI_no {c : UInt8} (h : 62 ≤ worthN c) : worthI c = -1 := if_neg (by omega)
theorem worth_any (c : UInt8) (w : World) : Calls Tryd.prog 44 #[.int .u8 (c.toNat : Int)] w fun e w' => e = .returned (.int .i64 (worthI c)) ∧ w = w' := by
  have b := byte_bd c
  go_enter Tryd.func44, Tryd.ntmps44
  go_wp2
  go_loop [3] (fun i => ∃ k : Nat, k ≤ 62 ∧ i = .int .i64 k ∧ Hid (k ≤ worthN c)) (fun i => 62 - (intOf i).toNat)
  case atStart => exact ⟨0, by omega, rfl, Lib.hid (Nat.zero_le _)⟩
  case round =>
    obtain ⟨k, hk, rfl, D⟩ := hrel
    by_cases hlt : k < 62
    · have hlt' : (k : Int) < 62 := by omega
      have hix := idx_lit k hlt w
      by_cases he : worthN c = k
      · have W := Lib.hid (worthI_yes hlt he)
        have e1 : (((dig62 k).toNat : Int) == (c.toNat : Int)) = true := by rw [(worth_eq k hlt c).2 he]; simp
        clear he
        go_wp2
        go_ret
        exact ⟨ret_int W.out.symm, rfl⟩
      · have e1 : (((dig62 k).toNat : Int) == (c.toNat : Int)) = false := by
          rw [beq_eq_false_iff_ne]
          intro g
          exact he ((worth_eq k hlt c).1 (UInt8.toNat_inj.1 (by omega)))
        have D2 := Lib.hid (show k + 1 ≤ worthN c by have := D.out; omega)
        clear he
        go_wp2
        go_round
        case rel => exact ⟨k + 1, by omega, by go_num, D2⟩
        case measure => simp [intOf]; omega
    · have hlt' : ¬ (k : Int) < 62 := by omega
      have W := Lib.hid (worthI_no (c := c) (by have := D.out; omega))
      go_wp2
      go_ret
      exact ⟨ret_int W.out.symm, rfl⟩
end Dw
end Go.Proofs.YtdjndoafnoidbaaDoor
