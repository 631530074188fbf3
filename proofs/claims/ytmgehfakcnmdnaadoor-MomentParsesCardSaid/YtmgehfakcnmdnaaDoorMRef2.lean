/-
  The walks of length and before of the reference.
-/
import Derived.Test.YtmgehfakcnmdnaaDoorMRef1
namespace Go.Proofs.YtmgehfakcnmdnaaDoor
namespace Mw
open Go.RowKit Mp Lw

theorem leapB_split (y : Int) : leapB y = true ∨ leapB y = false := by cases leapB y <;> simp
set_option maxRecDepth 100000 in
set_option maxHeartbeats 1000000 in
theorem length_any (y m : Int) (w : World) (h : 0 ≤ y) (h1 : 1 ≤ m) (h2 : m ≤ 12) :
    Calls Tryd.prog 40 #[.int .i64 y, .int .i64 m] w fun e w' => e = .returned (.int .i64 (mo y (m + 1) - mo y m)) ∧ Below w.heap.size w w' := by
  obtain ⟨k, rfl⟩ := Int.eq_ofNat_of_zero_le (show 0 ≤ m by omega)
  have L2 := Lib.hid (len_two y)
  have La := Lib.hid (fun h => len_at y k (by omega) (by omega) h)
  have hk : k < 13 := by omega
  have hc : ∀ W : World, (W.alloc (.cells lenV 78)).cell? ⟨W.heap.size, k, none⟩ = some (.int .i64 (lenAt k)) := fun W => by
    rw [World.cell?_alloc_at _ _ _ _ rfl, lenV_at k hk]
  by_cases e2 : k = 2
  · subst e2
    have c2 := hc w
    have v2 : lenAt 2 = 28 := rfl
    rw [v2] at c2
    clear hc h1 h2 hk
    rcases leapB_split y with hl | hl
    · have L := L2.out
      rw [if_pos hl] at L
      have HL := Lib.hid L
      clear L L2 La
      go_enter Tryd.func40, Tryd.ntmps40
      go_wp2_with (first | (go_at_call 55; refine (leapYear_any _ _ h).mono ?_; rintro e w' ⟨rfl, rfl⟩))
      go_ret
      exact ⟨ret_int HL.out.symm, Below.refl _ _⟩
    · have L := L2.out
      rw [hl] at L
      have HL := Lib.hid L
      clear L L2 La
      go_enter Tryd.func40, Tryd.ntmps40
      go_wp2_with (first | (go_at_call 55; refine (leapYear_any _ _ h).mono ?_; rintro e w' ⟨rfl, rfl⟩) | (refine wpList_store_new rfl _ (.tmp 5) (.tmp 12) rfl _ lenV rfl rfl info_len (by decide) one_len ?_))
      go_ret
      exact ⟨ret_int (by rw [show ((2 : Nat) : Int) + 1 = 3 by omega, show ((2 : Nat) : Int) = 2 by omega]; exact HL.out.symm), (Below.refl _ _).alloc (Nat.le_refl _) _⟩
  · have L := La.out e2
    have HL := Lib.hid L
    have c2 := hc w
    have e3 : ((k : Int) == 2) = false := beq_eq_false_iff_ne.2 (by omega)
    have i1 : (k : Int) < 13 := by omega
    clear L L2 La hc
    go_enter Tryd.func40, Tryd.ntmps40
    go_wp2_with (first | (refine wpList_store_new rfl _ (.tmp 5) (.tmp 12) rfl _ lenV rfl rfl info_len (by decide) one_len ?_))
    go_ret
    exact ⟨ret_int HL.out.symm, (Below.refl _ _).alloc (Nat.le_refl _) _⟩

set_option maxRecDepth 100000 in
set_option maxHeartbeats 2000000 in
theorem before_any (y m : Int) (w : World) (h : 1972 ≤ y) (h' : y ≤ 2200) (h1 : 1 ≤ m) (h2 : m ≤ 12) :
    Calls Tryd.prog 41 #[.int .i64 y, .int .i64 m] w fun e w' => e = .returned (.int .i64 (mo y m + 10227)) ∧ Below w.heap.size w w' := by
  have mb : ∀ z, 1900 ≤ z → z ≤ 2201 → ∀ k, 1 ≤ k → k ≤ 13 → -40000 ≤ mo z k ∧ mo z k ≤ 80000 := fun z a b k c d => by unfold mo dn fday; split <;> omega
  have Mb := Lib.hid mb
  clear mb
  go_enter Tryd.func41, Tryd.ntmps41
  go_wp2_with fail
  go_loop [5, 6] (fun n i => ∃ z : Int, 1972 ≤ z ∧ z ≤ y ∧ i = .int .i64 z ∧ n = .int .i64 (mo z 1 + 10227)) (fun _ i => (y - intOf i).toNat)
  case atStart => exact ⟨1972, by omega, by omega, rfl, by rw [mo_1972]; rfl⟩
  case round =>
    obtain ⟨z, z1, z2, rfl, rfl⟩ := hrel
    obtain ⟨b1, b2⟩ := Mb.out z (by omega) (by omega) 1 (by omega) (by omega)
    by_cases hz : z = y
    · subst hz
      go_wp2_with fail
      go_loopw [5, 7] (fun n i wr => ∃ k : Int, 1 ≤ k ∧ k ≤ m ∧ i = .int .i64 k ∧ n = .int .i64 (mo z k + 10227) ∧ Below w.heap.size w wr) (fun _ i _ => (m - intOf i).toNat)
      case atStart => exact ⟨1, by omega, by omega, rfl, rfl, Below.refl _ _⟩
      case round =>
        obtain ⟨k, k1, k2, rfl, rfl, hB⟩ := hrel
        obtain ⟨b3, b4⟩ := Mb.out z (by omega) (by omega) k (by omega) (by omega)
        by_cases hk : k = m
        · subst hk
          go_wp2_with fail
          go_ret
          exact ⟨rfl, hB⟩
        · have hk' : k < m := by omega
          obtain ⟨b5, b6⟩ := Mb.out z (by omega) (by omega) (k + 1) (by omega) (by omega)
          go_wp2_with (go_at_call 40; refine (length_any _ _ _ (by omega) (by omega) (by omega)).mono ?_; rintro e w2 ⟨rfl, hb⟩)
          go_roundw
          case rel => exact ⟨k + 1, by omega, by omega, rfl, ret_v (by omega), below_then hB hb⟩
          case measure => simp [intOf]; omega
    · have hz' : z < y := by omega
      have yl := Lib.hid (yr_len z)
      rcases leapB_split z with hl | hl
      · go_wp2_with (go_at_call 55; refine (leapYear_any _ _ (by omega)).mono ?_; rintro e w' ⟨rfl, rfl⟩)
        go_round
        case rel => exact ⟨z + 1, by omega, by omega, rfl, by rw [yl.out, if_pos hl]; exact ret_v (by omega)⟩
        case measure => simp [intOf]; omega
      · go_wp2_with (go_at_call 55; refine (leapYear_any _ _ (by omega)).mono ?_; rintro e w' ⟨rfl, rfl⟩)
        go_round
        case rel => exact ⟨z + 1, by omega, by omega, rfl, by rw [yl.out, if_neg (by simp [hl])]; exact ret_v (by omega)⟩
        case measure => simp [intOf]; omega
end Mw
end Go.Proofs.YtmgehfakcnmdnaaDoor
