/-
  strings.IndexRune at a rune that is no ASCII, in a string of ASCII: it is not there.
-/
import Derived.Test.YtdjndoafnoidbaaDoorDIdx
import Derived.WalkMore
namespace Go.Proofs.YtdjndoafnoidbaaDoor
namespace Dw
open Go.RowKit Dp Lw
set_option maxRecDepth 100000 in
set_option maxHeartbeats 2000000 in
theorem idx_high (D : ByteArray) (r : Int) (w : World) (hD : ∀ b ∈ D.data.toList, b.toNat < 128) (hs : D.size ≤ 62) (hs1 : 4 ≤ D.size) (h0 : 128 ≤ r) (h1 : r ≤ 2147483647) (hn : r ≠ 65533) :
    Calls Tryd.prog 56 #[.string D, .int .i32 r] w fun e w' => e = .returned (.int .i64 (-1)) ∧ Below w.heap.size w w' := by
  have e1 : (r == 65533) = false := beq_eq_false_iff_ne.2 hn
  have e0 : decide (r < 128) = false := by rw [decide_eq_false_iff_not]; omega
  have V := Lib.hid (Tryd.utf8_ValidRune r w)
  have ve : Lib.validRune r = Utf8.valid r := by
    rw [validRune_eq r]; rfl
  rw [ve] at V
  cases hv : Utf8.valid r with
  | false =>
    rw [hv] at V
    clear ve
    go_enter Tryd.func56, Tryd.ntmps56
    go_wp2_with fail
    go_at_call 66
    refine V.out.mono ?_
    rintro e w' ⟨rfl, rfl⟩
    go_wp2_with fail
    go_ret
    exact ⟨rfl, Below.refl _ _⟩
  | true =>
    obtain ⟨z1, z2, z3⟩ := encode_facts r hv h0
    rw [hv] at V
    clear ve
    obtain ⟨E, hE⟩ : ∃ E, Utf8.encode r = E := ⟨_, rfl⟩
    rw [hE] at z1 z2 z3
    obtain ⟨k, hk⟩ : ∃ k, E.size = k + 1 := ⟨E.size - 1, by omega⟩
    have kE : k < E.size := by omega
    have z4 : 128 ≤ (E[k]'kE).toNat := by
      have := z3 (by omega)
      simpa [hk] using this
    clear z3
    have kD : k < D.size := by omega
    have kD' : (k : Int) < (D.size : Int) := by omega
    have bD := hD _ (get_mem D k kD)
    have ne : ((D[k].toNat : Int) != ((E[k]'kE).toNat : Int)) = true := by rw [bne_iff_ne]; omega
    have IX := Lib.hid (idx_ascii D (k + 1) D.size (E[k]'kE) hD z4)
    have IXC := Lib.hid (show ∀ (n m : Nat), Calls Tryd.prog 43 #[.string (D.extract (k + 1) D.size), .int .u8 ((E[k]'kE).toNat : Int)] (w.drewN (n + m)) fun e w' => e = .returned (.int .i64 (-1)) ∧ ∃ j, w' = w.drewN (n + j) from
      fun n m => (Tryd.strings_IndexByte _ _ _).mono fun e w' ⟨he, hw⟩ => ⟨by
        rw [he, show ((E[k]'kE).toNat : Int).toNat.toUInt8 = E[k]'kE by simp, IX.out], m, hw⟩)
    have kE' : (k : Int) < (E.size : Int) := by omega
    have hk1 : (E.size : Int) - 1 = k := by omega
    have HK := Lib.hid hk
    clear hD IX hk
    go_enter Tryd.func56, Tryd.ntmps56
    go_wp2_with fail
    go_at_call 66
    refine V.out.mono ?_
    rintro e w' ⟨rfl, rfl⟩
    go_wp2_with fail
    go_step3
    go_wp2_with fail
    go_loop [9] (fun i => i = .int .i64 k) (fun _ => 0)
    case atStart => go_num
    case round =>
      subst hrel
      go_wp2_with fail
      go_step3
      go_wp2_with fail
      go_quiet (fail)
      go_wp2_with fail
      go_quiet ((go_at_call 43; exact IXC.out _ _))
      go_wp2_with fail
      rw [Exit.noGoto_ret]
      unfold Exit.inBlock
      dsimp only
      show Exit.noGoto _ Exit.ret _ _
      rw [Exit.noGoto_ret]
      unfold Exit.inBlock
      dsimp only
      show Exit.noGoto _ Exit.ret _ _
      rw [Exit.noGoto_ret]
      (show Exit.noGoto _ Exit.ret _ _)
      rw [Exit.noGoto_ret]
      go_ret
      exact ⟨rfl, drewN_below2 (Below.refl _ _) _⟩
def digS (b : Nat) : ByteArray := ⟨((List.range b).map dig62).toArray⟩
/-- The place of a rune among the first digits, or -1. -/
def idxR (b : Nat) (r : Int) : Int := if r < 128 ∧ worthN (UInt8.ofNat r.toNat) < b then (worthN (UInt8.ofNat r.toNat) : Int) else -1
theorem idx_10 : ∀ r : Nat, r < 128 → Lib.indexByte (digS 10).data.toList r.toUInt8 = idxR 10 r := by decide +kernel
theorem idx_62 : ∀ r : Nat, r < 128 → Lib.indexByte (digS 62).data.toList r.toUInt8 = idxR 62 r := by decide +kernel
theorem digS_ascii : ∀ b, b = 10 ∨ b = 62 → (∀ x ∈ (digS b).data.toList, x.toNat < 128) ∧ (digS b).size = b := by
  rintro b (rfl | rfl)
  · exact ⟨by decide +kernel, rfl⟩
  · exact ⟨by decide +kernel, rfl⟩
theorem idxr_any (b : Nat) (r : Int) (w : World) (hb : b = 10 ∨ b = 62) (h0 : 0 ≤ r) (h1 : r ≤ 2147483647) :
    Calls Tryd.prog 56 #[.string (digS b), .int .i32 r] w fun e w' => e = .returned (.int .i64 (idxR b r)) ∧ Below w.heap.size w w' ∧ (r < 128 → w' = w) := by
  by_cases hr : r < 128
  · obtain ⟨k, rfl⟩ := Int.eq_ofNat_of_zero_le h0
    refine (Tryd.strings_IndexRune_ascii (digS b) k w h0 hr).mono fun e w' ⟨he, hw⟩ => ⟨?_, by rw [hw]; exact Below.refl _ _, fun _ => hw⟩
    rw [he, Int.toNat_natCast]
    rcases hb with rfl | rfl
    · rw [idx_10 k (by omega)]
    · rw [idx_62 k (by omega)]
  · have e : idxR b r = -1 := if_neg (fun g => hr g.1)
    obtain ⟨hD, hs⟩ := digS_ascii b hb
    rw [e]
    by_cases hn : r = 65533
    · subst hn
      exact (idx_fffd (digS b) w hD (by omega)).mono fun e w' ⟨he, hw⟩ => ⟨he, hw, fun g => absurd g hr⟩
    · exact (idx_high (digS b) r w hD (by omega) (by omega) (by omega) h1 hn).mono fun e w' ⟨he, hw⟩ => ⟨he, hw, fun g => absurd g hr⟩
end Dw
end Go.Proofs.YtdjndoafnoidbaaDoor
