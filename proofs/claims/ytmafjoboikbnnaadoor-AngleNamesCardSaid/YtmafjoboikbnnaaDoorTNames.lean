/-
  The walk of AngleNames: limits and errors.
-/
import Derived.Test.YtmafjoboikbnnaaDoorTDiffs
import Derived.Test.YtmafjoboikbnnaaDoorTMean
namespace Go.Proofs.YtmafjoboikbnnaaDoor
namespace At
open Go.RowKit Lw Ap

set_option maxRecDepth 100000 in
theorem ra_err (a : Int) (w : World) : Calls Tryd.prog 16 #[.int .i64 a, .int .i64 7] w fun e w' => e = .returned (.tuple #[.string ⟨#[]⟩, .int .i64 2]) ∧ w = w' := by
  go_enter Tryd.func16, Tryd.ntmps16
  go_wp2
  go_ret2
  exact ⟨rfl, rfl⟩
set_option maxRecDepth 100000 in
theorem dec_err (w : World) : Calls Tryd.prog 17 #[.int .i64 324000000001, .int .i64 0] w fun e w' => e = .returned (.tuple #[.string ⟨#[]⟩, .int .i64 2]) ∧ w = w' := by
  go_enter Tryd.func17, Tryd.ntmps17
  go_wp2
  go_ret2
  exact ⟨rfl, rfl⟩
set_option maxRecDepth 100000 in
theorem deg_err (a : Int) (w : World) : Calls Tryd.prog 18 #[.int .i64 a, .int .i64 0] w fun e w' => e = .returned (.tuple #[.string ⟨#[]⟩, .int .i64 2]) ∧ w = w' := by
  go_enter Tryd.func18, Tryd.ntmps18
  go_wp2
  go_ret2
  exact ⟨rfl, rfl⟩
theorem g9000 : glueL 90 0 0 = [57, 48, 32, 48, 48, 32, 48, 48] := by unfold glueL; rw [pad90, p02]; rfl
theorem ra_n : raL 1295999999999 3 = [48, 48, 32, 48, 48, 32, 48, 48, 46, 48, 48, 48] := by
  have e : rndN ((1295999999999 : Int) % 1296000000000).toNat (15000000 / 10 ^ 3) % (86400 * 10 ^ 3) = 0 := by decide
  unfold raL
  rw [e]
  show glueL 0 0 0 ++ (46 :: padL 0 3) = _
  rw [g000, pad0]; rfl
theorem dec_n : decL 324000000000 6 = [43, 57, 48, 32, 48, 48, 32, 48, 48, 46, 48, 48, 48, 48, 48, 48] := by
  have e : rndN ((324000000000 : Int)).natAbs (1000000 / 10 ^ 6) = 324000000000 := by decide
  unfold decL
  rw [e, if_neg (by omega)]
  show 43 :: (glueL 90 0 0 ++ (46 :: padL 0 6)) = _
  rw [g9000, pad0]; rfl
theorem deg_n : degL (-1) 3 = [48, 46, 48, 48, 48] := by
  have e : degN ((-1 : Int)).natAbs 3 = 0 := by decide
  unfold degL
  rw [e, if_neg (by omega)]
  show Lib.itoa 0 ++ 46 :: padL 0 3 = _
  rw [i0, pad0]; rfl
abbrev l1 : ByteArray := ⟨#[50, 52, 32, 48, 48, 32, 48, 48]⟩
theorem l1_is : RaIs l1 0 12 := by decide +kernel
abbrev l2 : ByteArray := ⟨#[48, 48, 32, 48, 48, 32, 54, 48]⟩
theorem l2_is : RaIs l2 0 12 := by decide +kernel
abbrev l3 : ByteArray := ⟨#[48, 48, 32, 48, 48, 32, 48, 48, 46]⟩
theorem l3_is : RaIs l3 0 12 := by decide +kernel
abbrev l4 : ByteArray := ⟨#[48, 48, 32, 48, 48, 32, 48, 48]⟩
theorem l4_is : DecIs l4 0 12 := by decide +kernel
abbrev l5 : ByteArray := ⟨#[43, 57, 48, 32, 48, 48, 32, 48, 48, 46, 49]⟩
theorem l5_is : DecIs l5 0 12 := by decide +kernel
abbrev l6 : ByteArray := ⟨#[45, 57, 48, 32, 48, 48, 32, 48, 48, 46, 48, 48, 48, 48, 48, 48]⟩
theorem l6_is : DecIs l6 (-324000000000) 0 := by decide +kernel
abbrev d1 : ByteArray := ⟨#[48, 49, 46, 53]⟩
theorem d1_is : DegT (negB d1) (bodyOf d1) (ptOf (bodyOf d1)) (0) (12) := by decide +kernel
abbrev d2 : ByteArray := ⟨#[49, 46]⟩
theorem d2_is : DegT (negB d2) (bodyOf d2) (ptOf (bodyOf d2)) (0) (12) := by decide +kernel
abbrev d3 : ByteArray := ⟨#[51, 54, 48, 46, 48]⟩
theorem d3_is : DegT (negB d3) (bodyOf d3) (ptOf (bodyOf d3)) (1296000000000) (0) := by decide +kernel
abbrev d4 : ByteArray := ⟨#[45, 48, 46, 48]⟩
theorem d4_is : DegT (negB d4) (bodyOf d4) (ptOf (bodyOf d4)) (0) (12) := by decide +kernel
def meanF (j : Nat) : Int := if j = 0 then 0 else if j = 1 then -3 else 2
theorem mean_3 : Pl.mean meanF 3 = 1295999999999 := by decide
theorem mean_row (w : World) (t : TypeId) : Turns.Row (w.alloc (.cells #[.int .i64 0, .int .i64 (-3), .int .i64 2] t)) w.heap.size 0 3 meanF := by
  refine ⟨fun j hj => ?_, fun j hj => by unfold meanF; split <;> (try split) <;> omega, fun j hj => by unfold meanF; split <;> (try split) <;> omega⟩
  rw [Nat.zero_add, World.cell?_alloc_at _ _ _ _ rfl]
  match j, hj with
  | 0, _ => rfl
  | 1, _ => rfl
  | 2, _ => rfl
theorem mean_lit (w : World) (t : TypeId) : Calls Tryd.prog 19 #[.slice (some ⟨w.heap.size, 0, none⟩) 3 3] (w.alloc (.cells #[.int .i64 0, .int .i64 (-3), .int .i64 2] t)) fun e w' => e = .returned (.tuple #[.int .i64 1295999999999, .int .i64 0]) ∧ Below w.heap.size w w' := by
  have h := Turns.mean_any w.heap.size 0 3 3 meanF _ (by omega) (by omega) (mean_row w t)
  rw [mean_3] at h
  exact h.mono fun _ _ ⟨x, k, y⟩ => ⟨x, by rw [y]; exact drewN_below2 ((Below.refl _ _).alloc (Nat.le_refl _) _) k⟩

set_option maxRecDepth 100000 in
set_option maxHeartbeats 20000000 in
theorem names_any (m : Int) (w : World) (hT : Tab w) (hm : w.cell? ⟨0, 0, none⟩ = some (.int .i64 m)) :
    Calls Tryd.prog 6 #[] w fun e w' => e = .returned (.bool true) ∧ Below w.heap.size w w' := by
  have A0 := Lib.hid (AS.start hT hm)
  clear hT hm
  go_enter Tryd.func6, Tryd.ntmps6
  go_wp2_with fail
  go_at_call 16
  refine (ra_err 0 _).mono ?_
  rintro e w' ⟨rfl, hw⟩
  subst hw
  go_wp2_with fail
  go_at_call 16
  refine (ratext_any 1295999999999 3 _ A0.out.ts.tab (by omega) (by omega) (by omega)).mono ?_
  rintro e w1 ⟨rfl, b1⟩
  rw [ra_n]
  have A1 := Lib.hid (A0.out.call b1)
  clear A0 b1
  go_wp2_with fail
  go_at_call 17
  refine (dec_err _).mono ?_
  rintro e w' ⟨rfl, hw⟩
  subst hw
  go_wp2_with fail
  go_at_call 17
  refine (dectext_any 324000000000 6 _ A1.out.ts.tab (by omega) (by omega) (by omega)).mono ?_
  rintro e w2 ⟨rfl, b2⟩
  rw [dec_n]
  have A2 := Lib.hid (A1.out.call b2)
  clear A1 b2
  go_wp2_with fail
  go_at_call 18
  refine (deg_err 0 _).mono ?_
  rintro e w' ⟨rfl, hw⟩
  subst hw
  go_wp2_with fail
  go_at_call 18
  refine (degtext_any (-1) 3 _ A2.out.ts.tab (by omega) (by omega) (by omega) (by omega)).mono ?_
  rintro e w3 ⟨rfl, b3⟩
  rw [deg_n]
  have A3 := Lib.hid (A2.out.call b3)
  clear A2 b3
  go_wp2_with fail
  go_at_call 7
  refine (ra_lit l1 _ _ l1_is (by decide) _).mono ?_
  rintro e w4 ⟨rfl, b4⟩
  have A4 := Lib.hid (A3.out.call b4)
  clear A3 b4
  go_wp2_with fail
  go_at_call 7
  refine (ra_lit l2 _ _ l2_is (by decide) _).mono ?_
  rintro e w5 ⟨rfl, b5⟩
  have A5 := Lib.hid (A4.out.call b5)
  clear A4 b5
  go_wp2_with fail
  go_at_call 7
  refine (ra_lit l3 _ _ l3_is (by decide) _).mono ?_
  rintro e w6 ⟨rfl, b6⟩
  have A6 := Lib.hid (A5.out.call b6)
  clear A5 b6
  go_wp2_with fail
  go_at_call 9
  refine (dec_lit l4 _ _ l4_is (by decide) _).mono ?_
  rintro e w7 ⟨rfl, b7⟩
  have A7 := Lib.hid (A6.out.call b7)
  clear A6 b7
  go_wp2_with fail
  go_at_call 9
  refine (dec_lit l5 _ _ l5_is (by decide) _).mono ?_
  rintro e w8 ⟨rfl, b8⟩
  have A8 := Lib.hid (A7.out.call b8)
  clear A7 b8
  go_wp2_with fail
  go_at_call 9
  refine (dec_lit l6 _ _ l6_is (by decide) _).mono ?_
  rintro e w9 ⟨rfl, b9⟩
  have A9 := Lib.hid (A8.out.call b9)
  clear A8 b9
  go_wp2_with fail
  go_at_call 11
  refine (deg_lit d1 _ _ d1_is (by decide) m _ A9.out.cell).mono ?_
  rintro e w10 ⟨rfl, b10⟩
  have A10 := Lib.hid (A9.out.call b10)
  clear A9 b10
  go_wp2_with fail
  go_at_call 11
  refine (deg_lit d2 _ _ d2_is (by decide) m _ A10.out.cell).mono ?_
  rintro e w11 ⟨rfl, b11⟩
  have A11 := Lib.hid (A10.out.call b11)
  clear A10 b11
  go_wp2_with fail
  go_at_call 11
  refine (deg_lit d3 _ _ d3_is (by decide) m _ A11.out.cell).mono ?_
  rintro e w12 ⟨rfl, b12⟩
  have A12 := Lib.hid (A11.out.call b12)
  clear A11 b12
  go_wp2_with fail
  go_at_call 11
  refine (deg_lit d4 _ _ d4_is (by decide) m _ A12.out.cell).mono ?_
  rintro e w13 ⟨rfl, b13⟩
  have A13 := Lib.hid (A12.out.call b13)
  clear A12 b13
  go_wp2_with fail
  go_at_call 19
  refine (Turns.mean_short none 0 _).mono ?_
  rintro e w' ⟨rfl, hw⟩
  subst hw
  go_wp2_with fail
  go_at_call 19
  refine (mean_lit _ _).mono ?_
  rintro e w14 ⟨rfl, b14⟩
  have A14 := Lib.hid (A13.out.call b14)
  clear A13 b14
  have AL := Lib.hid (alive_any m _ A14.out.ts.tab A14.out.cell)
  go_wp2_with (first | (go_at_call 20; refine (text_eq _ _).mono ?_; rintro e w' ⟨rfl, rfl⟩) | (go_at_call 21; refine (number_eq _ _).mono ?_; rintro e w' ⟨rfl, rfl⟩) | (go_at_call 13; refine AL.out.mono ?_; rintro e wa ⟨rfl, ba⟩) | (go_at_call 14; refine (Turns.norm_any _ _ (by decide) (by decide)).mono ?_; rintro e w' ⟨rfl, rfl⟩) | (go_at_call 22; refine (Turns.rnorm_any _ _ (by decide) (by decide)).mono ?_; rintro e w' ⟨rfl, rfl⟩))
  go_ret
  exact ⟨rfl, below_then A14.out.ts.below ba⟩
end At
end Go.Proofs.YtmafjoboikbnnaaDoor
