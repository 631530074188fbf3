/-
  Lemmas and walks, texts joined: ORMagn, ORParse, ORRound, OLines.
-/
import Derived.Deep.RegionHeld3
import Derived.Deep.MidRow
import Derived.Test.YtgodhaphbgllhaaGreatDoorOa07
import Derived.Test.YtgodhaphbgllhaaGreatDoorOa05
import Derived.Test.YtgodhaphbgllhaaGreatDoorOc01
import Derived.Test.YtgodhaphbgllhaaGreatDoorOa08
set_option linter.unusedSimpArgs false
set_option linter.unusedVariables false
/-
  The walk of magnitude of the reference of observations.
-/
namespace Go.Proofs.YtgodhaphbgllhaaGreatDoor
namespace Ow
open Go.RowKit Lw Go.Proofs.YtgodhaphbgllhaaGreatDoor.Ap Go.Proofs.YtgodhaphbgllhaaGreatDoor.Op Go.Proofs.YtgodhaphbgllhaaGreatDoor.Mp Go.Proofs.YtgodhaphbgllhaaGreatDoor.Mw Go.Proofs.YtgodhaphbgllhaaGreatDoor.At

/-- What five bytes say, by their numbers. -/
def magQ (A B C D E m : Int) : Prop := C = 46 ∧ dgP B ∧ dgP D ∧ (dgP E ∨ E = 32) ∧
  ((A = 45 ∧ m = -(100 * (B - 48) + 10 * (D - 48) + (if E = 32 then 0 else E - 48)) ∧ 0 < 100 * (B - 48) + 10 * (D - 48) + (if E = 32 then 0 else E - 48)) ∨
   (A = 32 ∧ m = 100 * (B - 48) + 10 * (D - 48) + (if E = 32 then 0 else E - 48)) ∨
   (dgP A ∧ A ≠ 48 ∧ m = 100 * (B - 48) + 10 * (D - 48) + (if E = 32 then 0 else E - 48) + 1000 * (A - 48) ∧ m ≤ 3000))
theorem mag_q (a b c d e : UInt8) (m : Int) : MagIs ⟨#[a, b, c, d, e]⟩ m ↔ magQ a.toNat b.toNat c.toNat d.toNat e.toNat m := by
  obtain ⟨q0, q1, q2, q3, q4⟩ := bt5 a b c d e
  unfold MagIs magN magQ
  rw [q0, q1, q2, q3, q4]
def magQA (A B C D E m : Int) (b : Bool) : Prop := (b = true ∧ magQ A B C D E m) ∨ (b = false ∧ ∀ x, ¬ magQ A B C D E x)
theorem magQ_no {A B C D E m : Int} (h : ∀ x, ¬ magQ A B C D E x) : magQA A B C D E m false := Or.inr ⟨rfl, h⟩
/-- Five bytes as a string. -/
theorem five_str (a b c d e : UInt8) : ∃ F : ByteArray, F = ⟨#[a, b, c, d, e]⟩ ∧ F.size = 5 ∧ (∀ h : 0 < F.size, ((F[0]'h).toNat : Int) = a.toNat) ∧ (∀ h : 1 < F.size, ((F[1]'h).toNat : Int) = b.toNat) ∧ (∀ h : 2 < F.size, ((F[2]'h).toNat : Int) = c.toNat) ∧ (∀ h : 3 < F.size, ((F[3]'h).toNat : Int) = d.toNat) ∧ (∀ h : 4 < F.size, ((F[4]'h).toNat : Int) = e.toNat) :=
  ⟨_, rfl, rfl, fun _ => rfl, fun _ => rfl, fun _ => rfl, fun _ => rfl, fun _ => rfl⟩
def MagQPost (A B C D E : Int) (w : World) (e : Ending) (w' : World) : Prop := ∃ (m : Int) (b : Bool), e = .returned (.tuple #[.int .i64 m, .bool b]) ∧ magQA A B C D E m b ∧ Below w.heap.size w w'
set_option maxRecDepth 100000 in
set_option maxHeartbeats 16000000 in
theorem rmag_c (F : ByteArray) (A B C D E : Int) (w : World) (zF : F.size = 5) (j0 : 0 < F.size) (j1 : 1 < F.size) (j2 : 2 < F.size) (j3 : 3 < F.size) (j4 : 4 < F.size) (i0 : ((F[0]'j0).toNat : Int) = A) (i1 : ((F[1]'j1).toNat : Int) = B) (i2 : ((F[2]'j2).toNat : Int) = C) (i3 : ((F[3]'j3).toNat : Int) = D) (i4 : ((F[4]'j4).toNat : Int) = E) (a0 : 0 ≤ A) (a1 : A < 256) (b0 : 0 ≤ B) (b1 : B < 256) (d0 : 0 ≤ D) (d1 : D < 256) (e0 : 0 ≤ E) (e1 : E < 256) (h : C ≠ 46) : Calls Tryz.prog 52 #[.string F] w (MagQPost A B C D E w) := by
  have N := Lib.hid (magQ_no (A := A) (B := B) (C := C) (D := D) (E := E) (m := 0) (fun x g => h g.1))
  have hC : (C != 46) = true := by rw [bne, beq_eq_false_iff_ne.2 h]; rfl
  clear h
  go_enter Tryz.func52, Tryz.ntmps52
  go_wp2_with (go_at_call 107; refine (rdigit_any _ _).mono ?_; rintro e w' ⟨rfl, rfl⟩)
  go_ret2
  exact ⟨_, false, rfl, N.out, by first | exact Below.refl _ _ | exact drewN_below2 (Below.refl _ _) _ | exact (Below.refl _ _).drew⟩
set_option maxRecDepth 100000 in
set_option maxHeartbeats 16000000 in
theorem rmag_b (F : ByteArray) (A B C D E : Int) (w : World) (zF : F.size = 5) (j0 : 0 < F.size) (j1 : 1 < F.size) (j2 : 2 < F.size) (j3 : 3 < F.size) (j4 : 4 < F.size) (i0 : ((F[0]'j0).toNat : Int) = A) (i1 : ((F[1]'j1).toNat : Int) = B) (i2 : ((F[2]'j2).toNat : Int) = C) (i3 : ((F[3]'j3).toNat : Int) = D) (i4 : ((F[4]'j4).toNat : Int) = E) (a0 : 0 ≤ A) (a1 : A < 256) (b0 : 0 ≤ B) (b1 : B < 256) (d0 : 0 ≤ D) (d1 : D < 256) (e0 : 0 ≤ E) (e1 : E < 256) (h : C = 46) (hB : dgB B = false) : Calls Tryz.prog 52 #[.string F] w (MagQPost A B C D E w) := by
  have N := Lib.hid (magQ_no (A := A) (B := B) (C := C) (D := D) (E := E) (m := 0) (fun x g => of_decide_eq_false hB g.2.1))
  subst h
  go_enter Tryz.func52, Tryz.ntmps52
  go_wp2_with (go_at_call 107; refine (rdigit_any _ _).mono ?_; rintro e w' ⟨rfl, rfl⟩)
  go_ret2
  exact ⟨_, false, rfl, N.out, by first | exact Below.refl _ _ | exact drewN_below2 (Below.refl _ _) _ | exact (Below.refl _ _).drew⟩
set_option maxRecDepth 100000 in
set_option maxHeartbeats 16000000 in
theorem rmag_d (F : ByteArray) (A B C D E : Int) (w : World) (zF : F.size = 5) (j0 : 0 < F.size) (j1 : 1 < F.size) (j2 : 2 < F.size) (j3 : 3 < F.size) (j4 : 4 < F.size) (i0 : ((F[0]'j0).toNat : Int) = A) (i1 : ((F[1]'j1).toNat : Int) = B) (i2 : ((F[2]'j2).toNat : Int) = C) (i3 : ((F[3]'j3).toNat : Int) = D) (i4 : ((F[4]'j4).toNat : Int) = E) (a0 : 0 ≤ A) (a1 : A < 256) (b0 : 0 ≤ B) (b1 : B < 256) (d0 : 0 ≤ D) (d1 : D < 256) (e0 : 0 ≤ E) (e1 : E < 256) (h : C = 46) (hB : dgB B = true) (hD : dgB D = false) : Calls Tryz.prog 52 #[.string F] w (MagQPost A B C D E w) := by
  have N := Lib.hid (magQ_no (A := A) (B := B) (C := C) (D := D) (E := E) (m := 0) (fun x g => of_decide_eq_false hD g.2.2.1))
  subst h
  go_enter Tryz.func52, Tryz.ntmps52
  go_wp2_with (go_at_call 107; refine (rdigit_any _ _).mono ?_; rintro e w' ⟨rfl, rfl⟩)
  go_ret2
  exact ⟨_, false, rfl, N.out, by first | exact Below.refl _ _ | exact drewN_below2 (Below.refl _ _) _ | exact (Below.refl _ _).drew⟩
set_option maxRecDepth 100000 in
set_option maxHeartbeats 16000000 in
theorem rmag_e (F : ByteArray) (A B C D E : Int) (w : World) (zF : F.size = 5) (j0 : 0 < F.size) (j1 : 1 < F.size) (j2 : 2 < F.size) (j3 : 3 < F.size) (j4 : 4 < F.size) (i0 : ((F[0]'j0).toNat : Int) = A) (i1 : ((F[1]'j1).toNat : Int) = B) (i2 : ((F[2]'j2).toNat : Int) = C) (i3 : ((F[3]'j3).toNat : Int) = D) (i4 : ((F[4]'j4).toNat : Int) = E) (a0 : 0 ≤ A) (a1 : A < 256) (b0 : 0 ≤ B) (b1 : B < 256) (d0 : 0 ≤ D) (d1 : D < 256) (e0 : 0 ≤ E) (e1 : E < 256) (h : C = 46) (hB : dgB B = true) (hD : dgB D = true) (hE : dgB E = false) (nE : E ≠ 32) : Calls Tryz.prog 52 #[.string F] w (MagQPost A B C D E w) := by
  have N := Lib.hid (magQ_no (A := A) (B := B) (C := C) (D := D) (E := E) (m := 0) (fun x g => g.2.2.2.1.elim (of_decide_eq_false hE) nE))
  have hE2 : (E != 32) = true := by rw [bne, beq_eq_false_iff_ne.2 nE]; rfl
  subst h
  go_enter Tryz.func52, Tryz.ntmps52
  go_wp2_with (go_at_call 107; refine (rdigit_any _ _).mono ?_; rintro e w' ⟨rfl, rfl⟩)
  go_ret2
  exact ⟨_, false, rfl, N.out, by first | exact Below.refl _ _ | exact drewN_below2 (Below.refl _ _) _ | exact (Below.refl _ _).drew⟩
set_option maxRecDepth 100000 in
set_option maxHeartbeats 16000000 in
theorem rmag_m_s (F : ByteArray) (A B C D E : Int) (w : World) (zF : F.size = 5) (j0 : 0 < F.size) (j1 : 1 < F.size) (j2 : 2 < F.size) (j3 : 3 < F.size) (j4 : 4 < F.size) (i0 : ((F[0]'j0).toNat : Int) = A) (i1 : ((F[1]'j1).toNat : Int) = B) (i2 : ((F[2]'j2).toNat : Int) = C) (i3 : ((F[3]'j3).toNat : Int) = D) (i4 : ((F[4]'j4).toNat : Int) = E) (a0 : 0 ≤ A) (a1 : A < 256) (b0 : 0 ≤ B) (b1 : B < 256) (d0 : 0 ≤ D) (d1 : D < 256) (e0 : 0 ≤ E) (e1 : E < 256) (h : C = 46) (hB : dgB B = true) (hD : dgB D = true) (hE : E = 32) (hE2 : dgB E = false) (hA : A = 45) : Calls Tryz.prog 52 #[.string F] w (MagQPost A B C D E w) := by
  obtain ⟨p0, p1⟩ := (of_decide_eq_true hB : dgP B)
  obtain ⟨p2, p3⟩ := (of_decide_eq_true hD : dgP D)
  have MQ : ∀ m, magQ A B C D E m ↔ ((A = 45 ∧ m = -(100 * (B - 48) + 10 * (D - 48)) ∧ 0 < (100 * (B - 48) + 10 * (D - 48))) ∨ (A = 32 ∧ m = (100 * (B - 48) + 10 * (D - 48))) ∨ (dgP A ∧ A ≠ 48 ∧ m = (100 * (B - 48) + 10 * (D - 48)) + 1000 * (A - 48) ∧ m ≤ 3000)) := fun m => by
    unfold magQ
    rw [(show (if E = 32 then (0 : Int) else E - 48) = 0 from if_pos hE)]
    simp only [Int.add_zero, and_iff_right h, and_iff_right (of_decide_eq_true hB : dgP B), and_iff_right (of_decide_eq_true hD : dgP D), and_iff_right (show dgP E ∨ E = 32 from Or.inr hE)]
  have R := Lib.hid (show magQA A B C D E (-(100 * (B - 48) + 10 * (D - 48))) (decide (0 < (100 * (B - 48) + 10 * (D - 48)))) by
    by_cases g : 0 < (100 * (B - 48) + 10 * (D - 48))
    · rw [decide_eq_true g]; exact Or.inl ⟨rfl, (MQ _).2 (Or.inl ⟨hA, rfl, g⟩)⟩
    · rw [decide_eq_false g]
      refine Or.inr ⟨rfl, fun x q => ?_⟩
      have := (MQ x).1 q
      unfold dgP at this
      omega)
  clear MQ
  subst h
  subst hE
  subst hA
  go_enter Tryz.func52, Tryz.ntmps52
  go_wp2_with (go_at_call 107; refine (rdigit_any _ _).mono ?_; rintro e w' ⟨rfl, rfl⟩)
  go_quiet (fail)
  go_wp2_with (go_at_call 107; refine (rdigit_any _ _).mono ?_; rintro e w' ⟨rfl, rfl⟩)
  go_ret2
  exact ⟨_, _, rfl, R.out, by first | exact Below.refl _ _ | exact drewN_below2 (Below.refl _ _) _ | exact (Below.refl _ _).drew⟩
set_option maxRecDepth 100000 in
set_option maxHeartbeats 16000000 in
theorem rmag_s_s (F : ByteArray) (A B C D E : Int) (w : World) (zF : F.size = 5) (j0 : 0 < F.size) (j1 : 1 < F.size) (j2 : 2 < F.size) (j3 : 3 < F.size) (j4 : 4 < F.size) (i0 : ((F[0]'j0).toNat : Int) = A) (i1 : ((F[1]'j1).toNat : Int) = B) (i2 : ((F[2]'j2).toNat : Int) = C) (i3 : ((F[3]'j3).toNat : Int) = D) (i4 : ((F[4]'j4).toNat : Int) = E) (a0 : 0 ≤ A) (a1 : A < 256) (b0 : 0 ≤ B) (b1 : B < 256) (d0 : 0 ≤ D) (d1 : D < 256) (e0 : 0 ≤ E) (e1 : E < 256) (h : C = 46) (hB : dgB B = true) (hD : dgB D = true) (hE : E = 32) (hE2 : dgB E = false) (hA : A = 32) : Calls Tryz.prog 52 #[.string F] w (MagQPost A B C D E w) := by
  obtain ⟨p0, p1⟩ := (of_decide_eq_true hB : dgP B)
  obtain ⟨p2, p3⟩ := (of_decide_eq_true hD : dgP D)
  have MQ : ∀ m, magQ A B C D E m ↔ ((A = 45 ∧ m = -(100 * (B - 48) + 10 * (D - 48)) ∧ 0 < (100 * (B - 48) + 10 * (D - 48))) ∨ (A = 32 ∧ m = (100 * (B - 48) + 10 * (D - 48))) ∨ (dgP A ∧ A ≠ 48 ∧ m = (100 * (B - 48) + 10 * (D - 48)) + 1000 * (A - 48) ∧ m ≤ 3000)) := fun m => by
    unfold magQ
    rw [(show (if E = 32 then (0 : Int) else E - 48) = 0 from if_pos hE)]
    simp only [Int.add_zero, and_iff_right h, and_iff_right (of_decide_eq_true hB : dgP B), and_iff_right (of_decide_eq_true hD : dgP D), and_iff_right (show dgP E ∨ E = 32 from Or.inr hE)]
  have R := Lib.hid (show magQA A B C D E (100 * (B - 48) + 10 * (D - 48)) true from Or.inl ⟨rfl, (MQ _).2 (Or.inr (Or.inl ⟨hA, rfl⟩))⟩)
  clear MQ
  subst h
  subst hE
  subst hA
  go_enter Tryz.func52, Tryz.ntmps52
  go_wp2_with (go_at_call 107; refine (rdigit_any _ _).mono ?_; rintro e w' ⟨rfl, rfl⟩)
  go_quiet (fail)
  go_wp2_with (go_at_call 107; refine (rdigit_any _ _).mono ?_; rintro e w' ⟨rfl, rfl⟩)
  go_ret2
  exact ⟨_, _, rfl, R.out, by first | exact Below.refl _ _ | exact drewN_below2 (Below.refl _ _) _ | exact (Below.refl _ _).drew⟩
set_option maxRecDepth 100000 in
set_option maxHeartbeats 16000000 in
theorem rmag_x_s (F : ByteArray) (A B C D E : Int) (w : World) (zF : F.size = 5) (j0 : 0 < F.size) (j1 : 1 < F.size) (j2 : 2 < F.size) (j3 : 3 < F.size) (j4 : 4 < F.size) (i0 : ((F[0]'j0).toNat : Int) = A) (i1 : ((F[1]'j1).toNat : Int) = B) (i2 : ((F[2]'j2).toNat : Int) = C) (i3 : ((F[3]'j3).toNat : Int) = D) (i4 : ((F[4]'j4).toNat : Int) = E) (a0 : 0 ≤ A) (a1 : A < 256) (b0 : 0 ≤ B) (b1 : B < 256) (d0 : 0 ≤ D) (d1 : D < 256) (e0 : 0 ≤ E) (e1 : E < 256) (h : C = 46) (hB : dgB B = true) (hD : dgB D = true) (hE : E = 32) (hE2 : dgB E = false) (n1 : A ≠ 45) (n2 : A ≠ 32) (hA : dgB A = false) : Calls Tryz.prog 52 #[.string F] w (MagQPost A B C D E w) := by
  obtain ⟨p0, p1⟩ := (of_decide_eq_true hB : dgP B)
  obtain ⟨p2, p3⟩ := (of_decide_eq_true hD : dgP D)
  have MQ : ∀ m, magQ A B C D E m ↔ ((A = 45 ∧ m = -(100 * (B - 48) + 10 * (D - 48)) ∧ 0 < (100 * (B - 48) + 10 * (D - 48))) ∨ (A = 32 ∧ m = (100 * (B - 48) + 10 * (D - 48))) ∨ (dgP A ∧ A ≠ 48 ∧ m = (100 * (B - 48) + 10 * (D - 48)) + 1000 * (A - 48) ∧ m ≤ 3000)) := fun m => by
    unfold magQ
    rw [(show (if E = 32 then (0 : Int) else E - 48) = 0 from if_pos hE)]
    simp only [Int.add_zero, and_iff_right h, and_iff_right (of_decide_eq_true hB : dgP B), and_iff_right (of_decide_eq_true hD : dgP D), and_iff_right (show dgP E ∨ E = 32 from Or.inr hE)]
  have R := Lib.hid (fun m => show magQA A B C D E m false from magQ_no fun x q => by
    have := (MQ x).1 q
    have := of_decide_eq_false hA
    unfold dgP at *
    omega)
  have n1' : (A == 45) = false := beq_eq_false_iff_ne.2 n1
  have n2' : (A == 32) = false := beq_eq_false_iff_ne.2 n2
  clear MQ
  subst h
  subst hE
  go_enter Tryz.func52, Tryz.ntmps52
  go_wp2_with (go_at_call 107; refine (rdigit_any _ _).mono ?_; rintro e w' ⟨rfl, rfl⟩)
  go_quiet (fail)
  go_wp2_with (go_at_call 107; refine (rdigit_any _ _).mono ?_; rintro e w' ⟨rfl, rfl⟩)
  go_ret2
  exact ⟨_, false, rfl, R.out _, by first | exact Below.refl _ _ | exact drewN_below2 (Below.refl _ _) _ | exact (Below.refl _ _).drew⟩
set_option maxRecDepth 100000 in
set_option maxHeartbeats 16000000 in
theorem rmag_z_s (F : ByteArray) (A B C D E : Int) (w : World) (zF : F.size = 5) (j0 : 0 < F.size) (j1 : 1 < F.size) (j2 : 2 < F.size) (j3 : 3 < F.size) (j4 : 4 < F.size) (i0 : ((F[0]'j0).toNat : Int) = A) (i1 : ((F[1]'j1).toNat : Int) = B) (i2 : ((F[2]'j2).toNat : Int) = C) (i3 : ((F[3]'j3).toNat : Int) = D) (i4 : ((F[4]'j4).toNat : Int) = E) (a0 : 0 ≤ A) (a1 : A < 256) (b0 : 0 ≤ B) (b1 : B < 256) (d0 : 0 ≤ D) (d1 : D < 256) (e0 : 0 ≤ E) (e1 : E < 256) (h : C = 46) (hB : dgB B = true) (hD : dgB D = true) (hE : E = 32) (hE2 : dgB E = false) (hA : A = 48) (hA2 : dgB A = true) : Calls Tryz.prog 52 #[.string F] w (MagQPost A B C D E w) := by
  obtain ⟨p0, p1⟩ := (of_decide_eq_true hB : dgP B)
  obtain ⟨p2, p3⟩ := (of_decide_eq_true hD : dgP D)
  have MQ : ∀ m, magQ A B C D E m ↔ ((A = 45 ∧ m = -(100 * (B - 48) + 10 * (D - 48)) ∧ 0 < (100 * (B - 48) + 10 * (D - 48))) ∨ (A = 32 ∧ m = (100 * (B - 48) + 10 * (D - 48))) ∨ (dgP A ∧ A ≠ 48 ∧ m = (100 * (B - 48) + 10 * (D - 48)) + 1000 * (A - 48) ∧ m ≤ 3000)) := fun m => by
    unfold magQ
    rw [(show (if E = 32 then (0 : Int) else E - 48) = 0 from if_pos hE)]
    simp only [Int.add_zero, and_iff_right h, and_iff_right (of_decide_eq_true hB : dgP B), and_iff_right (of_decide_eq_true hD : dgP D), and_iff_right (show dgP E ∨ E = 32 from Or.inr hE)]
  have R := Lib.hid (fun m => show magQA A B C D E m false from magQ_no fun x q => by
    have := (MQ x).1 q
    unfold dgP at *
    omega)
  clear MQ
  subst h
  subst hA
  subst hE
  go_enter Tryz.func52, Tryz.ntmps52
  go_wp2_with (go_at_call 107; refine (rdigit_any _ _).mono ?_; rintro e w' ⟨rfl, rfl⟩)
  go_quiet (fail)
  go_wp2_with (go_at_call 107; refine (rdigit_any _ _).mono ?_; rintro e w' ⟨rfl, rfl⟩)
  go_ret2
  exact ⟨_, false, rfl, R.out _, by first | exact Below.refl _ _ | exact drewN_below2 (Below.refl _ _) _ | exact (Below.refl _ _).drew⟩
set_option maxRecDepth 100000 in
set_option maxHeartbeats 16000000 in
theorem rmag_d_s (F : ByteArray) (A B C D E : Int) (w : World) (zF : F.size = 5) (j0 : 0 < F.size) (j1 : 1 < F.size) (j2 : 2 < F.size) (j3 : 3 < F.size) (j4 : 4 < F.size) (i0 : ((F[0]'j0).toNat : Int) = A) (i1 : ((F[1]'j1).toNat : Int) = B) (i2 : ((F[2]'j2).toNat : Int) = C) (i3 : ((F[3]'j3).toNat : Int) = D) (i4 : ((F[4]'j4).toNat : Int) = E) (a0 : 0 ≤ A) (a1 : A < 256) (b0 : 0 ≤ B) (b1 : B < 256) (d0 : 0 ≤ D) (d1 : D < 256) (e0 : 0 ≤ E) (e1 : E < 256) (h : C = 46) (hB : dgB B = true) (hD : dgB D = true) (hE : E = 32) (hE2 : dgB E = false) (n3 : A ≠ 48) (hA : dgB A = true) : Calls Tryz.prog 52 #[.string F] w (MagQPost A B C D E w) := by
  obtain ⟨p0, p1⟩ := (of_decide_eq_true hB : dgP B)
  obtain ⟨p2, p3⟩ := (of_decide_eq_true hD : dgP D)
  have MQ : ∀ m, magQ A B C D E m ↔ ((A = 45 ∧ m = -(100 * (B - 48) + 10 * (D - 48)) ∧ 0 < (100 * (B - 48) + 10 * (D - 48))) ∨ (A = 32 ∧ m = (100 * (B - 48) + 10 * (D - 48))) ∨ (dgP A ∧ A ≠ 48 ∧ m = (100 * (B - 48) + 10 * (D - 48)) + 1000 * (A - 48) ∧ m ≤ 3000)) := fun m => by
    unfold magQ
    rw [(show (if E = 32 then (0 : Int) else E - 48) = 0 from if_pos hE)]
    simp only [Int.add_zero, and_iff_right h, and_iff_right (of_decide_eq_true hB : dgP B), and_iff_right (of_decide_eq_true hD : dgP D), and_iff_right (show dgP E ∨ E = 32 from Or.inr hE)]
  obtain ⟨p6, p7⟩ := (of_decide_eq_true hA : dgP A)
  have n1 : A ≠ 45 := by omega
  have n2 : A ≠ 32 := by omega
  have R := Lib.hid (show magQA A B C D E ((100 * (B - 48) + 10 * (D - 48)) + 1000 * (A - 48)) (decide ((100 * (B - 48) + 10 * (D - 48)) + 1000 * (A - 48) ≤ 3000)) by
    by_cases g : (100 * (B - 48) + 10 * (D - 48)) + 1000 * (A - 48) ≤ 3000
    · rw [decide_eq_true g]; exact Or.inl ⟨rfl, (MQ _).2 (Or.inr (Or.inr ⟨of_decide_eq_true hA, n3, rfl, g⟩))⟩
    · rw [decide_eq_false g]
      refine Or.inr ⟨rfl, fun x q => ?_⟩
      have := (MQ x).1 q
      omega)
  have n1' : (A == 45) = false := beq_eq_false_iff_ne.2 n1
  have n2' : (A == 32) = false := beq_eq_false_iff_ne.2 n2
  have n3' : (A != 48) = true := by rw [bne, beq_eq_false_iff_ne.2 n3]; rfl
  clear MQ
  subst h
  subst hE
  go_enter Tryz.func52, Tryz.ntmps52
  go_wp2_with (go_at_call 107; refine (rdigit_any _ _).mono ?_; rintro e w' ⟨rfl, rfl⟩)
  go_quiet (fail)
  go_wp2_with (go_at_call 107; refine (rdigit_any _ _).mono ?_; rintro e w' ⟨rfl, rfl⟩)
  go_ret2
  exact ⟨_, _, rfl, R.out, by first | exact Below.refl _ _ | exact drewN_below2 (Below.refl _ _) _ | exact (Below.refl _ _).drew⟩
set_option maxRecDepth 100000 in
set_option maxHeartbeats 16000000 in
theorem rmag_m_n (F : ByteArray) (A B C D E : Int) (w : World) (zF : F.size = 5) (j0 : 0 < F.size) (j1 : 1 < F.size) (j2 : 2 < F.size) (j3 : 3 < F.size) (j4 : 4 < F.size) (i0 : ((F[0]'j0).toNat : Int) = A) (i1 : ((F[1]'j1).toNat : Int) = B) (i2 : ((F[2]'j2).toNat : Int) = C) (i3 : ((F[3]'j3).toNat : Int) = D) (i4 : ((F[4]'j4).toNat : Int) = E) (a0 : 0 ≤ A) (a1 : A < 256) (b0 : 0 ≤ B) (b1 : B < 256) (d0 : 0 ≤ D) (d1 : D < 256) (e0 : 0 ≤ E) (e1 : E < 256) (h : C = 46) (hB : dgB B = true) (hD : dgB D = true) (hE : dgB E = true) (hA : A = 45) : Calls Tryz.prog 52 #[.string F] w (MagQPost A B C D E w) := by
  obtain ⟨p0, p1⟩ := (of_decide_eq_true hB : dgP B)
  obtain ⟨p2, p3⟩ := (of_decide_eq_true hD : dgP D)
  obtain ⟨p4, p5⟩ := (of_decide_eq_true hE : dgP E)
  have hE2 : (E == 32) = false := beq_eq_false_iff_ne.2 (by omega)
  have hE3 : (E != 32) = true := by rw [bne, hE2]; rfl
  have MQ : ∀ m, magQ A B C D E m ↔ ((A = 45 ∧ m = -(100 * (B - 48) + 10 * (D - 48) + (E - 48)) ∧ 0 < (100 * (B - 48) + 10 * (D - 48) + (E - 48))) ∨ (A = 32 ∧ m = (100 * (B - 48) + 10 * (D - 48) + (E - 48))) ∨ (dgP A ∧ A ≠ 48 ∧ m = (100 * (B - 48) + 10 * (D - 48) + (E - 48)) + 1000 * (A - 48) ∧ m ≤ 3000)) := fun m => by
    unfold magQ
    rw [(show (if E = 32 then (0 : Int) else E - 48) = E - 48 from if_neg (by omega))]
    simp only [Int.add_zero, and_iff_right h, and_iff_right (of_decide_eq_true hB : dgP B), and_iff_right (of_decide_eq_true hD : dgP D), and_iff_right (show dgP E ∨ E = 32 from Or.inl (of_decide_eq_true hE))]
  have R := Lib.hid (show magQA A B C D E (-(100 * (B - 48) + 10 * (D - 48) + (E - 48))) (decide (0 < (100 * (B - 48) + 10 * (D - 48) + (E - 48)))) by
    by_cases g : 0 < (100 * (B - 48) + 10 * (D - 48) + (E - 48))
    · rw [decide_eq_true g]; exact Or.inl ⟨rfl, (MQ _).2 (Or.inl ⟨hA, rfl, g⟩)⟩
    · rw [decide_eq_false g]
      refine Or.inr ⟨rfl, fun x q => ?_⟩
      have := (MQ x).1 q
      unfold dgP at this
      omega)
  clear MQ
  subst h
  subst hA
  go_enter Tryz.func52, Tryz.ntmps52
  go_wp2_with (go_at_call 107; refine (rdigit_any _ _).mono ?_; rintro e w' ⟨rfl, rfl⟩)
  go_quiet (fail)
  go_wp2_with (go_at_call 107; refine (rdigit_any _ _).mono ?_; rintro e w' ⟨rfl, rfl⟩)
  go_ret2
  exact ⟨_, _, rfl, R.out, by first | exact Below.refl _ _ | exact drewN_below2 (Below.refl _ _) _ | exact (Below.refl _ _).drew⟩
set_option maxRecDepth 100000 in
set_option maxHeartbeats 16000000 in
theorem rmag_s_n (F : ByteArray) (A B C D E : Int) (w : World) (zF : F.size = 5) (j0 : 0 < F.size) (j1 : 1 < F.size) (j2 : 2 < F.size) (j3 : 3 < F.size) (j4 : 4 < F.size) (i0 : ((F[0]'j0).toNat : Int) = A) (i1 : ((F[1]'j1).toNat : Int) = B) (i2 : ((F[2]'j2).toNat : Int) = C) (i3 : ((F[3]'j3).toNat : Int) = D) (i4 : ((F[4]'j4).toNat : Int) = E) (a0 : 0 ≤ A) (a1 : A < 256) (b0 : 0 ≤ B) (b1 : B < 256) (d0 : 0 ≤ D) (d1 : D < 256) (e0 : 0 ≤ E) (e1 : E < 256) (h : C = 46) (hB : dgB B = true) (hD : dgB D = true) (hE : dgB E = true) (hA : A = 32) : Calls Tryz.prog 52 #[.string F] w (MagQPost A B C D E w) := by
  obtain ⟨p0, p1⟩ := (of_decide_eq_true hB : dgP B)
  obtain ⟨p2, p3⟩ := (of_decide_eq_true hD : dgP D)
  obtain ⟨p4, p5⟩ := (of_decide_eq_true hE : dgP E)
  have hE2 : (E == 32) = false := beq_eq_false_iff_ne.2 (by omega)
  have hE3 : (E != 32) = true := by rw [bne, hE2]; rfl
  have MQ : ∀ m, magQ A B C D E m ↔ ((A = 45 ∧ m = -(100 * (B - 48) + 10 * (D - 48) + (E - 48)) ∧ 0 < (100 * (B - 48) + 10 * (D - 48) + (E - 48))) ∨ (A = 32 ∧ m = (100 * (B - 48) + 10 * (D - 48) + (E - 48))) ∨ (dgP A ∧ A ≠ 48 ∧ m = (100 * (B - 48) + 10 * (D - 48) + (E - 48)) + 1000 * (A - 48) ∧ m ≤ 3000)) := fun m => by
    unfold magQ
    rw [(show (if E = 32 then (0 : Int) else E - 48) = E - 48 from if_neg (by omega))]
    simp only [Int.add_zero, and_iff_right h, and_iff_right (of_decide_eq_true hB : dgP B), and_iff_right (of_decide_eq_true hD : dgP D), and_iff_right (show dgP E ∨ E = 32 from Or.inl (of_decide_eq_true hE))]
  have R := Lib.hid (show magQA A B C D E (100 * (B - 48) + 10 * (D - 48) + (E - 48)) true from Or.inl ⟨rfl, (MQ _).2 (Or.inr (Or.inl ⟨hA, rfl⟩))⟩)
  clear MQ
  subst h
  subst hA
  go_enter Tryz.func52, Tryz.ntmps52
  go_wp2_with (go_at_call 107; refine (rdigit_any _ _).mono ?_; rintro e w' ⟨rfl, rfl⟩)
  go_quiet (fail)
  go_wp2_with (go_at_call 107; refine (rdigit_any _ _).mono ?_; rintro e w' ⟨rfl, rfl⟩)
  go_ret2
  exact ⟨_, _, rfl, R.out, by first | exact Below.refl _ _ | exact drewN_below2 (Below.refl _ _) _ | exact (Below.refl _ _).drew⟩
set_option maxRecDepth 100000 in
set_option maxHeartbeats 16000000 in
theorem rmag_x_n (F : ByteArray) (A B C D E : Int) (w : World) (zF : F.size = 5) (j0 : 0 < F.size) (j1 : 1 < F.size) (j2 : 2 < F.size) (j3 : 3 < F.size) (j4 : 4 < F.size) (i0 : ((F[0]'j0).toNat : Int) = A) (i1 : ((F[1]'j1).toNat : Int) = B) (i2 : ((F[2]'j2).toNat : Int) = C) (i3 : ((F[3]'j3).toNat : Int) = D) (i4 : ((F[4]'j4).toNat : Int) = E) (a0 : 0 ≤ A) (a1 : A < 256) (b0 : 0 ≤ B) (b1 : B < 256) (d0 : 0 ≤ D) (d1 : D < 256) (e0 : 0 ≤ E) (e1 : E < 256) (h : C = 46) (hB : dgB B = true) (hD : dgB D = true) (hE : dgB E = true) (n1 : A ≠ 45) (n2 : A ≠ 32) (hA : dgB A = false) : Calls Tryz.prog 52 #[.string F] w (MagQPost A B C D E w) := by
  obtain ⟨p0, p1⟩ := (of_decide_eq_true hB : dgP B)
  obtain ⟨p2, p3⟩ := (of_decide_eq_true hD : dgP D)
  obtain ⟨p4, p5⟩ := (of_decide_eq_true hE : dgP E)
  have hE2 : (E == 32) = false := beq_eq_false_iff_ne.2 (by omega)
  have hE3 : (E != 32) = true := by rw [bne, hE2]; rfl
  have MQ : ∀ m, magQ A B C D E m ↔ ((A = 45 ∧ m = -(100 * (B - 48) + 10 * (D - 48) + (E - 48)) ∧ 0 < (100 * (B - 48) + 10 * (D - 48) + (E - 48))) ∨ (A = 32 ∧ m = (100 * (B - 48) + 10 * (D - 48) + (E - 48))) ∨ (dgP A ∧ A ≠ 48 ∧ m = (100 * (B - 48) + 10 * (D - 48) + (E - 48)) + 1000 * (A - 48) ∧ m ≤ 3000)) := fun m => by
    unfold magQ
    rw [(show (if E = 32 then (0 : Int) else E - 48) = E - 48 from if_neg (by omega))]
    simp only [Int.add_zero, and_iff_right h, and_iff_right (of_decide_eq_true hB : dgP B), and_iff_right (of_decide_eq_true hD : dgP D), and_iff_right (show dgP E ∨ E = 32 from Or.inl (of_decide_eq_true hE))]
  have R := Lib.hid (fun m => show magQA A B C D E m false from magQ_no fun x q => by
    have := (MQ x).1 q
    have := of_decide_eq_false hA
    unfold dgP at *
    omega)
  have n1' : (A == 45) = false := beq_eq_false_iff_ne.2 n1
  have n2' : (A == 32) = false := beq_eq_false_iff_ne.2 n2
  clear MQ
  subst h
  go_enter Tryz.func52, Tryz.ntmps52
  go_wp2_with (go_at_call 107; refine (rdigit_any _ _).mono ?_; rintro e w' ⟨rfl, rfl⟩)
  go_quiet (fail)
  go_wp2_with (go_at_call 107; refine (rdigit_any _ _).mono ?_; rintro e w' ⟨rfl, rfl⟩)
  go_ret2
  exact ⟨_, false, rfl, R.out _, by first | exact Below.refl _ _ | exact drewN_below2 (Below.refl _ _) _ | exact (Below.refl _ _).drew⟩
set_option maxRecDepth 100000 in
set_option maxHeartbeats 16000000 in
theorem rmag_z_n (F : ByteArray) (A B C D E : Int) (w : World) (zF : F.size = 5) (j0 : 0 < F.size) (j1 : 1 < F.size) (j2 : 2 < F.size) (j3 : 3 < F.size) (j4 : 4 < F.size) (i0 : ((F[0]'j0).toNat : Int) = A) (i1 : ((F[1]'j1).toNat : Int) = B) (i2 : ((F[2]'j2).toNat : Int) = C) (i3 : ((F[3]'j3).toNat : Int) = D) (i4 : ((F[4]'j4).toNat : Int) = E) (a0 : 0 ≤ A) (a1 : A < 256) (b0 : 0 ≤ B) (b1 : B < 256) (d0 : 0 ≤ D) (d1 : D < 256) (e0 : 0 ≤ E) (e1 : E < 256) (h : C = 46) (hB : dgB B = true) (hD : dgB D = true) (hE : dgB E = true) (hA : A = 48) (hA2 : dgB A = true) : Calls Tryz.prog 52 #[.string F] w (MagQPost A B C D E w) := by
  obtain ⟨p0, p1⟩ := (of_decide_eq_true hB : dgP B)
  obtain ⟨p2, p3⟩ := (of_decide_eq_true hD : dgP D)
  obtain ⟨p4, p5⟩ := (of_decide_eq_true hE : dgP E)
  have hE2 : (E == 32) = false := beq_eq_false_iff_ne.2 (by omega)
  have hE3 : (E != 32) = true := by rw [bne, hE2]; rfl
  have MQ : ∀ m, magQ A B C D E m ↔ ((A = 45 ∧ m = -(100 * (B - 48) + 10 * (D - 48) + (E - 48)) ∧ 0 < (100 * (B - 48) + 10 * (D - 48) + (E - 48))) ∨ (A = 32 ∧ m = (100 * (B - 48) + 10 * (D - 48) + (E - 48))) ∨ (dgP A ∧ A ≠ 48 ∧ m = (100 * (B - 48) + 10 * (D - 48) + (E - 48)) + 1000 * (A - 48) ∧ m ≤ 3000)) := fun m => by
    unfold magQ
    rw [(show (if E = 32 then (0 : Int) else E - 48) = E - 48 from if_neg (by omega))]
    simp only [Int.add_zero, and_iff_right h, and_iff_right (of_decide_eq_true hB : dgP B), and_iff_right (of_decide_eq_true hD : dgP D), and_iff_right (show dgP E ∨ E = 32 from Or.inl (of_decide_eq_true hE))]
  have R := Lib.hid (fun m => show magQA A B C D E m false from magQ_no fun x q => by
    have := (MQ x).1 q
    unfold dgP at *
    omega)
  clear MQ
  subst h
  subst hA
  go_enter Tryz.func52, Tryz.ntmps52
  go_wp2_with (go_at_call 107; refine (rdigit_any _ _).mono ?_; rintro e w' ⟨rfl, rfl⟩)
  go_quiet (fail)
  go_wp2_with (go_at_call 107; refine (rdigit_any _ _).mono ?_; rintro e w' ⟨rfl, rfl⟩)
  go_ret2
  exact ⟨_, false, rfl, R.out _, by first | exact Below.refl _ _ | exact drewN_below2 (Below.refl _ _) _ | exact (Below.refl _ _).drew⟩
set_option maxRecDepth 100000 in
set_option maxHeartbeats 16000000 in
theorem rmag_d_n (F : ByteArray) (A B C D E : Int) (w : World) (zF : F.size = 5) (j0 : 0 < F.size) (j1 : 1 < F.size) (j2 : 2 < F.size) (j3 : 3 < F.size) (j4 : 4 < F.size) (i0 : ((F[0]'j0).toNat : Int) = A) (i1 : ((F[1]'j1).toNat : Int) = B) (i2 : ((F[2]'j2).toNat : Int) = C) (i3 : ((F[3]'j3).toNat : Int) = D) (i4 : ((F[4]'j4).toNat : Int) = E) (a0 : 0 ≤ A) (a1 : A < 256) (b0 : 0 ≤ B) (b1 : B < 256) (d0 : 0 ≤ D) (d1 : D < 256) (e0 : 0 ≤ E) (e1 : E < 256) (h : C = 46) (hB : dgB B = true) (hD : dgB D = true) (hE : dgB E = true) (n3 : A ≠ 48) (hA : dgB A = true) : Calls Tryz.prog 52 #[.string F] w (MagQPost A B C D E w) := by
  obtain ⟨p0, p1⟩ := (of_decide_eq_true hB : dgP B)
  obtain ⟨p2, p3⟩ := (of_decide_eq_true hD : dgP D)
  obtain ⟨p4, p5⟩ := (of_decide_eq_true hE : dgP E)
  have hE2 : (E == 32) = false := beq_eq_false_iff_ne.2 (by omega)
  have hE3 : (E != 32) = true := by rw [bne, hE2]; rfl
  have MQ : ∀ m, magQ A B C D E m ↔ ((A = 45 ∧ m = -(100 * (B - 48) + 10 * (D - 48) + (E - 48)) ∧ 0 < (100 * (B - 48) + 10 * (D - 48) + (E - 48))) ∨ (A = 32 ∧ m = (100 * (B - 48) + 10 * (D - 48) + (E - 48))) ∨ (dgP A ∧ A ≠ 48 ∧ m = (100 * (B - 48) + 10 * (D - 48) + (E - 48)) + 1000 * (A - 48) ∧ m ≤ 3000)) := fun m => by
    unfold magQ
    rw [(show (if E = 32 then (0 : Int) else E - 48) = E - 48 from if_neg (by omega))]
    simp only [Int.add_zero, and_iff_right h, and_iff_right (of_decide_eq_true hB : dgP B), and_iff_right (of_decide_eq_true hD : dgP D), and_iff_right (show dgP E ∨ E = 32 from Or.inl (of_decide_eq_true hE))]
  obtain ⟨p6, p7⟩ := (of_decide_eq_true hA : dgP A)
  have n1 : A ≠ 45 := by omega
  have n2 : A ≠ 32 := by omega
  have R := Lib.hid (show magQA A B C D E ((100 * (B - 48) + 10 * (D - 48) + (E - 48)) + 1000 * (A - 48)) (decide ((100 * (B - 48) + 10 * (D - 48) + (E - 48)) + 1000 * (A - 48) ≤ 3000)) by
    by_cases g : (100 * (B - 48) + 10 * (D - 48) + (E - 48)) + 1000 * (A - 48) ≤ 3000
    · rw [decide_eq_true g]; exact Or.inl ⟨rfl, (MQ _).2 (Or.inr (Or.inr ⟨of_decide_eq_true hA, n3, rfl, g⟩))⟩
    · rw [decide_eq_false g]
      refine Or.inr ⟨rfl, fun x q => ?_⟩
      have := (MQ x).1 q
      omega)
  have n1' : (A == 45) = false := beq_eq_false_iff_ne.2 n1
  have n2' : (A == 32) = false := beq_eq_false_iff_ne.2 n2
  have n3' : (A != 48) = true := by rw [bne, beq_eq_false_iff_ne.2 n3]; rfl
  clear MQ
  subst h
  go_enter Tryz.func52, Tryz.ntmps52
  go_wp2_with (go_at_call 107; refine (rdigit_any _ _).mono ?_; rintro e w' ⟨rfl, rfl⟩)
  go_quiet (fail)
  go_wp2_with (go_at_call 107; refine (rdigit_any _ _).mono ?_; rintro e w' ⟨rfl, rfl⟩)
  go_ret2
  exact ⟨_, _, rfl, R.out, by first | exact Below.refl _ _ | exact drewN_below2 (Below.refl _ _) _ | exact (Below.refl _ _).drew⟩
theorem rmag_all (F : ByteArray) (A B C D E : Int) (w : World) (zF : F.size = 5) (j0 : 0 < F.size) (j1 : 1 < F.size) (j2 : 2 < F.size) (j3 : 3 < F.size) (j4 : 4 < F.size) (i0 : ((F[0]'j0).toNat : Int) = A) (i1 : ((F[1]'j1).toNat : Int) = B) (i2 : ((F[2]'j2).toNat : Int) = C) (i3 : ((F[3]'j3).toNat : Int) = D) (i4 : ((F[4]'j4).toNat : Int) = E) (a0 : 0 ≤ A) (a1 : A < 256) (b0 : 0 ≤ B) (b1 : B < 256) (d0 : 0 ≤ D) (d1 : D < 256) (e0 : 0 ≤ E) (e1 : E < 256) : Calls Tryz.prog 52 #[.string F] w (MagQPost A B C D E w) := by
  by_cases h : C = 46
  · rcases dg_cases B with ⟨_, hB⟩ | ⟨_, hB⟩
    · rcases dg_cases D with ⟨_, hD⟩ | ⟨_, hD⟩
      · rcases dg_cases E with ⟨_, hE⟩ | ⟨_, hE⟩
        · by_cases n1 : A = 45
          · exact rmag_m_n F A B C D E w zF j0 j1 j2 j3 j4 i0 i1 i2 i3 i4 a0 a1 b0 b1 d0 d1 e0 e1 h hB hD hE n1
          · by_cases n2 : A = 32
            · exact rmag_s_n F A B C D E w zF j0 j1 j2 j3 j4 i0 i1 i2 i3 i4 a0 a1 b0 b1 d0 d1 e0 e1 h hB hD hE n2
            · rcases dg_cases A with ⟨_, hA⟩ | ⟨_, hA⟩
              · by_cases n3 : A = 48
                · exact rmag_z_n F A B C D E w zF j0 j1 j2 j3 j4 i0 i1 i2 i3 i4 a0 a1 b0 b1 d0 d1 e0 e1 h hB hD hE n3 hA
                · exact rmag_d_n F A B C D E w zF j0 j1 j2 j3 j4 i0 i1 i2 i3 i4 a0 a1 b0 b1 d0 d1 e0 e1 h hB hD hE n3 hA
              · exact rmag_x_n F A B C D E w zF j0 j1 j2 j3 j4 i0 i1 i2 i3 i4 a0 a1 b0 b1 d0 d1 e0 e1 h hB hD hE n1 n2 hA
        · by_cases nE : E = 32
          · by_cases n1 : A = 45
            · exact rmag_m_s F A B C D E w zF j0 j1 j2 j3 j4 i0 i1 i2 i3 i4 a0 a1 b0 b1 d0 d1 e0 e1 h hB hD nE hE n1
            · by_cases n2 : A = 32
              · exact rmag_s_s F A B C D E w zF j0 j1 j2 j3 j4 i0 i1 i2 i3 i4 a0 a1 b0 b1 d0 d1 e0 e1 h hB hD nE hE n2
              · rcases dg_cases A with ⟨_, hA⟩ | ⟨_, hA⟩
                · by_cases n3 : A = 48
                  · exact rmag_z_s F A B C D E w zF j0 j1 j2 j3 j4 i0 i1 i2 i3 i4 a0 a1 b0 b1 d0 d1 e0 e1 h hB hD nE hE n3 hA
                  · exact rmag_d_s F A B C D E w zF j0 j1 j2 j3 j4 i0 i1 i2 i3 i4 a0 a1 b0 b1 d0 d1 e0 e1 h hB hD nE hE n3 hA
                · exact rmag_x_s F A B C D E w zF j0 j1 j2 j3 j4 i0 i1 i2 i3 i4 a0 a1 b0 b1 d0 d1 e0 e1 h hB hD nE hE n1 n2 hA
          · exact rmag_e F A B C D E w zF j0 j1 j2 j3 j4 i0 i1 i2 i3 i4 a0 a1 b0 b1 d0 d1 e0 e1 h hB hD hE nE
      · exact rmag_d F A B C D E w zF j0 j1 j2 j3 j4 i0 i1 i2 i3 i4 a0 a1 b0 b1 d0 d1 e0 e1 h hB hD
    · exact rmag_b F A B C D E w zF j0 j1 j2 j3 j4 i0 i1 i2 i3 i4 a0 a1 b0 b1 d0 d1 e0 e1 h hB
  · exact rmag_c F A B C D E w zF j0 j1 j2 j3 j4 i0 i1 i2 i3 i4 a0 a1 b0 b1 d0 d1 e0 e1 h
theorem rmagnitude_any (s : ByteArray) (w : World) (hs : s.size = 5) : Calls Tryz.prog 52 #[.string s] w (MagPost s w) := by
  obtain ⟨a, b, c, d, e, rfl⟩ := five hs
  obtain ⟨F, hF, zF, i0, i1, i2, i3, i4⟩ := five_str a b c d e
  have ba := byte_bd a
  have bb := byte_bd b
  have bd := byte_bd d
  have be := byte_bd e
  rw [← hF]
  refine (rmag_all F a.toNat b.toNat c.toNat d.toNat e.toNat w zF (by omega) (by omega) (by omega) (by omega) (by omega) (i0 _) (i1 _) (i2 _) (i3 _) (i4 _) ba.1 ba.2 bb.1 bb.2 bd.1 bd.2 be.1 be.2).mono ?_
  rintro x w' ⟨m, v, rfl, h, hb⟩
  refine ⟨m, v, rfl, ?_, hb⟩
  rw [hF]
  rcases h with ⟨h, g⟩ | ⟨h, g⟩
  · exact Or.inl ⟨h, (mag_q a b c d e m).2 g⟩
  · exact Or.inr ⟨h, fun x q => g x ((mag_q a b c d e x).1 q)⟩
end Ow
end Go.Proofs.YtgodhaphbgllhaaGreatDoor
/-
  The walk of Parse of the reference of observations.
-/
namespace Go.Proofs.YtgodhaphbgllhaaGreatDoor
namespace Ow
open Go.RowKit Lw Go.Proofs.YtgodhaphbgllhaaGreatDoor.Ap Go.Proofs.YtgodhaphbgllhaaGreatDoor.Op Go.Proofs.YtgodhaphbgllhaaGreatDoor.Mp Go.Proofs.YtgodhaphbgllhaaGreatDoor.Mw Go.Proofs.YtgodhaphbgllhaaGreatDoor.At

theorem zz_is {s : ByteArray} (h8 : s.size = 80) : s.extract 12 14 = ⟨#[32, 32]⟩ ↔ (bt s 12 = 32 ∧ bt s 13 = 32) := by
  have b : ∀ k, k < 2 → bt (s.extract 12 14) k = bt s (12 + k) := fun k hk => by
    rw [bt_of _ k (by rw [ByteArray.size_extract]; omega), bt_of s (12 + k) (by omega)]
    congr 2
    simp [ByteArray.getElem_eq_getElem_data]
  have b0 := b 0 (by omega)
  have b1 := b 1 (by omega)
  constructor
  · intro e
    rw [e] at b0 b1
    exact ⟨b0.symm, b1.symm⟩
  · rintro ⟨h0, h1⟩
    have z : (s.extract 12 14).size = 2 := by rw [ByteArray.size_extract]; omega
    have l : (s.extract 12 14).data.toList.length = 2 := by rw [← size_L]; exact z
    match hl : (s.extract 12 14).data.toList, l with
    | [x, y], _ =>
      rw [bt_L _ _ (by omega), hl] at b0 b1
      have v : ∀ {x : UInt8} {n : Nat}, n < 256 → (x.toNat : Int) = n → x = UInt8.ofNat n := fun hn h => u8_val hn h
      have e0 : x = 32 := v (n := 32) (by omega) (b0.trans h0)
      have e1 : y = 32 := v (n := 32) (by omega) (b1.trans h1)
      apply toL_inj
      rw [hl, e0, e1]
theorem no_n1 {s : ByteArray} (h : blankP (s.extract 0 5)) (n : numbP (cutS (s.extract 5 12))) : NoO s := fun x g => by
  rcases g.name with ⟨_, b, c⟩ | ⟨a, _⟩
  · exact c (by rw [b]; exact n)
  · exact a h
theorem no_n2 {s : ByteArray} (h : ¬ blankP (s.extract 0 5)) (n : ¬ numbP (s.extract 0 5)) : NoO s := fun x g => by
  rcases g.name with ⟨a, _⟩ | ⟨_, b, c, _⟩
  · exact h a
  · exact n (by rw [← b]; exact c)
theorem no_n3 {s : ByteArray} (h : ¬ blankP (s.extract 0 5)) (n : ¬ blankP (s.extract 5 12)) : NoO s := fun x g => by
  rcases g.name with ⟨a, _⟩ | ⟨_, _, _, c⟩
  · exact h a
  · exact n c
set_option maxRecDepth 100000 in
set_option maxHeartbeats 16000000 in
theorem rparse_size (s : ByteArray) (w : World) (hs : s.size ≤ maxLen) (h : s.size ≠ 80) : Calls Tryz.prog 14 #[.string s] w (ObsPost s w) := by
  unfold maxLen at hs
  have N := Lib.hid (obs_no (no_size h))
  have h2 : ((s.size : Int) != 80) = true := by rw [bne, beq_eq_false_iff_ne.2 (by omega)]; rfl
  have RS := Lib.hid (Res.new w)
  clear h
  go_enter Tryz.func14, Tryz.ntmps14
  go_wp2_with (refine wpList_store_mid rfl _ (.tmp 2) (.tmp 33) rfl w.heap.size 0 _ rfl rfl ?_ info8 ?_ ?_; exact RS.out.th; simp [Value.oneCell'])
  exact bodyPost_ret (ret_cell_tmp Tryz.results14 _ _ w.heap.size (obsC zeroO) _ rfl (World.rangeAt_setCells_same _ _ _ _ RS.out.th) Tryz.underlying23 rfl info8) rfl ⟨zeroO, 12, rfl, N.out, below_setCells _ (Nat.le_refl _) _ _ _ RS.out.below⟩
set_option maxRecDepth 100000 in
set_option maxHeartbeats 16000000 in
theorem rparse_zz (s : ByteArray) (w : World) (h8 : s.size = 80) (h : s.extract 12 14 ≠ ⟨#[32, 32]⟩) : Calls Tryz.prog 14 #[.string s] w (ObsPost s w) := by
  have z80 : (s.size : Int) = 80 := by omega
  obtain ⟨E, hE⟩ : ∃ E, s.extract 12 14 = E := ⟨_, rfl⟩
  have i14 : (14 : Nat) < s.size := by omega
  have e14 : bt s 14 = ((s[14]'i14).toNat : Int) := bt_of s 14 i14
  obtain ⟨M, hM⟩ : ∃ B : Int, ((s[14]'i14).toNat : Int) = B := ⟨_, rfl⟩
  have bM : 0 ≤ M ∧ M < 256 := by rw [← hM]; exact byte_bd _
  have N := Lib.hid (obs_no (no_mark fun g => h ((zz_is h8).2 ⟨g.1, g.2.1⟩)))
  have yE : (E.toList == [32, 32]) = false := by
    rw [Lib.toList_data, ← hE]
    exact beq_eq_false_iff_ne.2 fun g => h (toL_inj g)
  have RS := Lib.hid (Res.new w)
  clear h e14
  go_enter Tryz.func14, Tryz.ntmps14
  go_wp2_with (refine wpList_store_mid rfl _ (.tmp 2) (.tmp 33) rfl w.heap.size 0 _ rfl rfl ?_ info8 ?_ ?_; exact RS.out.th; simp [Value.oneCell'])
  exact bodyPost_ret (ret_cell_tmp Tryz.results14 _ _ w.heap.size (obsC zeroO) _ rfl (World.rangeAt_setCells_same _ _ _ _ RS.out.th) Tryz.underlying23 rfl info8) rfl ⟨zeroO, 12, rfl, N.out, below_setCells _ (Nat.le_refl _) _ _ _ RS.out.below⟩
set_option maxRecDepth 100000 in
set_option maxHeartbeats 16000000 in
theorem rparse_mark (s : ByteArray) (w : World) (h8 : s.size = 80) (hz : s.extract 12 14 = ⟨#[32, 32]⟩) (h : bt s 14 ≠ 67) : Calls Tryz.prog 14 #[.string s] w (ObsPost s w) := by
  have z80 : (s.size : Int) = 80 := by omega
  obtain ⟨E, hE⟩ : ∃ E, s.extract 12 14 = E := ⟨_, rfl⟩
  have i14 : (14 : Nat) < s.size := by omega
  have e14 : bt s 14 = ((s[14]'i14).toNat : Int) := bt_of s 14 i14
  obtain ⟨M, hM⟩ : ∃ B : Int, ((s[14]'i14).toNat : Int) = B := ⟨_, rfl⟩
  have bM : 0 ≤ M ∧ M < 256 := by rw [← hM]; exact byte_bd _
  have N := Lib.hid (obs_no (no_mark fun g => h g.2.2))
  have yE : (E.toList == [32, 32]) = true := by
    rw [← hE, hz, Lib.toList_data]
    rfl
  have nM : (M != 67) = true := by rw [bne, beq_eq_false_iff_ne.2 (by rw [← hM, ← e14]; exact h)]; rfl
  have RS := Lib.hid (Res.new w)
  clear h e14 hz
  go_enter Tryz.func14, Tryz.ntmps14
  go_wp2_with (refine wpList_store_mid rfl _ (.tmp 2) (.tmp 33) rfl w.heap.size 0 _ rfl rfl ?_ info8 ?_ ?_; exact RS.out.th; simp [Value.oneCell'])
  exact bodyPost_ret (ret_cell_tmp Tryz.results14 _ _ w.heap.size (obsC zeroO) _ rfl (World.rangeAt_setCells_same _ _ _ _ RS.out.th) Tryz.underlying23 rfl info8) rfl ⟨zeroO, 12, rfl, N.out, below_setCells _ (Nat.le_refl _) _ _ _ RS.out.below⟩
set_option maxRecDepth 100000 in
set_option maxHeartbeats 16000000 in
theorem rparse_b1 (s : ByteArray) (w : World) (h8 : s.size = 80) (hz : s.extract 12 14 = ⟨#[32, 32]⟩) (hm : bt s 14 = 67) (hb1 : ¬ blankP (s.extract 56 65)) : Calls Tryz.prog 14 #[.string s] w (ObsPost s w) := by
  have z80 : (s.size : Int) = 80 := by omega
  obtain ⟨E, hE⟩ : ∃ E, s.extract 12 14 = E := ⟨_, rfl⟩
  have i14 : (14 : Nat) < s.size := by omega
  have e14 : bt s 14 = ((s[14]'i14).toNat : Int) := bt_of s 14 i14
  obtain ⟨M, hM⟩ : ∃ B : Int, ((s[14]'i14).toNat : Int) = B := ⟨_, rfl⟩
  have bM : 0 ≤ M ∧ M < 256 := by rw [← hM]; exact byte_bd _
  have N := Lib.hid (obs_no (no_b1 hb1))
  have yE : (E.toList == [32, 32]) = true := by
    rw [← hE, hz, Lib.toList_data]
    rfl
  obtain rfl : M = 67 := by rw [← hM, ← e14]; exact hm
  have BL1 := Lib.hid (fun w' => rblank_any (s.extract 56 65) w' (by rw [ByteArray.size_extract]; unfold maxLen; omega))
  rw [decide_eq_false hb1] at BL1
  obtain ⟨Y1, hY1⟩ : ∃ Y, s.extract 56 65 = Y := ⟨_, rfl⟩
  rw [hY1] at BL1
  have RS := Lib.hid (Res.new w)
  clear hm e14 hz hb1
  go_enter Tryz.func14, Tryz.ntmps14
  go_wp2_with (first | (refine (BL1.out _).mono ?_; rintro e w1 ⟨rfl, rfl⟩) | (refine wpList_store_mid rfl _ (.tmp 2) (.tmp 33) rfl w.heap.size 0 _ rfl rfl ?_ info8 ?_ ?_; exact RS.out.th; simp [Value.oneCell']))
  exact bodyPost_ret (ret_cell_tmp Tryz.results14 _ _ w.heap.size (obsC zeroO) _ rfl (World.rangeAt_setCells_same _ _ _ _ RS.out.th) Tryz.underlying23 rfl info8) rfl ⟨zeroO, 12, rfl, N.out, below_setCells _ (Nat.le_refl _) _ _ _ RS.out.below⟩
set_option maxRecDepth 100000 in
set_option maxHeartbeats 16000000 in
theorem rparse_b2 (s : ByteArray) (w : World) (h8 : s.size = 80) (hz : s.extract 12 14 = ⟨#[32, 32]⟩) (hm : bt s 14 = 67) (hb1 : blankP (s.extract 56 65)) (hb2 : ¬ blankP (s.extract 71 77)) : Calls Tryz.prog 14 #[.string s] w (ObsPost s w) := by
  have z80 : (s.size : Int) = 80 := by omega
  obtain ⟨E, hE⟩ : ∃ E, s.extract 12 14 = E := ⟨_, rfl⟩
  have i14 : (14 : Nat) < s.size := by omega
  have e14 : bt s 14 = ((s[14]'i14).toNat : Int) := bt_of s 14 i14
  obtain ⟨M, hM⟩ : ∃ B : Int, ((s[14]'i14).toNat : Int) = B := ⟨_, rfl⟩
  have bM : 0 ≤ M ∧ M < 256 := by rw [← hM]; exact byte_bd _
  have N := Lib.hid (obs_no (no_b2 hb2))
  have yE : (E.toList == [32, 32]) = true := by
    rw [← hE, hz, Lib.toList_data]
    rfl
  obtain rfl : M = 67 := by rw [← hM, ← e14]; exact hm
  have BL1 := Lib.hid (fun w' => rblank_any (s.extract 56 65) w' (by rw [ByteArray.size_extract]; unfold maxLen; omega))
  rw [decide_eq_true hb1] at BL1
  obtain ⟨Y1, hY1⟩ : ∃ Y, s.extract 56 65 = Y := ⟨_, rfl⟩
  rw [hY1] at BL1
  have BL2 := Lib.hid (fun w' => rblank_any (s.extract 71 77) w' (by rw [ByteArray.size_extract]; unfold maxLen; omega))
  rw [decide_eq_false hb2] at BL2
  obtain ⟨Y2, hY2⟩ : ∃ Y, s.extract 71 77 = Y := ⟨_, rfl⟩
  rw [hY2] at BL2
  have RS := Lib.hid (Res.new w)
  clear hm e14 hz hb1 hb2
  go_enter Tryz.func14, Tryz.ntmps14
  go_wp2_with (first | (refine (BL1.out _).mono ?_; rintro e w1 ⟨rfl, rfl⟩) | (refine (BL2.out _).mono ?_; rintro e w1 ⟨rfl, rfl⟩) | (refine wpList_store_mid rfl _ (.tmp 2) (.tmp 33) rfl w.heap.size 0 _ rfl rfl ?_ info8 ?_ ?_; exact RS.out.th; simp [Value.oneCell']))
  exact bodyPost_ret (ret_cell_tmp Tryz.results14 _ _ w.heap.size (obsC zeroO) _ rfl (World.rangeAt_setCells_same _ _ _ _ RS.out.th) Tryz.underlying23 rfl info8) rfl ⟨zeroO, 12, rfl, N.out, below_setCells _ (Nat.le_refl _) _ _ _ RS.out.below⟩
set_option maxRecDepth 100000 in
set_option maxHeartbeats 16000000 in
theorem rparse_main (s : ByteArray) (w : World) (h8 : s.size = 80) (hz : s.extract 12 14 = ⟨#[32, 32]⟩) (hm : bt s 14 = 67) (hb1 : blankP (s.extract 56 65)) (hb2 : blankP (s.extract 71 77)) : Calls Tryz.prog 14 #[.string s] w (ObsPost s w) := by
  have z80 : (s.size : Int) = 80 := by omega
  obtain ⟨E, hE⟩ : ∃ E, s.extract 12 14 = E := ⟨_, rfl⟩
  have i14 : (14 : Nat) < s.size := by omega
  have e14 : bt s 14 = ((s[14]'i14).toNat : Int) := bt_of s 14 i14
  obtain ⟨M, hM⟩ : ∃ B : Int, ((s[14]'i14).toNat : Int) = B := ⟨_, rfl⟩
  have bM : 0 ≤ M ∧ M < 256 := by rw [← hM]; exact byte_bd _
  have yE : (E.toList == [32, 32]) = true := by
    rw [← hE, hz, Lib.toList_data]
    rfl
  have FIN : Hid (∀ n m b, NameOf s n → ((blankP (s.extract 65 71) ∧ m = 9999 ∧ b = 32) ∨ (¬ blankP (s.extract 65 71) ∧ MagIs (s.extract 65 70) m ∧ b = bt s 70)) → ∀ o, ReadIs s o → Cand s ⟨n, s.extract 77 80, o.t, o.ra, o.dec, o.sg, m, b⟩) := Lib.hid fun n m b a1 a2 o R => ⟨h8, ⟨((zz_is h8).1 hz).1, ((zz_is h8).1 hz).2, hm⟩, hb1, hb2, R.p, R.q, R.r, R.day, R.ra, R.dec, rfl, by have := R.all; show o.sg = _; rw [this], a1, a2⟩
  obtain rfl : M = 67 := by rw [← hM, ← e14]; exact hm
  have BL1 := Lib.hid (fun w' => rblank_any (s.extract 56 65) w' (by rw [ByteArray.size_extract]; unfold maxLen; omega))
  rw [decide_eq_true hb1] at BL1
  obtain ⟨Y1, hY1⟩ : ∃ Y, s.extract 56 65 = Y := ⟨_, rfl⟩
  rw [hY1] at BL1
  have BL2 := Lib.hid (fun w' => rblank_any (s.extract 71 77) w' (by rw [ByteArray.size_extract]; unfold maxLen; omega))
  rw [decide_eq_true hb2] at BL2
  obtain ⟨Y2, hY2⟩ : ∃ Y, s.extract 71 77 = Y := ⟨_, rfl⟩
  rw [hY2] at BL2
  have RD := Lib.hid (fun w' => rread_any s w' h8)
  obtain ⟨st, hst⟩ : ∃ st, s.extract 77 80 = st := ⟨_, rfl⟩
  have hst3 : st.size = 3 := by rw [← hst, ByteArray.size_extract]; omega
  have HS3 := Lib.hid hst3
  rw [hst] at FIN
  have RST := Lib.hid (fun o (R : ReadIs s o) => show o = ⟨⟨#[]⟩, st, o.t, o.ra, o.dec, o.sg, 9999, 32⟩ ∧ -9223372036854775808 ≤ o.t ∧ o.t ≤ 9223372036854775807 from ⟨by have := R.all; rw [hst] at this; generalize sgOf _ = g at this; rw [this], pday_bd R.day⟩)
  have i70 : (70 : Nat) < s.size := by omega
  have e70 : bt s 70 = ((s[70]'i70).toNat : Int) := bt_of s 70 i70
  obtain ⟨B, hB⟩ : ∃ B : Int, ((s[70]'i70).toNat : Int) = B := ⟨_, rfl⟩
  have bB : 0 ≤ B ∧ B < 256 := by rw [← hB]; exact byte_bd _
  obtain ⟨bB0, bB1⟩ := bB
  rw [e70.trans hB] at FIN
  have BU := Lib.hid (fun w' => rblank_any (s.extract 0 5) w' (by rw [ByteArray.size_extract]; unfold maxLen; omega))
  have BV := Lib.hid (fun w' => rblank_any (s.extract 5 12) w' (by rw [ByteArray.size_extract]; unfold maxLen; omega))
  have BW := Lib.hid (fun w' => rblank_any (s.extract 65 71) w' (by rw [ByteArray.size_extract]; unfold maxLen; omega))
  have CV := Lib.hid (fun w' => rcut_any (s.extract 5 12) w' (by rw [ByteArray.size_extract]; unfold maxLen; omega))
  have zU : (s.extract 0 5).size = 5 := by rw [ByteArray.size_extract]; omega
  have zV : (cutS (s.extract 5 12)).size ≤ 7 := Nat.le_trans (cutS_le _) (by rw [ByteArray.size_extract]; omega)
  have NU := Lib.hid (fun w' => rnumb_any (s.extract 0 5) w' (by rw [zU]; unfold maxLen; decide))
  have NV := Lib.hid (fun w' => rnumb_any (cutS (s.extract 5 12)) w' (by unfold maxLen; omega))
  have PM := Lib.hid (fun w' => rmagnitude_any (s.extract 65 70) w' (by rw [ByteArray.size_extract]; omega))
  have K1 : Hid (blankP (s.extract 0 5) → numbP (cutS (s.extract 5 12)) → ObsIs s zeroO 12) := Lib.hid fun a b => obs_no (no_n1 a b)
  have K2 : Hid (¬ blankP (s.extract 0 5) → ¬ numbP (s.extract 0 5) → ObsIs s zeroO 12) := Lib.hid fun a b => obs_no (no_n2 a b)
  have K3 : Hid (¬ blankP (s.extract 0 5) → ¬ blankP (s.extract 5 12) → ObsIs s zeroO 12) := Lib.hid fun a b => obs_no (no_n3 a b)
  have K4 : Hid (∀ m, ¬ blankP (s.extract 65 71) → MagA (s.extract 65 70) m false → ObsIs s zeroO 12) := Lib.hid fun m a b => obs_no (no_mag a b)
  have NO1 : Hid (blankP (s.extract 0 5) → ¬ numbP (cutS (s.extract 5 12)) → NameOf s (cutS (s.extract 5 12))) := Lib.hid fun a b => Or.inl ⟨a, rfl, b⟩
  have NO2 : Hid (¬ blankP (s.extract 0 5) → numbP (s.extract 0 5) → blankP (s.extract 5 12) → NameOf s (s.extract 0 5)) := Lib.hid fun a b c => Or.inr ⟨a, rfl, b, c⟩
  unfold numbB at NU NV
  obtain ⟨CN, hCN⟩ : ∃ X, cutS (s.extract 5 12) = X := ⟨_, rfl⟩
  obtain ⟨U, hU⟩ : ∃ X, s.extract 0 5 = X := ⟨_, rfl⟩
  obtain ⟨V, hV⟩ : ∃ X, s.extract 5 12 = X := ⟨_, rfl⟩
  obtain ⟨XB, hXB⟩ : ∃ X, s.extract 65 71 = X := ⟨_, rfl⟩
  obtain ⟨XM, hXM⟩ : ∃ X, s.extract 65 70 = X := ⟨_, rfl⟩
  rw [hCN] at zV NV K1 NO1 CV
  rw [hU] at BU zU NU K1 K2 K3 NO1 NO2
  rw [hV] at BV K3 NO2 CV
  rw [hXB] at BW K4 FIN
  rw [hXM] at PM K4 FIN
  have RS := Lib.hid (Res.new w)
  clear hm e14 hz hb1 hb2 hst hst3 e70 hCN bM
  go_enter Tryz.func14, Tryz.ntmps14
  go_wp2_with (first | (refine (BL1.out _).mono ?_; rintro e w1 ⟨rfl, rfl⟩) | (refine (BL2.out _).mono ?_; rintro e w1 ⟨rfl, rfl⟩))
  refine (RD.out _).mono ?_
  rintro e w1 ⟨o, ok, rfl, hR, hb⟩
  have RS := Lib.hid (RS.out.call hb)
  clear hb RD BL1 BL2
  rcases hR with ⟨rfl, R⟩ | ⟨rfl, rfl, N⟩
  · obtain ⟨eo, t0, t1⟩ := RST.out o R
    have FIN := Lib.hid (fun n m b a1 a2 => FIN.out n m b a1 a2 o R)
    clear RST R
    obtain ⟨on, os, tt, rv, dv, sg, om, ob⟩ := o
    simp only [Ob.mk.injEq] at eo
    obtain ⟨rfl, rfl, -, -, -, -, rfl, rfl⟩ := eo
    simp only at FIN t0 t1
    have TB := Lib.hid (And.intro t0 t1)
    clear t0 t1
    obtain ⟨nb, hnb⟩ : ∃ nb : ByteArray, nb = (if blankP U then CN else U) := ⟨_, rfl⟩
    have NB := Lib.hid hnb
    have znb : nb.size ≤ 7 := by rw [hnb]; split <;> omega
    clear hnb
    have Z1 := Lib.hid (show OY w w1.heap.size ⟨nb, os, tt, rv, dv, sg, 9999, 32⟩ (w1.alloc (.cells (obsC ⟨nb, os, tt, rv, dv, sg, 9999, 32⟩).toArray 23)) from
      ⟨RS.out.call ((Below.refl _ _).alloc (Nat.le_refl _) _), RS.out.lt, by simp, rangeAt_new w1 _ _, there_new w1 _ _ 8 (by show 8 ≤ 8; omega)⟩)
    clear RS
    obtain ⟨ub, hub⟩ : ∃ ub : Bool, decide (blankP U) = ub := ⟨_, rfl⟩
    have BU2 := Lib.hid BU.out
    rw [hub] at BU2
    have HUB := Lib.hid hub
    clear hub
    go_wp2_with (refine wpList_store_new rfl _ (.tmp 4) (.tmp 37) rfl _ _ rfl rfl info8 rfl ?_ ?_; simp [Value.oneCell'])
    refine (BU2.out _).mono ?_
    rintro e w2 ⟨rfl, rfl⟩
    clear BU2
    go_upto_if 44 with fail
    go_cut [5] (fun q wx => q = .bool true ∧ (w1.alloc (.cells (obsC ⟨nb, os, tt, rv, dv, sg, 9999, 32⟩).toArray 23)) = wx)
    case first =>
      clear FIN K1 K2 K3 K4 NO1 NO2
      cases ub
      · have e : nb = U := NB.out.trans (if_neg (of_decide_eq_false HUB.out))
        subst e
        clear NB HUB BU
        go_wp2_with (go_at_call 50; refine (CV.out _).mono ?_; rintro e w2 ⟨rfl, rfl⟩)
        go_meet
        exact ⟨rfl, rfl⟩
      · have e : nb = CN := NB.out.trans (if_pos (of_decide_eq_true HUB.out))
        subst e
        clear NB HUB BU
        go_wp2_with (go_at_call 50; refine (CV.out _).mono ?_; rintro e w2 ⟨rfl, rfl⟩)
        go_meet
        exact ⟨rfl, rfl⟩
    case rest =>
      obtain ⟨rfl, rfl⟩ := hcut
      clear CV
      generalize (w1.alloc (.cells (obsC ⟨nb, os, tt, rv, dv, sg, 9999, 32⟩).toArray 23)) = W1 at *
      have q0 := Z1.out.row 0 _ rfl
      simp only [Nat.zero_add] at q0
      obtain ⟨nok, hnok⟩ : ∃ nok : Bool, nok = decide ((blankP U ∧ numbP CN) ∨ (¬ blankP U ∧ ¬ numbP U) ∨ (¬ blankP U ∧ ¬ blankP V)) := ⟨_, rfl⟩
      have NOK := Lib.hid hnok
      clear hnok
      go_upto_region 9 with fail
      go_cut [70] (fun q wx => q = .bool nok ∧ ∃ k, wx = W1.drewN k)
      case first =>
        clear FIN K1 K2 K3 K4 NO1 NO2 BW PM TB HS3
        by_cases hu : blankP U
        · rw [decide_eq_true hu] at BU
          have e : nb = CN := NB.out.trans (if_pos hu)
          subst e
          by_cases hn : numbP nb
          · rw [decide_eq_true hn] at NV
            have e := Lib.hid (NOK.out.trans (decide_eq_true (Or.inl ⟨hu, hn⟩)))
            clear NB hu hn NOK
            go_quiet (first | (go_at_call 48; first | with_reducible exact quiet_left (BU.out _) | with_reducible exact quiet_add_left (BU.out _) | with_reducible exact quiet_left (BV.out _) | with_reducible exact quiet_add_left (BV.out _)) | (go_at_call 51; first | with_reducible exact quiet_left (NU.out _) | with_reducible exact quiet_add_left (NU.out _) | with_reducible exact quiet_left (NV.out _) | with_reducible exact quiet_add_left (NV.out _)))
            go_wp2_with fail
            go_meet
            exact ⟨by first | rw [e.out] | (rw [e.out]; rfl), _, rfl⟩
          · rw [decide_eq_false hn] at NV
            have e := Lib.hid (NOK.out.trans (decide_eq_false (fun g => by rcases g with ⟨_, g⟩ | ⟨g, _⟩ | ⟨g, _⟩; exact hn g; exact g hu; exact g hu)))
            clear NB hu hn NOK
            go_quiet (first | (go_at_call 48; first | with_reducible exact quiet_left (BU.out _) | with_reducible exact quiet_add_left (BU.out _) | with_reducible exact quiet_left (BV.out _) | with_reducible exact quiet_add_left (BV.out _)) | (go_at_call 51; first | with_reducible exact quiet_left (NU.out _) | with_reducible exact quiet_add_left (NU.out _) | with_reducible exact quiet_left (NV.out _) | with_reducible exact quiet_add_left (NV.out _)))
            go_wp2_with fail
            go_meet
            exact ⟨by first | rw [e.out] | (rw [e.out]; rfl), _, rfl⟩
        · rw [decide_eq_false hu] at BU
          have e : nb = U := NB.out.trans (if_neg hu)
          subst e
          by_cases hn : numbP nb
          · rw [decide_eq_true hn] at NU
            by_cases hv : blankP V
            · rw [decide_eq_true hv] at BV
              have e := Lib.hid (NOK.out.trans (decide_eq_false (fun g => by rcases g with ⟨g, _⟩ | ⟨_, g⟩ | ⟨_, g⟩; exact hu g; exact g hn; exact g hv)))
              clear NB hu hn hv NOK
              go_quiet (first | (go_at_call 48; first | with_reducible exact quiet_left (BU.out _) | with_reducible exact quiet_add_left (BU.out _) | with_reducible exact quiet_left (BV.out _) | with_reducible exact quiet_add_left (BV.out _)) | (go_at_call 51; first | with_reducible exact quiet_left (NU.out _) | with_reducible exact quiet_add_left (NU.out _) | with_reducible exact quiet_left (NV.out _) | with_reducible exact quiet_add_left (NV.out _)))
              go_wp2_with fail
              go_meet
              exact ⟨by first | rw [e.out] | (rw [e.out]; rfl), _, rfl⟩
            · rw [decide_eq_false hv] at BV
              have e := Lib.hid (NOK.out.trans (decide_eq_true (Or.inr (Or.inr ⟨hu, hv⟩))))
              clear NB hu hn hv NOK
              go_quiet (first | (go_at_call 48; first | with_reducible exact quiet_left (BU.out _) | with_reducible exact quiet_add_left (BU.out _) | with_reducible exact quiet_left (BV.out _) | with_reducible exact quiet_add_left (BV.out _)) | (go_at_call 51; first | with_reducible exact quiet_left (NU.out _) | with_reducible exact quiet_add_left (NU.out _) | with_reducible exact quiet_left (NV.out _) | with_reducible exact quiet_add_left (NV.out _)))
              go_wp2_with fail
              go_meet
              exact ⟨by first | rw [e.out] | (rw [e.out]; rfl), _, rfl⟩
          · rw [decide_eq_false hn] at NU
            have e := Lib.hid (NOK.out.trans (decide_eq_true (Or.inr (Or.inl ⟨hu, hn⟩))))
            clear NB hu hn NOK
            go_quiet (first | (go_at_call 48; first | with_reducible exact quiet_left (BU.out _) | with_reducible exact quiet_add_left (BU.out _) | with_reducible exact quiet_left (BV.out _) | with_reducible exact quiet_add_left (BV.out _)) | (go_at_call 51; first | with_reducible exact quiet_left (NU.out _) | with_reducible exact quiet_add_left (NU.out _) | with_reducible exact quiet_left (NV.out _) | with_reducible exact quiet_add_left (NV.out _)))
            go_wp2_with fail
            go_meet
            exact ⟨by first | rw [e.out] | (rw [e.out]; rfl), _, rfl⟩
      case rest =>
        obtain ⟨rfl, k, rfl⟩ := hcut
        have Z2 := Lib.hid (Z1.out.call (drewN_below2 (Below.refl _ _) k))
        clear Z1 q0
        generalize W1.drewN k = W2 at *
        have BAD : Hid (nok = true → ObsIs s zeroO 12) := Lib.hid fun g => by
          rcases of_decide_eq_true (NOK.out.symm.trans g) with ⟨a, b⟩ | ⟨a, b⟩ | ⟨a, b⟩
          · exact K1.out a b
          · exact K2.out a b
          · exact K3.out a b
        have NM : Hid (nok = false → NameOf s nb) := Lib.hid fun g => by
          have h := of_decide_eq_false (NOK.out.symm.trans g)
          by_cases hu : blankP U
          · rw [NB.out, if_pos hu]
            exact NO1.out hu fun b => h (Or.inl ⟨hu, b⟩)
          · rw [NB.out, if_neg hu]
            refine NO2.out hu (Decidable.not_not.1 fun b => h (Or.inr (Or.inl ⟨hu, b⟩))) (Decidable.not_not.1 fun b => h (Or.inr (Or.inr ⟨hu, b⟩)))
        clear NOK NB K1 K2 K3 NO1 NO2 BU BV NU NV
        cases nok
        · have NMX := Lib.hid (NM.out rfl)
          clear BAD NM
          go_wp2_with fail
          refine (BW.out _).mono ?_
          rintro e w2 ⟨rfl, rfl⟩
          by_cases hbl : blankP XB
          · rw [decide_eq_true hbl]
            have CO := Lib.hid (FIN.out nb 9999 32 NMX.out (Or.inl ⟨hbl, rfl, rfl⟩)).obs
            clear FIN K4 PM hbl NMX BW
            have CK := Lib.hid (fun w' => rcheck_any ⟨nb, os, tt, rv, dv, sg, 9999, 32⟩ w' TB.out.1 TB.out.2 (by show (0 : Int) ≤ 32; decide) (by show (32 : Int) ≤ 255; decide) (by unfold maxLen; show nb.size ≤ _; omega) (by unfold maxLen; show os.size ≤ _; rw [HS3.out]; decide))
            go_wp2_with (refine wpList_load_mid rfl _ (.tmp 4) rfl w1.heap.size 0 rfl (obsC ⟨nb, os, tt, rv, dv, sg, 9999, 32⟩) _ Z2.out.row Tryz.underlying23 rfl info8 ?_)
            refine (CK.out _).mono ?_
            rintro e w9 ⟨rfl, hb⟩
            have Z9 := Lib.hid (Z2.out.call hb)
            clear hb Z2 CK
            by_cases ok : okO ⟨nb, os, tt, rv, dv, sg, 9999, 32⟩
            · rw [show checkC ⟨nb, os, tt, rv, dv, sg, 9999, 32⟩ = 0 from if_pos ok]
              have N := Lib.hid (CO.out.1 ok)
              clear CO ok
              go_wp2_with (first | (refine wpList_load_mid rfl _ (.tmp 4) rfl w1.heap.size 0 rfl (obsC ⟨nb, os, tt, rv, dv, sg, 9999, 32⟩) _ Z9.out.row Tryz.underlying23 rfl info8 ?_) | (refine wpList_store_mid rfl _ (.tmp 2) (.tmp 94) rfl w.heap.size 0 _ rfl rfl ?_ info8 ?_ ?_; exact Z9.out.res.th; simp [Value.oneCell']))
              exact bodyPost_ret (ret_cell_tmp Tryz.results14 _ _ w.heap.size (obsC ⟨nb, os, tt, rv, dv, sg, 9999, 32⟩) _ rfl (World.rangeAt_setCells_same _ _ _ _ Z9.out.res.th) Tryz.underlying23 rfl info8) rfl ⟨_, 0, rfl, N.out, below_setCells _ (Nat.le_refl _) _ _ _ Z9.out.res.below⟩
            · rw [show checkC ⟨nb, os, tt, rv, dv, sg, 9999, 32⟩ = 8 from if_neg ok]
              have N := Lib.hid (CO.out.2 ok)
              clear CO ok
              go_wp2_with (refine wpList_store_mid rfl _ (.tmp 2) (.tmp 93) rfl w.heap.size 0 _ rfl rfl ?_ info8 ?_ ?_; exact Z9.out.res.th; simp [Value.oneCell'])
              exact bodyPost_ret (ret_cell_tmp Tryz.results14 _ _ w.heap.size (obsC zeroO) _ rfl (World.rangeAt_setCells_same _ _ _ _ Z9.out.res.th) Tryz.underlying23 rfl info8) rfl ⟨zeroO, 12, rfl, N.out, below_setCells _ (Nat.le_refl _) _ _ _ Z9.out.res.below⟩
          · rw [decide_eq_false hbl]
            clear BW
            go_wp2_with fail
            refine (PM.out _).mono ?_
            rintro e w2 ⟨mm, mb, rfl, hM, hb⟩
            have Z3 := Lib.hid (Z2.out.call hb)
            have HM := Lib.hid hM
            clear hb Z2 PM hM
            cases mb
            · have N := Lib.hid (K4.out mm hbl HM.out)
              clear FIN K4 NMX HM hbl
              go_wp2_with (refine wpList_store_mid rfl _ (.tmp 2) (.tmp 84) rfl w.heap.size 0 _ rfl rfl ?_ info8 ?_ ?_; exact Z3.out.res.th; simp [Value.oneCell'])
              exact bodyPost_ret (ret_cell_tmp Tryz.results14 _ _ w.heap.size (obsC zeroO) _ rfl (World.rangeAt_setCells_same _ _ _ _ Z3.out.res.th) Tryz.underlying23 rfl info8) rfl ⟨zeroO, 12, rfl, N.out, below_setCells _ (Nat.le_refl _) _ _ _ Z3.out.res.below⟩
            · have CO := Lib.hid (FIN.out nb mm B NMX.out (Or.inr ⟨hbl, by rw [← hXM] at HM ⊢; exact yes_mag HM.out, rfl⟩)).obs
              clear FIN K4 NMX HM hbl
              have f6 := (Z3.out.th 6 (by omega)).2
              have f7 := (Z3.out.th 7 (by omega)).2
              have q6 := Z3.out.row 6 _ rfl
              have q7 := Z3.out.row 7 _ rfl
              simp only [Nat.zero_add] at f6 f7 q6 q7
              go_wp2_with fail
              go_region
              have Z4 := Lib.hid (((Z3.out.set 6 (.int .i64 mm) ⟨nb, os, tt, rv, dv, sg, mm, 32⟩ (by omega) rfl).set 7 (.int .u8 B) ⟨nb, os, tt, rv, dv, sg, mm, B⟩ (by omega) rfl).call (Below.refl _ _).drew)
              clear Z3 f6 f7 q6 q7
              generalize ((w2.setCell ⟨w1.heap.size, 6, none⟩ (.int .i64 mm)).setCell ⟨w1.heap.size, 7, none⟩ (.int .u8 B)).drew = W4 at *
              have CK := Lib.hid (fun w' => rcheck_any ⟨nb, os, tt, rv, dv, sg, mm, B⟩ w' TB.out.1 TB.out.2 bB0 (by show B ≤ 255; omega) (by unfold maxLen; show nb.size ≤ _; omega) (by unfold maxLen; show os.size ≤ _; rw [HS3.out]; decide))
              go_wp2_with (refine wpList_load_mid rfl _ (.tmp 4) rfl w1.heap.size 0 rfl (obsC ⟨nb, os, tt, rv, dv, sg, mm, B⟩) _ Z4.out.row Tryz.underlying23 rfl info8 ?_)
              refine (CK.out _).mono ?_
              rintro e w9 ⟨rfl, hb⟩
              have Z9 := Lib.hid (Z4.out.call hb)
              clear hb Z4 CK
              by_cases ok : okO ⟨nb, os, tt, rv, dv, sg, mm, B⟩
              · rw [show checkC ⟨nb, os, tt, rv, dv, sg, mm, B⟩ = 0 from if_pos ok]
                have N := Lib.hid (CO.out.1 ok)
                clear CO ok
                go_wp2_with (first | (refine wpList_load_mid rfl _ (.tmp 4) rfl w1.heap.size 0 rfl (obsC ⟨nb, os, tt, rv, dv, sg, mm, B⟩) _ Z9.out.row Tryz.underlying23 rfl info8 ?_) | (refine wpList_store_mid rfl _ (.tmp 2) (.tmp 94) rfl w.heap.size 0 _ rfl rfl ?_ info8 ?_ ?_; exact Z9.out.res.th; simp [Value.oneCell']))
                exact bodyPost_ret (ret_cell_tmp Tryz.results14 _ _ w.heap.size (obsC ⟨nb, os, tt, rv, dv, sg, mm, B⟩) _ rfl (World.rangeAt_setCells_same _ _ _ _ Z9.out.res.th) Tryz.underlying23 rfl info8) rfl ⟨_, 0, rfl, N.out, below_setCells _ (Nat.le_refl _) _ _ _ Z9.out.res.below⟩
              · rw [show checkC ⟨nb, os, tt, rv, dv, sg, mm, B⟩ = 8 from if_neg ok]
                have N := Lib.hid (CO.out.2 ok)
                clear CO ok
                go_wp2_with (refine wpList_store_mid rfl _ (.tmp 2) (.tmp 93) rfl w.heap.size 0 _ rfl rfl ?_ info8 ?_ ?_; exact Z9.out.res.th; simp [Value.oneCell'])
                exact bodyPost_ret (ret_cell_tmp Tryz.results14 _ _ w.heap.size (obsC zeroO) _ rfl (World.rangeAt_setCells_same _ _ _ _ Z9.out.res.th) Tryz.underlying23 rfl info8) rfl ⟨zeroO, 12, rfl, N.out, below_setCells _ (Nat.le_refl _) _ _ _ Z9.out.res.below⟩
        · have N := Lib.hid (BAD.out rfl)
          clear FIN K4 NM BW PM
          go_wp2_with (refine wpList_store_mid rfl _ (.tmp 2) (.tmp 71) rfl w.heap.size 0 _ rfl rfl ?_ info8 ?_ ?_; exact Z2.out.res.th; simp [Value.oneCell'])
          exact bodyPost_ret (ret_cell_tmp Tryz.results14 _ _ w.heap.size (obsC zeroO) _ rfl (World.rangeAt_setCells_same _ _ _ _ Z2.out.res.th) Tryz.underlying23 rfl info8) rfl ⟨zeroO, 12, rfl, N.out, below_setCells _ (Nat.le_refl _) _ _ _ Z2.out.res.below⟩
  · have N := Lib.hid (obs_no N)
    clear RST FIN
    have RS2 := Lib.hid (RS.out.call ((Below.refl w1.heap.size w1).alloc (Nat.le_refl _) (.cells (obsC zeroO).toArray 23)))
    go_wp2_with (first | (refine wpList_store_new rfl _ (.tmp 4) (.tmp 37) rfl _ _ rfl rfl info8 rfl ?_ ?_; simp [Value.oneCell']) | (refine wpList_store_mid rfl _ (.tmp 2) (.tmp 41) rfl w.heap.size 0 _ rfl rfl ?_ info8 ?_ ?_; exact RS2.out.th; simp [Value.oneCell']))
    exact bodyPost_ret (ret_cell_tmp Tryz.results14 _ _ w.heap.size (obsC zeroO) _ rfl (World.rangeAt_setCells_same _ _ _ _ RS2.out.th) Tryz.underlying23 rfl info8) rfl ⟨zeroO, 12, rfl, N.out, below_setCells _ (Nat.le_refl _) _ _ _ RS2.out.below⟩
theorem rparse_any (s : ByteArray) (w : World) (hs : s.size ≤ maxLen) : Calls Tryz.prog 14 #[.string s] w (ObsPost s w) := by
  by_cases h8 : s.size = 80
  · by_cases hz : s.extract 12 14 = ⟨#[32, 32]⟩
    · by_cases hm : bt s 14 = 67
      · by_cases hb1 : blankP (s.extract 56 65)
        · by_cases hb2 : blankP (s.extract 71 77)
          · exact rparse_main s w h8 hz hm hb1 hb2
          · exact rparse_b2 s w h8 hz hm hb1 hb2
        · exact rparse_b1 s w h8 hz hm hb1
      · exact rparse_mark s w h8 hz hm
    · exact rparse_zz s w h8 hz
  · exact rparse_size s w hs h8
end Ow
end Go.Proofs.YtgodhaphbgllhaaGreatDoor
/-
  The walks of Print, Round of the reference of observations.
-/
namespace Go.Proofs.YtgodhaphbgllhaaGreatDoor
namespace Ow
open Go.RowKit Lw Go.Proofs.YtgodhaphbgllhaaGreatDoor.Ap Go.Proofs.YtgodhaphbgllhaaGreatDoor.Op Go.Proofs.YtgodhaphbgllhaaGreatDoor.Mp Go.Proofs.YtgodhaphbgllhaaGreatDoor.Mw Go.Proofs.YtgodhaphbgllhaaGreatDoor.At

set_option maxRecDepth 100000 in
set_option maxHeartbeats 16000000 in
theorem rprint_any (o : Ob) (w : World) (hb : OB o) : Calls Tryz.prog 12 #[obsV o] w (PrintPost o w) := by
  have X0 := Lib.hid (OX.new w o)
  have CK := Lib.hid (fun w' => rcheck_any o w' hb.t0 hb.t1 hb.b0 hb.b1 hb.n1 hb.n2)
  have LI := Lib.hid (fun w' (ok : okO o) => rline_ok o w' hb.t0 hb.t1 hb.n1 ok)
  clear hb
  go_enter Tryz.func12, Tryz.ntmps12
  go_wp2_with (refine wpList_load_mid rfl _ (.tmp 1) rfl w.heap.size 0 rfl (obsC o) _ X0.out.row Tryz.underlying23 rfl info8 ?_)
  refine (CK.out _).mono ?_
  rintro e w1 ⟨rfl, hb⟩
  have X1 := Lib.hid (X0.out.call hb)
  clear hb X0 CK
  by_cases ok : okO o
  · rw [show checkC o = 0 from if_pos ok]
    have LI := Lib.hid (fun w' => LI.out w' ok)
    go_wp2_with (refine wpList_load_mid rfl _ (.tmp 1) rfl w.heap.size 0 rfl (obsC o) _ X1.out.row Tryz.underlying23 rfl info8 ?_)
    refine (LI.out _).mono ?_
    rintro e w2 ⟨day, hd, rfl, hb⟩
    have HD := Lib.hid hd
    have X2 := Lib.hid (X1.out.call hb)
    clear hb X1 LI hd
    go_wp2_with fail
    go_ret2
    exact ⟨_, 0, rfl, Or.inl ⟨ok, ⟨day, HD.out, rfl⟩, rfl⟩, X2.out.below⟩
  · rw [show checkC o = 8 from if_neg ok]
    clear LI
    go_wp2_with fail
    go_ret2
    exact ⟨_, 8, rfl, Or.inr ⟨ok, rfl, rfl⟩, X1.out.below⟩
set_option maxRecDepth 100000 in
set_option maxHeartbeats 16000000 in
theorem rround_any (o : Ob) (w : World) (hb : OB o) : Calls Tryz.prog 16 #[obsV o] w (RoundPost o w) := by
  have X0 := Lib.hid (RX.new w o)
  have PR := Lib.hid (fun w' => rprint_any o w' hb)
  clear hb
  go_enter Tryz.func16, Tryz.ntmps16
  go_wp2_with (refine wpList_load_mid rfl _ (.tmp 1) rfl w.heap.size 0 rfl (obsC o) _ X0.out.row Tryz.underlying23 rfl info8 ?_)
  refine (PR.out _).mono ?_
  rintro e w1 ⟨s, c, rfl, hP, hb⟩
  have X1 := Lib.hid (X0.out.call hb)
  have HP := Lib.hid hP
  have zs := print_size hP
  clear hb hP X0 PR
  by_cases hc : c = 0
  · subst hc
    have PA := Lib.hid (fun w' => rparse_any s w' (by unfold maxLen; omega))
    go_wp2_with fail
    refine (PA.out _).mono ?_
    rintro e w2 ⟨q, c, rfl, hQ, hb⟩
    have R := Lib.hid (show RoundIs o q c from Or.inl ⟨s, HP.out, hQ⟩)
    have X2 := Lib.hid (X1.out.call hb)
    clear hb hQ X1 HP PA zs
    go_wp2_with (refine wpList_store_mid rfl _ (.tmp 2) (.tmp 17) rfl (w.heap.size + 1) 0 _ rfl rfl ?_ info8 ?_ ?_; exact X2.out.th; simp [Value.oneCell'])
    exact bodyPost_ret (ret_cell_tmp Tryz.results16 _ _ (w.heap.size + 1) (obsC q) _ rfl (World.rangeAt_setCells_same _ _ _ _ X2.out.th) Tryz.underlying23 rfl info8) rfl ⟨q, c, rfl, R.out, below_setCells _ (Nat.le_succ _) _ _ _ X2.out.below⟩
  · have hn : ¬ okO o ∧ c = 8 := by
      rcases HP.out with ⟨_, _, h⟩ | ⟨h, _, g⟩
      · exact absurd h hc
      · exact ⟨h, g⟩
    obtain ⟨hn, rfl⟩ := hn
    have R := Lib.hid (show RoundIs o zeroO 8 from Or.inr ⟨hn, rfl, rfl⟩)
    clear hn hc HP
    go_wp2_with (refine wpList_store_mid rfl _ (.tmp 2) (.tmp 13) rfl (w.heap.size + 1) 0 _ rfl rfl ?_ info8 ?_ ?_; exact X1.out.th; simp [Value.oneCell'])
    exact bodyPost_ret (ret_cell_tmp Tryz.results16 _ _ (w.heap.size + 1) (obsC zeroO) _ rfl (World.rangeAt_setCells_same _ _ _ _ X1.out.th) Tryz.underlying23 rfl info8) rfl ⟨zeroO, 8, rfl, R.out, below_setCells _ (Nat.le_succ _) _ _ _ X1.out.below⟩
end Ow
end Go.Proofs.YtgodhaphbgllhaaGreatDoor
/-
  The walk of the law ObsLines.
-/
namespace Go.Proofs.YtgodhaphbgllhaaGreatDoor
namespace Ow
open Go.RowKit Lw Go.Proofs.YtgodhaphbgllhaaGreatDoor.Ap Go.Proofs.YtgodhaphbgllhaaGreatDoor.Op Go.Proofs.YtgodhaphbgllhaaGreatDoor.Mp Go.Proofs.YtgodhaphbgllhaaGreatDoor.Mw Go.Proofs.YtgodhaphbgllhaaGreatDoor.At

/-- The boxes that the last line compares. -/
structure LX (w0 : World) (o q p : Ob) (b1 b2 b3 b4 : Nat) (w : World) : Prop where
  ox : OX w0 w0.heap.size o w
  c1 : Box b1 q w
  c2 : Box b2 q w
  c3 : Box b3 p w
  c4 : Box b4 p w
  es : ES w
theorem LX.call {w0 w w' : World} {o q p : Ob} {b1 b2 b3 b4 : Nat} (h : LX w0 o q p b1 b2 b3 b4 w) (hb : Below w.heap.size w w') : LX w0 o q p b1 b2 b3 b4 w' := ⟨h.ox.call hb, h.c1.call hb, h.c2.call hb, h.c3.call hb, h.c4.call hb, h.es.below hb⟩
set_option maxRecDepth 100000 in
set_option maxHeartbeats 40000000 in
theorem lines_out (o : Ob) (s : ByteArray) (w : World) (hT : Gt.Tab w) (hE : ES w) (hb : OB o) (hs : s.size ≤ maxLen) (no : longP o ∨ 200 < s.size) : Calls Tryz.prog 3 #[obsV o, .string s] w fun e w' => e = .returned (.bool true) ∧ Below w.heap.size w w' := by
  have X0 := Lib.hid (OX.new w o)
  have GR := great_one (w := w.alloc (.cells (obsC o).toArray 23)) hb
  rw [show (w.alloc (.cells (obsC o).toArray 23)).heap.size = w.heap.size + 1 by simp] at GR
  replace GR := Lib.hid GR
  unfold maxLen at hs
  clear hT hE hb
  obtain ⟨nm, st, tt, ra, dec, sg, mg, bd⟩ := o
  go_enter Tryz.func3, Tryz.ntmps3
  go_wp2_with (refine wpList_load_mid rfl _ (.tmp 2) rfl w.heap.size 0 rfl (obsC ⟨nm, st, tt, ra, dec, sg, mg, bd⟩) _ X0.out.row Tryz.underlying23 rfl info8 ?_)
  refine GR.out.mono ?_
  rintro e w2 ⟨rfl, rfl⟩
  have X2 := Lib.hid (X0.out.call ((Below.refl _ _).alloc (Nat.le_refl _) (.cells (obsC ⟨nm, st, tt, ra, dec, sg, mg, bd⟩).toArray 23)))
  by_cases hl : longP ⟨nm, st, tt, ra, dec, sg, mg, bd⟩
  · rw [decide_eq_true hl]
    clear GR X0 no
    go_wp2_with fail
    go_ret
    exact ⟨rfl, X2.out.below⟩
  · rw [decide_eq_false hl]
    have h2 : (200 : Int) < (s.size : Int) := by have := no.resolve_left hl; omega
    clear GR X0 no
    go_wp2_with fail
    go_ret
    exact ⟨rfl, X2.out.below⟩
set_option maxRecDepth 100000 in
set_option maxHeartbeats 40000000 in
theorem lines_main (o : Ob) (s : ByteArray) (w : World) (hT : Gt.Tab w) (hE : ES w) (hb : OB o) (hs : s.size ≤ maxLen) (nl : ¬ longP o) (h2 : s.size ≤ 200) : Calls Tryz.prog 3 #[obsV o, .string s] w fun e w' => e = .returned (.bool true) ∧ Below w.heap.size w w' := by
  have X0 := Lib.hid (OX.new w o)
  have GR := great_one (w := w.alloc (.cells (obsC o).toArray 23)) hb
  rw [show (w.alloc (.cells (obsC o).toArray 23)).heap.size = w.heap.size + 1 by simp] at GR
  rw [decide_eq_false nl] at GR
  replace GR := Lib.hid GR
  have h3 : ¬ (200 : Int) < (s.size : Int) := by omega
  have HTw := Lib.hid hT
  have HEw := Lib.hid hE
  have P1 := Lib.hid (fun w' (h : Gt.Tab w') (g : ES w') => print_any o w' h g hb)
  have P2 := Lib.hid (fun w' => rprint_any o w' hb)
  have P3 := Lib.hid (fun w' (g : ES w') => obs_parse_any s w' g hs)
  have P4 := Lib.hid (fun w' => rparse_any s w' hs)
  have P5 := Lib.hid (fun w' (h : Gt.Tab w') (g : ES w') => round_any o w' h g hb)
  have P6 := Lib.hid (fun w' => rround_any o w' hb)
  have CK := Lib.hid (fun w' (g : ES w') => check_any o w' g hb.t0 hb.t1 hb.b0 hb.b1 hb.n1 hb.n2)
  have RC := Lib.hid (fun w' => rcheck_any o w' hb.t0 hb.t1 hb.b0 hb.b1 hb.n1 hb.n2)
  unfold maxLen at hs
  clear hT hE hb nl
  obtain ⟨nm, st, tt, ra, dec, sg, mg, bd⟩ := o
  go_enter Tryz.func3, Tryz.ntmps3
  go_wp2_with (refine wpList_load_mid rfl _ (.tmp 2) rfl w.heap.size 0 rfl (obsC ⟨nm, st, tt, ra, dec, sg, mg, bd⟩) _ X0.out.row Tryz.underlying23 rfl info8 ?_)
  refine GR.out.mono ?_
  rintro e w2 ⟨rfl, rfl⟩
  have X2 := Lib.hid (X0.out.call ((Below.refl _ _).alloc (Nat.le_refl _) (.cells (obsC ⟨nm, st, tt, ra, dec, sg, mg, bd⟩).toArray 23)))
  clear GR X0
  go_wp2_with (refine wpList_load_mid rfl _ (.tmp 2) rfl w.heap.size 0 rfl (obsC ⟨nm, st, tt, ra, dec, sg, mg, bd⟩) _ X2.out.row Tryz.underlying23 rfl info8 ?_)
  refine (P1.out _ (HTw.out.below X2.out.below) (HEw.out.below X2.out.below)).mono ?_
  rintro e w3 ⟨S, c, rfl, hP, hb⟩
  have X3 := Lib.hid (X2.out.call hb)
  have HP := Lib.hid hP
  clear hb hP X2 P1
  go_wp2_with (refine wpList_load_mid rfl _ (.tmp 2) rfl w.heap.size 0 rfl (obsC ⟨nm, st, tt, ra, dec, sg, mg, bd⟩) _ X3.out.row Tryz.underlying23 rfl info8 ?_)
  refine (P2.out _).mono ?_
  rintro e w4 ⟨S', c', rfl, hP, hb⟩
  obtain ⟨rfl, rfl⟩ := HP.out.uniq hP
  have X4 := Lib.hid (X3.out.call hb)
  clear hb hP HP X3 P2
  go_wp2_with fail
  refine (P3.out _ (HEw.out.below X4.out.below)).mono ?_
  rintro e w5 ⟨q, c1, rfl, hP, hb⟩
  have X5 := Lib.hid ((X4.out.call hb).call ((Below.refl w5.heap.size w5).alloc (Nat.le_refl _) (.cells (obsC q).toArray 23)))
  have C5 := Lib.hid (Box.new w5 q)
  have HP := Lib.hid hP
  clear hb hP X4 P3
  go_wp2_with (refine wpList_store_new rfl _ (.tmp 9) (.tmp 38) rfl _ _ rfl rfl info8 rfl ?_ ?_; simp [Value.oneCell'])
  refine (P4.out _).mono ?_
  rintro e w6 ⟨q', c1', rfl, hP, hb⟩
  obtain ⟨rfl, rfl⟩ := HP.out.uniq hP
  have X6 := Lib.hid ((X5.out.call hb).call ((Below.refl w6.heap.size w6).alloc (Nat.le_refl _) (.cells (obsC q).toArray 23)))
  have C6 := Lib.hid ((C5.out.call hb).call ((Below.refl w6.heap.size w6).alloc (Nat.le_refl _) (.cells (obsC q).toArray 23)))
  have D6 := Lib.hid (Box.new w6 q)
  clear hb hP HP X5 C5 P4
  go_wp2_with (first | (refine wpList_store_new rfl _ (.tmp 11) (.tmp 43) rfl _ _ rfl rfl info8 rfl ?_ ?_; simp [Value.oneCell']) | (refine wpList_load_mid rfl _ (.tmp 2) rfl w.heap.size 0 rfl (obsC ⟨nm, st, tt, ra, dec, sg, mg, bd⟩) _ X6.out.row Tryz.underlying23 rfl info8 ?_))
  refine (P5.out _ (HTw.out.below X6.out.below) (HEw.out.below X6.out.below)).mono ?_
  rintro e w7 ⟨p, c2, rfl, hP, hb⟩
  have X7 := Lib.hid ((X6.out.call hb).call ((Below.refl w7.heap.size w7).alloc (Nat.le_refl _) (.cells (obsC p).toArray 23)))
  have C7 := Lib.hid ((C6.out.call hb).call ((Below.refl w7.heap.size w7).alloc (Nat.le_refl _) (.cells (obsC p).toArray 23)))
  have D7 := Lib.hid ((D6.out.call hb).call ((Below.refl w7.heap.size w7).alloc (Nat.le_refl _) (.cells (obsC p).toArray 23)))
  have E7 := Lib.hid (Box.new w7 p)
  have HP := Lib.hid hP
  clear hb hP X6 C6 D6 P5
  go_wp2_with (first | (refine wpList_store_new rfl _ (.tmp 13) (.tmp 48) rfl _ _ rfl rfl info8 rfl ?_ ?_; simp [Value.oneCell']) | (refine wpList_load_mid rfl _ (.tmp 2) rfl w.heap.size 0 rfl (obsC ⟨nm, st, tt, ra, dec, sg, mg, bd⟩) _ X7.out.row Tryz.underlying23 rfl info8 ?_))
  refine (P6.out _).mono ?_
  rintro e w8 ⟨p', c2', rfl, hP, hb⟩
  obtain ⟨rfl, rfl⟩ := HP.out.uniq hP
  have L8 := Lib.hid (show LX w ⟨nm, st, tt, ra, dec, sg, mg, bd⟩ q p w5.heap.size w6.heap.size w7.heap.size w8.heap.size (w8.alloc (.cells (obsC p).toArray 23)) from
    ⟨(X7.out.call hb).call ((Below.refl w8.heap.size w8).alloc (Nat.le_refl _) (.cells (obsC p).toArray 23)), (C7.out.call hb).call ((Below.refl w8.heap.size w8).alloc (Nat.le_refl _) (.cells (obsC p).toArray 23)), (D7.out.call hb).call ((Below.refl w8.heap.size w8).alloc (Nat.le_refl _) (.cells (obsC p).toArray 23)), (E7.out.call hb).call ((Below.refl w8.heap.size w8).alloc (Nat.le_refl _) (.cells (obsC p).toArray 23)), Box.new w8 p, HEw.out.below ((X7.out.call hb).call ((Below.refl w8.heap.size w8).alloc (Nat.le_refl _) (.cells (obsC p).toArray 23))).below⟩)
  clear hb hP HP X7 C7 D7 E7 P6 HTw HEw
  obtain ⟨K, hK0⟩ : ∃ K, checkC ⟨nm, st, tt, ra, dec, sg, mg, bd⟩ = K := ⟨_, rfl⟩
  rw [hK0] at CK RC
  clear hK0
  go_upto_region 9 with (refine wpList_store_new rfl _ (.tmp 15) (.tmp 53) rfl _ _ rfl rfl info8 rfl ?_ ?_; simp [Value.oneCell'])
  refine wp_region_held_drew (S := LX w ⟨nm, st, tt, ra, dec, sg, mg, bd⟩ q p w5.heap.size w6.heap.size w7.heap.size w8.heap.size) (by kernel_rfl) (L8.out.call (Below.refl _ _).drew) (fun hHeld => ?_)
  clear L8
  refine wpAnyH_take (i := 0) (oi := ?oi0x1) (v := ?v0x1) ?hi0x1 (by kernel_rfl) (by kernel_rfl) (by kernel_rfl) ?hq0x1 ?hy0x1 hHeld ?rest0x1
  case hi0x1 => ((try simp only [List.getElem?_toArray, List.getElem?_cons_succ, List.getElem?_cons_zero]); (try rfl))
  case hq0x1 => exact fun _ _ _ h => h
  case hy0x1 => 
    refine' yieldsIf_load_mid ?_ 23 (.tmp 2) ?_ w.heap.size 0 ?_ (obsC ⟨nm, st, tt, ra, dec, sg, mg, bd⟩) _ ?_ Tryz.underlying23 ?_ info8
    · rfl
    · rfl
    · rfl
    · exact fun _ h => (LX.ox h).row
    · rfl
  try simp only [Act.put, List.setIfInBounds_toArray, List.set_cons_zero, List.set_cons_succ]
  refine wpAnyH_take (i := 2) (oi := ?oi2x2) (v := ?v2x2) ?hi2x2 (by kernel_rfl) (by kernel_rfl) (by kernel_rfl) ?hq2x2 ?hy2x2 hHeld ?rest2x2
  case hi2x2 => ((try simp only [List.getElem?_toArray, List.getElem?_cons_succ, List.getElem?_cons_zero]); (try rfl))
  case hq2x2 => exact fun _ _ _ h => h
  case hy2x2 => 
    refine' yieldsIf_load_mid ?_ 23 (.tmp 2) ?_ w.heap.size 0 ?_ (obsC ⟨nm, st, tt, ra, dec, sg, mg, bd⟩) _ ?_ Tryz.underlying23 ?_ info8
    · rfl
    · rfl
    · rfl
    · exact fun _ h => (LX.ox h).row
    · rfl
  try simp only [Act.put, List.setIfInBounds_toArray, List.set_cons_zero, List.set_cons_succ]
  refine wpAnyH_ready (rs := [1]) (by kernel_rfl) (by simp) ?_
  refine AllReadyH.cons rfl (fun K' hK => ?_) AllReadyH.nil
  have H1 := Lib.hid hHeld
  clear hHeld
  go_simp
  refine (CK.out _ H1.out.es).mono ?_
  rintro e w9 ⟨rfl, hb9⟩
  refine hK.out _ _ (H1.out.call hb9) (fun hHeld => ?_)
  clear hK H1 hb9
  try simp only [Act.put, List.setIfInBounds_toArray, List.set_cons_zero, List.set_cons_succ]
  refine wpAnyH_ready (rs := [3]) (by kernel_rfl) (by simp) ?_
  refine AllReadyH.cons rfl (fun K' hK => ?_) AllReadyH.nil
  have H1 := Lib.hid hHeld
  clear hHeld
  go_simp
  refine (RC.out _).mono ?_
  rintro e w9 ⟨rfl, hb9⟩
  refine hK.out _ _ (H1.out.call hb9) (fun hHeld => ?_)
  clear hK H1 hb9
  try simp only [Act.put, List.setIfInBounds_toArray, List.set_cons_zero, List.set_cons_succ]
  clear CK RC
  refine wpAnyH_take (i := 4) (oi := ?oi4x3) (v := ?v4x3) ?hi4x3 (by kernel_rfl) (by kernel_rfl) (by kernel_rfl) ?hq4x3 ?hy4x3 hHeld ?rest4x3
  case hi4x3 => ((try simp only [List.getElem?_toArray, List.getElem?_cons_succ, List.getElem?_cons_zero]); (try rfl))
  case hq4x3 => exact fun _ _ _ h => h
  case hy4x3 => exact Or.inl ⟨by rfl, by intro w hSw; clear hSw; go_simp; try with_reducible rfl⟩
  try simp only [Act.put, List.setIfInBounds_toArray, List.set_cons_zero, List.set_cons_succ]
  refine wpAnyH_take (i := 5) (oi := ?oi5x4) (v := ?v5x4) ?hi5x4 (by kernel_rfl) (by kernel_rfl) (by kernel_rfl) ?hq5x4 ?hy5x4 hHeld ?rest5x4
  case hi5x4 => ((try simp only [List.getElem?_toArray, List.getElem?_cons_succ, List.getElem?_cons_zero]); (try rfl))
  case hq5x4 => exact fun _ _ _ h => h
  case hy5x4 => exact Or.inl ⟨by rfl, by intro w hSw; clear hSw; go_simp; try with_reducible rfl⟩
  try simp only [Act.put, List.setIfInBounds_toArray, List.set_cons_zero, List.set_cons_succ]
  refine wpAnyH_take (i := 6) (oi := ?oi6x5) (v := ?v6x5) ?hi6x5 (by kernel_rfl) (by kernel_rfl) (by kernel_rfl) ?hq6x5 ?hy6x5 hHeld ?rest6x5
  case hi6x5 => ((try simp only [List.getElem?_toArray, List.getElem?_cons_succ, List.getElem?_cons_zero]); (try rfl))
  case hq6x5 => exact fun _ _ _ h => h
  case hy6x5 => exact Or.inl ⟨by rfl, by intro w hSw; clear hSw; go_simp; try with_reducible rfl⟩
  try simp only [Act.put, List.setIfInBounds_toArray, List.set_cons_zero, List.set_cons_succ]
  refine wpAnyH_take (i := 7) (oi := ?oi7x6) (v := ?v7x6) ?hi7x6 (by kernel_rfl) (by kernel_rfl) (by kernel_rfl) ?hq7x6 ?hy7x6 hHeld ?rest7x6
  case hi7x6 => ((try simp only [List.getElem?_toArray, List.getElem?_cons_succ, List.getElem?_cons_zero]); (try rfl))
  case hq7x6 => exact fun _ _ _ h => h
  case hy7x6 => exact Or.inl ⟨by rfl, by intro w hSw; clear hSw; go_simp; try with_reducible rfl⟩
  try simp only [Act.put, List.setIfInBounds_toArray, List.set_cons_zero, List.set_cons_succ]
  refine wpAnyH_take (i := 8) (oi := ?oi8x7) (v := ?v8x7) ?hi8x7 (by kernel_rfl) (by kernel_rfl) (by kernel_rfl) ?hq8x7 ?hy8x7 hHeld ?rest8x7
  case hi8x7 => ((try simp only [List.getElem?_toArray, List.getElem?_cons_succ, List.getElem?_cons_zero]); (try rfl))
  case hq8x7 => exact fun _ _ _ h => h
  case hy8x7 => exact Or.inl ⟨by rfl, by intro w hSw; clear hSw; go_simp; try with_reducible rfl⟩
  try simp only [Act.put, List.setIfInBounds_toArray, List.set_cons_zero, List.set_cons_succ]
  refine wpAnyH_take (i := 9) (oi := ?oi9x8) (v := ?v9x8) ?hi9x8 (by kernel_rfl) (by kernel_rfl) (by kernel_rfl) ?hq9x8 ?hy9x8 hHeld ?rest9x8
  case hi9x8 => ((try simp only [List.getElem?_toArray, List.getElem?_cons_succ, List.getElem?_cons_zero]); (try rfl))
  case hq9x8 => exact fun _ _ _ h => h
  case hy9x8 => exact Or.inl ⟨by rfl, by intro w hSw; clear hSw; go_simp; try with_reducible rfl⟩
  try simp only [Act.put, List.setIfInBounds_toArray, List.set_cons_zero, List.set_cons_succ]
  refine wpAnyH_take (i := 10) (oi := ?oi10x9) (v := ?v10x9) ?hi10x9 (by kernel_rfl) (by kernel_rfl) (by kernel_rfl) ?hq10x9 ?hy10x9 hHeld ?rest10x9
  case hi10x9 => ((try simp only [List.getElem?_toArray, List.getElem?_cons_succ, List.getElem?_cons_zero]); (try rfl))
  case hq10x9 => exact fun _ _ _ h => h
  case hy10x9 => exact Or.inl ⟨by rfl, by intro w hSw; clear hSw; go_simp; try with_reducible rfl⟩
  try simp only [Act.put, List.setIfInBounds_toArray, List.set_cons_zero, List.set_cons_succ]
  refine wpAnyH_take (i := 11) (oi := ?oi11x10) (v := ?v11x10) ?hi11x10 (by kernel_rfl) (by kernel_rfl) (by kernel_rfl) ?hq11x10 ?hy11x10 hHeld ?rest11x10
  case hi11x10 => ((try simp only [List.getElem?_toArray, List.getElem?_cons_succ, List.getElem?_cons_zero]); (try rfl))
  case hq11x10 => exact fun _ _ _ h => h
  case hy11x10 => exact Or.inl ⟨by rfl, by intro w hSw; clear hSw; go_simp; try with_reducible rfl⟩
  try simp only [Act.put, List.setIfInBounds_toArray, List.set_cons_zero, List.set_cons_succ]
  refine wpAnyH_take (i := 12) (oi := ?oi12x11) (v := ?v12x11) ?hi12x11 (by kernel_rfl) (by kernel_rfl) (by kernel_rfl) ?hq12x11 ?hy12x11 hHeld ?rest12x11
  case hi12x11 => ((try simp only [List.getElem?_toArray, List.getElem?_cons_succ, List.getElem?_cons_zero]); (try rfl))
  case hq12x11 => exact fun _ _ _ h => h
  case hy12x11 => exact Or.inl ⟨by rfl, by intro w hSw; clear hSw; go_simp; try with_reducible rfl⟩
  try simp only [Act.put, List.setIfInBounds_toArray, List.set_cons_zero, List.set_cons_succ]
  refine wpAnyH_take (i := 13) (oi := ?oi13x12) (v := ?v13x12) ?hi13x12 (by kernel_rfl) (by kernel_rfl) (by kernel_rfl) ?hq13x12 ?hy13x12 hHeld ?rest13x12
  case hi13x12 => ((try simp only [List.getElem?_toArray, List.getElem?_cons_succ, List.getElem?_cons_zero]); (try rfl))
  case hq13x12 => exact fun _ _ _ h => h
  case hy13x12 => exact Or.inl ⟨by rfl, by intro w hSw; clear hSw; go_simp; try with_reducible rfl⟩
  try simp only [Act.put, List.setIfInBounds_toArray, List.set_cons_zero, List.set_cons_succ]
  refine wpAnyH_take (i := 14) (oi := ?oi14x13) (v := ?v14x13) ?hi14x13 (by kernel_rfl) (by kernel_rfl) (by kernel_rfl) ?hq14x13 ?hy14x13 hHeld ?rest14x13
  case hi14x13 => ((try simp only [List.getElem?_toArray, List.getElem?_cons_succ, List.getElem?_cons_zero]); (try rfl))
  case hq14x13 => exact fun _ _ _ h => h
  case hy14x13 => exact Or.inl ⟨by rfl, by intro w hSw; clear hSw; go_simp; try with_reducible rfl⟩
  try simp only [Act.put, List.setIfInBounds_toArray, List.set_cons_zero, List.set_cons_succ]
  refine wpAnyH_take (i := 15) (oi := ?oi15x14) (v := ?v15x14) ?hi15x14 (by kernel_rfl) (by kernel_rfl) (by kernel_rfl) ?hq15x14 ?hy15x14 hHeld ?rest15x14
  case hi15x14 => ((try simp only [List.getElem?_toArray, List.getElem?_cons_succ, List.getElem?_cons_zero]); (try rfl))
  case hq15x14 => exact fun _ _ _ h => h
  case hy15x14 => exact Or.inl ⟨by rfl, by intro w hSw; clear hSw; go_simp; try with_reducible rfl⟩
  try simp only [Act.put, List.setIfInBounds_toArray, List.set_cons_zero, List.set_cons_succ]
  refine wpAnyH_take (i := 16) (oi := ?oi16x15) (v := ?v16x15) ?hi16x15 (by kernel_rfl) (by kernel_rfl) (by kernel_rfl) ?hq16x15 ?hy16x15 hHeld ?rest16x15
  case hi16x15 => ((try simp only [List.getElem?_toArray, List.getElem?_cons_succ, List.getElem?_cons_zero]); (try rfl))
  case hq16x15 => exact fun _ _ _ h => h
  case hy16x15 => 
    refine' yieldsIf_load_mid ?_ 23 (.tmp 9) ?_ w5.heap.size 0 ?_ (obsC q) _ ?_ Tryz.underlying23 ?_ info8
    · rfl
    · rfl
    · rfl
    · exact fun _ h => (LX.c1 h).row
    · rfl
  try simp only [Act.put, List.setIfInBounds_toArray, List.set_cons_zero, List.set_cons_succ]
  refine wpAnyH_take (i := 17) (oi := ?oi17x16) (v := ?v17x16) ?hi17x16 (by kernel_rfl) (by kernel_rfl) (by kernel_rfl) ?hq17x16 ?hy17x16 hHeld ?rest17x16
  case hi17x16 => ((try simp only [List.getElem?_toArray, List.getElem?_cons_succ, List.getElem?_cons_zero]); (try rfl))
  case hq17x16 => exact fun _ _ _ h => h
  case hy17x16 => 
    refine' yieldsIf_load_mid ?_ 23 (.tmp 11) ?_ w6.heap.size 0 ?_ (obsC q) _ ?_ Tryz.underlying23 ?_ info8
    · rfl
    · rfl
    · rfl
    · exact fun _ h => (LX.c2 h).row
    · rfl
  try simp only [Act.put, List.setIfInBounds_toArray, List.set_cons_zero, List.set_cons_succ]
  refine wpAnyH_take (i := 18) (oi := ?oi18x17) (v := ?v18x17) ?hi18x17 (by kernel_rfl) (by kernel_rfl) (by kernel_rfl) ?hq18x17 ?hy18x17 hHeld ?rest18x17
  case hi18x17 => ((try simp only [List.getElem?_toArray, List.getElem?_cons_succ, List.getElem?_cons_zero]); (try rfl))
  case hq18x17 => exact fun _ _ _ h => h
  case hy18x17 => exact Or.inl ⟨by rfl, by intro w hSw; clear hSw; go_simp; try with_reducible rfl⟩
  try simp only [Act.put, List.setIfInBounds_toArray, List.set_cons_zero, List.set_cons_succ]
  refine wpAnyH_take (i := 19) (oi := ?oi19x18) (v := ?v19x18) ?hi19x18 (by kernel_rfl) (by kernel_rfl) (by kernel_rfl) ?hq19x18 ?hy19x18 hHeld ?rest19x18
  case hi19x18 => ((try simp only [List.getElem?_toArray, List.getElem?_cons_succ, List.getElem?_cons_zero]); (try rfl))
  case hq19x18 => exact fun _ _ _ h => h
  case hy19x18 => exact Or.inl ⟨by rfl, by intro w hSw; clear hSw; go_simp; try with_reducible rfl⟩
  try simp only [Act.put, List.setIfInBounds_toArray, List.set_cons_zero, List.set_cons_succ]
  refine wpAnyH_take (i := 20) (oi := ?oi20x19) (v := ?v20x19) ?hi20x19 (by kernel_rfl) (by kernel_rfl) (by kernel_rfl) ?hq20x19 ?hy20x19 hHeld ?rest20x19
  case hi20x19 => ((try simp only [List.getElem?_toArray, List.getElem?_cons_succ, List.getElem?_cons_zero]); (try rfl))
  case hq20x19 => exact fun _ _ _ h => h
  case hy20x19 => exact Or.inl ⟨by rfl, by intro w hSw; clear hSw; go_simp; try with_reducible rfl⟩
  try simp only [Act.put, List.setIfInBounds_toArray, List.set_cons_zero, List.set_cons_succ]
  refine wpAnyH_take (i := 21) (oi := ?oi21x20) (v := ?v21x20) ?hi21x20 (by kernel_rfl) (by kernel_rfl) (by kernel_rfl) ?hq21x20 ?hy21x20 hHeld ?rest21x20
  case hi21x20 => ((try simp only [List.getElem?_toArray, List.getElem?_cons_succ, List.getElem?_cons_zero]); (try rfl))
  case hq21x20 => exact fun _ _ _ h => h
  case hy21x20 => exact Or.inl ⟨by rfl, by intro w hSw; clear hSw; go_simp; try with_reducible rfl⟩
  try simp only [Act.put, List.setIfInBounds_toArray, List.set_cons_zero, List.set_cons_succ]
  refine wpAnyH_take (i := 22) (oi := ?oi22x21) (v := ?v22x21) ?hi22x21 (by kernel_rfl) (by kernel_rfl) (by kernel_rfl) ?hq22x21 ?hy22x21 hHeld ?rest22x21
  case hi22x21 => ((try simp only [List.getElem?_toArray, List.getElem?_cons_succ, List.getElem?_cons_zero]); (try rfl))
  case hq22x21 => exact fun _ _ _ h => h
  case hy22x21 => exact Or.inl ⟨by rfl, by intro w hSw; clear hSw; go_simp; try with_reducible rfl⟩
  try simp only [Act.put, List.setIfInBounds_toArray, List.set_cons_zero, List.set_cons_succ]
  refine wpAnyH_take (i := 23) (oi := ?oi23x22) (v := ?v23x22) ?hi23x22 (by kernel_rfl) (by kernel_rfl) (by kernel_rfl) ?hq23x22 ?hy23x22 hHeld ?rest23x22
  case hi23x22 => ((try simp only [List.getElem?_toArray, List.getElem?_cons_succ, List.getElem?_cons_zero]); (try rfl))
  case hq23x22 => exact fun _ _ _ h => h
  case hy23x22 => exact Or.inl ⟨by rfl, by intro w hSw; clear hSw; go_simp; try with_reducible rfl⟩
  try simp only [Act.put, List.setIfInBounds_toArray, List.set_cons_zero, List.set_cons_succ]
  refine wpAnyH_take (i := 24) (oi := ?oi24x23) (v := ?v24x23) ?hi24x23 (by kernel_rfl) (by kernel_rfl) (by kernel_rfl) ?hq24x23 ?hy24x23 hHeld ?rest24x23
  case hi24x23 => ((try simp only [List.getElem?_toArray, List.getElem?_cons_succ, List.getElem?_cons_zero]); (try rfl))
  case hq24x23 => exact fun _ _ _ h => h
  case hy24x23 => exact Or.inl ⟨by rfl, by intro w hSw; clear hSw; go_simp; try with_reducible rfl⟩
  try simp only [Act.put, List.setIfInBounds_toArray, List.set_cons_zero, List.set_cons_succ]
  refine wpAnyH_take (i := 25) (oi := ?oi25x24) (v := ?v25x24) ?hi25x24 (by kernel_rfl) (by kernel_rfl) (by kernel_rfl) ?hq25x24 ?hy25x24 hHeld ?rest25x24
  case hi25x24 => ((try simp only [List.getElem?_toArray, List.getElem?_cons_succ, List.getElem?_cons_zero]); (try rfl))
  case hq25x24 => exact fun _ _ _ h => h
  case hy25x24 => exact Or.inl ⟨by rfl, by intro w hSw; clear hSw; go_simp; try with_reducible rfl⟩
  try simp only [Act.put, List.setIfInBounds_toArray, List.set_cons_zero, List.set_cons_succ]
  refine wpAnyH_take (i := 26) (oi := ?oi26x25) (v := ?v26x25) ?hi26x25 (by kernel_rfl) (by kernel_rfl) (by kernel_rfl) ?hq26x25 ?hy26x25 hHeld ?rest26x25
  case hi26x25 => ((try simp only [List.getElem?_toArray, List.getElem?_cons_succ, List.getElem?_cons_zero]); (try rfl))
  case hq26x25 => exact fun _ _ _ h => h
  case hy26x25 => 
    refine' yieldsIf_load_mid ?_ 23 (.tmp 13) ?_ w7.heap.size 0 ?_ (obsC p) _ ?_ Tryz.underlying23 ?_ info8
    · rfl
    · rfl
    · rfl
    · exact fun _ h => (LX.c3 h).row
    · rfl
  try simp only [Act.put, List.setIfInBounds_toArray, List.set_cons_zero, List.set_cons_succ]
  refine wpAnyH_take (i := 27) (oi := ?oi27x26) (v := ?v27x26) ?hi27x26 (by kernel_rfl) (by kernel_rfl) (by kernel_rfl) ?hq27x26 ?hy27x26 hHeld ?rest27x26
  case hi27x26 => ((try simp only [List.getElem?_toArray, List.getElem?_cons_succ, List.getElem?_cons_zero]); (try rfl))
  case hq27x26 => exact fun _ _ _ h => h
  case hy27x26 => 
    refine' yieldsIf_load_mid ?_ 23 (.tmp 15) ?_ w8.heap.size 0 ?_ (obsC p) _ ?_ Tryz.underlying23 ?_ info8
    · rfl
    · rfl
    · rfl
    · exact fun _ h => (LX.c4 h).row
    · rfl
  try simp only [Act.put, List.setIfInBounds_toArray, List.set_cons_zero, List.set_cons_succ]
  refine wpAnyH_take (i := 28) (oi := ?oi28x27) (v := ?v28x27) ?hi28x27 (by kernel_rfl) (by kernel_rfl) (by kernel_rfl) ?hq28x27 ?hy28x27 hHeld ?rest28x27
  case hi28x27 => ((try simp only [List.getElem?_toArray, List.getElem?_cons_succ, List.getElem?_cons_zero]); (try rfl))
  case hq28x27 => exact fun _ _ _ h => h
  case hy28x27 => exact Or.inl ⟨by rfl, by intro w hSw; clear hSw; go_simp; try with_reducible rfl⟩
  try simp only [Act.put, List.setIfInBounds_toArray, List.set_cons_zero, List.set_cons_succ]
  refine wpAnyH_take (i := 29) (oi := ?oi29x28) (v := ?v29x28) ?hi29x28 (by kernel_rfl) (by kernel_rfl) (by kernel_rfl) ?hq29x28 ?hy29x28 hHeld ?rest29x28
  case hi29x28 => ((try simp only [List.getElem?_toArray, List.getElem?_cons_succ, List.getElem?_cons_zero]); (try rfl))
  case hq29x28 => exact fun _ _ _ h => h
  case hy29x28 => exact Or.inl ⟨by rfl, by intro w hSw; clear hSw; go_simp; try with_reducible rfl⟩
  try simp only [Act.put, List.setIfInBounds_toArray, List.set_cons_zero, List.set_cons_succ]
  refine wpAnyH_take (i := 30) (oi := ?oi30x29) (v := ?v30x29) ?hi30x29 (by kernel_rfl) (by kernel_rfl) (by kernel_rfl) ?hq30x29 ?hy30x29 hHeld ?rest30x29
  case hi30x29 => ((try simp only [List.getElem?_toArray, List.getElem?_cons_succ, List.getElem?_cons_zero]); (try rfl))
  case hq30x29 => exact fun _ _ _ h => h
  case hy30x29 => exact Or.inl ⟨by rfl, by intro w hSw; clear hSw; go_simp; try with_reducible rfl⟩
  try simp only [Act.put, List.setIfInBounds_toArray, List.set_cons_zero, List.set_cons_succ]
  refine wpAnyH_take (i := 31) (oi := ?oi31x30) (v := ?v31x30) ?hi31x30 (by kernel_rfl) (by kernel_rfl) (by kernel_rfl) ?hq31x30 ?hy31x30 hHeld ?rest31x30
  case hi31x30 => ((try simp only [List.getElem?_toArray, List.getElem?_cons_succ, List.getElem?_cons_zero]); (try rfl))
  case hq31x30 => exact fun _ _ _ h => h
  case hy31x30 => exact Or.inl ⟨by rfl, by intro w hSw; clear hSw; go_simp; try with_reducible rfl⟩
  try simp only [Act.put, List.setIfInBounds_toArray, List.set_cons_zero, List.set_cons_succ]
  refine wpAnyH_take (i := 32) (oi := ?oi32x31) (v := ?v32x31) ?hi32x31 (by kernel_rfl) (by kernel_rfl) (by kernel_rfl) ?hq32x31 ?hy32x31 hHeld ?rest32x31
  case hi32x31 => ((try simp only [List.getElem?_toArray, List.getElem?_cons_succ, List.getElem?_cons_zero]); (try rfl))
  case hq32x31 => exact fun _ _ _ h => h
  case hy32x31 => exact Or.inl ⟨by rfl, by intro w hSw; clear hSw; go_simp; try with_reducible rfl⟩
  try simp only [Act.put, List.setIfInBounds_toArray, List.set_cons_zero, List.set_cons_succ]
  refine wpAnyH_take (i := 33) (oi := ?oi33x32) (v := ?v33x32) ?hi33x32 (by kernel_rfl) (by kernel_rfl) (by kernel_rfl) ?hq33x32 ?hy33x32 hHeld ?rest33x32
  case hi33x32 => ((try simp only [List.getElem?_toArray, List.getElem?_cons_succ, List.getElem?_cons_zero]); (try rfl))
  case hq33x32 => exact fun _ _ _ h => h
  case hy33x32 => exact Or.inl ⟨by rfl, by intro w hSw; clear hSw; go_simp; try with_reducible rfl⟩
  try simp only [Act.put, List.setIfInBounds_toArray, List.set_cons_zero, List.set_cons_succ]
  refine wpAnyH_take (i := 34) (oi := ?oi34x33) (v := ?v34x33) ?hi34x33 (by kernel_rfl) (by kernel_rfl) (by kernel_rfl) ?hq34x33 ?hy34x33 hHeld ?rest34x33
  case hi34x33 => ((try simp only [List.getElem?_toArray, List.getElem?_cons_succ, List.getElem?_cons_zero]); (try rfl))
  case hq34x33 => exact fun _ _ _ h => h
  case hy34x33 => exact Or.inl ⟨by rfl, by intro w hSw; clear hSw; go_simp; try with_reducible rfl⟩
  try simp only [Act.put, List.setIfInBounds_toArray, List.set_cons_zero, List.set_cons_succ]
  refine wpAnyH_take (i := 35) (oi := ?oi35x34) (v := ?v35x34) ?hi35x34 (by kernel_rfl) (by kernel_rfl) (by kernel_rfl) ?hq35x34 ?hy35x34 hHeld ?rest35x34
  case hi35x34 => ((try simp only [List.getElem?_toArray, List.getElem?_cons_succ, List.getElem?_cons_zero]); (try rfl))
  case hq35x34 => exact fun _ _ _ h => h
  case hy35x34 => exact Or.inl ⟨by rfl, by intro w hSw; clear hSw; go_simp; try with_reducible rfl⟩
  try simp only [Act.put, List.setIfInBounds_toArray, List.set_cons_zero, List.set_cons_succ]
  refine wpAnyH_done (by kernel_rfl) ?_ _
  have XF := Lib.hid hHeld.ox
  clear hHeld
  go_wp2_with fail
  go_ret
  exact ⟨rfl, XF.out.below⟩
theorem obslines_any (o : Ob) (s : ByteArray) (w : World) (hT : Gt.Tab w) (hE : ES w) (hb : OB o) (hs : s.size ≤ maxLen) : Calls Tryz.prog 3 #[obsV o, .string s] w fun e w' => e = .returned (.bool true) ∧ Below w.heap.size w w' := by
  by_cases h : longP o ∨ 200 < s.size
  · exact lines_out o s w hT hE hb hs h
  · exact lines_main o s w hT hE hb hs (fun g => h (Or.inl g)) (by
      rcases Nat.lt_or_ge 200 s.size with g | g
      · exact absurd (Or.inr g) h
      · exact g)
end Ow
end Go.Proofs.YtgodhaphbgllhaaGreatDoor
