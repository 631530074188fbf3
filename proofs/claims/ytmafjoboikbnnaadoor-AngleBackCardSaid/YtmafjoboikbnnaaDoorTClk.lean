/-
  Texts of parts of a second: clock of package angle.
-/
import Derived.Test.YtmafjoboikbnnaaDoorTPad
namespace Go.Proofs.YtmafjoboikbnnaaDoor
namespace At
open Go.RowKit Lw Ap

/-- Hours, minutes, seconds and parts. -/
def clockL (n d : Nat) : List UInt8 :=
  glueL ((n / 10 ^ d / 3600 : Nat) : Int) ((n / 10 ^ d / 60 % 60 : Nat) : Int) ((n / 10 ^ d % 60 : Nat) : Int) ++ (if 0 < d then 46 :: padL ((n % 10 ^ d : Nat) : Int) d else [])

theorem glue_len (x y z : Int) (x0 : 0 ≤ x) (x1 : x ≤ 1000000000000) (y0 : 0 ≤ y) (y1 : y ≤ 1000000000000) (z0 : 0 ≤ z) (z1 : z ≤ 1000000000000) : (glueL x y z).length ≤ 130 := by
  have a := pad_len x 2 x0 (by omega) (by omega)
  have b := pad_len y 2 y0 (by omega) (by omega)
  have c := pad_len z 2 z0 (by omega) (by omega)
  unfold glueL
  simp only [List.length_append, List.length_cons, List.length_nil]
  omega
set_option maxRecDepth 100000 in
set_option maxHeartbeats 4000000 in
theorem clock_any (n d : Nat) (w : World) (hT : Tab w) (hn : n ≤ 1000000000000) (hd : d ≤ 18) :
    Calls Tryd.prog 35 #[.int .i64 n, .int .i64 d] w fun e w' => e = .returned (.string ⟨(clockL n d).toArray⟩) ∧ Below w.heap.size w w' := by
  have hp : 1 ≤ 10 ^ d := Nat.pow_pos (by omega)
  have hp2 : 10 ^ d ≤ 1000000000000000000 := Nat.pow_le_pow_right (n := 10) (by omega) hd
  have NT : ∀ w : World, Calls Tryd.prog 24 #[.int .i64 d] w fun e w' => e = .returned (.int .i64 ((10 ^ d : Nat) : Int)) ∧ w = w' := fun w => ten_any d w hd
  have K := Lib.hid (show clockL n d = glueL ((n / 10 ^ d / 3600 : Nat) : Int) ((n / 10 ^ d / 60 % 60 : Nat) : Int) ((n / 10 ^ d % 60 : Nat) : Int) ++ (if 0 < d then 46 :: padL ((n % 10 ^ d : Nat) : Int) d else []) from rfl)
  generalize 10 ^ d = p at *
  have m1 : n / p ≤ n := Nat.div_le_self _ _
  have m2 : n % p < p := Nat.mod_lt _ hp
  have m3 : n % p ≤ n := Nat.mod_le _ _
  have t1 : (n : Int).tdiv (p : Int) = ((n / p : Nat) : Int) := rfl
  have t2 : (n : Int).tmod (p : Int) = ((n % p : Nat) : Int) := rfl
  generalize n / p = s at *
  generalize n % p = r at *
  have q1 : s / 3600 ≤ s := Nat.div_le_self _ _
  have q2 : s / 60 % 60 < 60 := Nat.mod_lt _ (by omega)
  have q3 : s % 60 < 60 := Nat.mod_lt _ (by omega)
  have q4 : s / 60 ≤ s := Nat.div_le_self _ _
  have t3 : (s : Int).tdiv 3600 = ((s / 3600 : Nat) : Int) := rfl
  have t4 : (s : Int).tdiv 60 = ((s / 60 : Nat) : Int) := rfl
  have t5 : (s : Int).tmod 60 = ((s % 60 : Nat) : Int) := rfl
  have t6 : ((s / 60 : Nat) : Int).tmod 60 = ((s / 60 % 60 : Nat) : Int) := rfl
  generalize s / 60 % 60 = y at *
  generalize s / 3600 = x at *
  generalize s % 60 = z at *
  generalize s / 60 = v at *
  have GL := glue_len (x : Int) y z (by omega) (by omega) (by omega) (by omega) (by omega) (by omega)
  have hp0 : (p : Int) ≠ 0 := by omega
  have hT := Lib.hid hT
  have G := Lib.hid (glue_any x y z w.heap.size (w.alloc (.cells (i3 x y z).toArray 2)) (hT.out.below ((Below.refl _ _).alloc (Nat.le_refl _) _)) (by simp) (rangeAt_new w _ _) (by omega) (by omega) (by omega) (by omega) (by omega) (by omega))
  have hB0 : Below w.heap.size w (w.alloc (.cells (i3 x y z).toArray 2)) := (Below.refl _ _).alloc (Nat.le_refl _) _
  go_enter Tryd.func35, Tryd.ntmps35
  go_wp2_with (go_at_call 24; refine (NT _).mono ?_; rintro e w' ⟨rfl, rfl⟩)
  go_at_call 44
  refine G.out.mono ?_
  rintro e w1 ⟨rfl, hB1⟩
  have hB := below_then hB0 hB1
  have T1 := Lib.hid (hT.out.below hB)
  clear G hB0 hB1 hT
  generalize glueL (x : Int) y z = g at *
  by_cases h0 : 0 < d
  · have P := Lib.hid (pad_any r d w1 T1.out (by omega) (by omega) (by omega))
    have PL := pad_len r d (by omega) (by omega) (by omega)
    have m0 : (0 : Int) < d := by omega
    rw [if_pos h0] at K
    generalize padL (r : Int) d = q at *
    have sa := str_app [46] q
    have sb := str_app g (46 :: q)
    go_wp2_with fail
    go_at_call 37
    refine P.out.mono ?_
    rintro e w2 ⟨rfl, hB2⟩
    have hB' := below_then hB hB2
    clear P T1
    go_wp2_with fail
    go_ret
    exact ⟨by rw [K.out]; rfl, hB'⟩
  · have m0 : ¬ (0 : Int) < d := by omega
    rw [if_neg h0, List.append_nil] at K
    go_wp2_with fail
    go_ret
    exact ⟨by rw [K.out]; rfl, hB⟩
end At
end Go.Proofs.YtmafjoboikbnnaaDoor
