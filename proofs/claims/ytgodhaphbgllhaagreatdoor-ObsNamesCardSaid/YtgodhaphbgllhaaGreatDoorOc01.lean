/-
  Lemmas and walks, texts joined: OR15, ORLine, ORCut, MRef4, MRef5, MNumW, MLikeW, MRParse, MRPDay, ORRead.
-/
import Derived.RegionTactic
import Derived.BigRegion
import Derived.BigQuiet
import Derived.Deep.RegionHeld3
import Derived.Deep.DeepCutAuto
import Derived.StillTailTactics
import Derived.IntWalk
import Derived.Test.YtgodhaphbgllhaaGreatDoorOa06
import Derived.Test.YtgodhaphbgllhaaGreatDoorOa04
import Derived.Test.YtgodhaphbgllhaaGreatDoorOa05
import Derived.Test.YtgodhaphbgllhaaGreatDoorOa07
import Derived.Test.YtgodhaphbgllhaaGreatDoorOa01
import Derived.Test.YtgodhaphbgllhaaGreatDoorOa02
import Derived.Test.YtgodhaphbgllhaaGreatDoorOa03
import Derived.Test.YtgodhaphbgllhaaGreatDoorOa08
set_option linter.unusedSimpArgs false
set_option linter.unusedVariables false
/-
  The walks of the reference's texts of angles at the digits of a line: digitsOf, sexagesimal, RaText, DecText.
-/
namespace Go.Proofs.YtgodhaphbgllhaaGreatDoor
namespace Ow
open Go.RowKit Lw Go.Proofs.YtgodhaphbgllhaaGreatDoor.Ap Go.Proofs.YtgodhaphbgllhaaGreatDoor.Op Go.Proofs.YtgodhaphbgllhaaGreatDoor.Mp Go.Proofs.YtgodhaphbgllhaaGreatDoor.Mw Go.Proofs.YtgodhaphbgllhaaGreatDoor.At

theorem ten_mono {k : Nat} (h : k ≤ 12) : 10 ^ k ≤ 1000000000000 := Nat.pow_le_pow_right (n := 10) (by omega) h
set_option maxRecDepth 100000 in
set_option maxHeartbeats 2000000 in
theorem digs15_any (n k : Nat) (w : World) (hn : n < 10 ^ k) (hk : k ≤ 12) :
    Calls Tryz.prog 184 #[.int .i64 n, .int .i64 k] w fun e w' => e = .returned (.string ⟨(decL n k).toArray⟩) ∧ w = w' := by
  have n9 : n ≤ 1000000000000 := by have := ten_mono hk; omega
  go_enter Tryz.func184, Tryz.ntmps184
  go_wp2
  go_loop [0, 6] (fun v s => ∃ j u : Nat, ∃ S : ByteArray, j ≤ k ∧ s = .string S ∧ v = .int .i64 u ∧ u ≤ 1000000000000 ∧ Hid (u = n / 10 ^ j ∧ S = ⟨(decL n j).toArray⟩) ∧ S.size = j ∧ (0 < u → j < k)) (fun _ s => k - lenOfV s)
  case atStart => exact ⟨0, n, ⟨#[]⟩, Nat.zero_le _, rfl, rfl, n9, Lib.hid ⟨by simp, rfl⟩, rfl, fun h => by
    rcases Nat.eq_zero_or_pos k with g | g
    · subst g; simp at hn; omega
    · exact g⟩
  case round =>
    obtain ⟨j, u, S, hj, rfl, rfl, hu, D, hS, hlt⟩ := hrel
    by_cases lt : j < k
    · by_cases hz : (0 : Int) < (u : Int)
      · obtain ⟨m, hm⟩ : ∃ m, m = u % 10 := ⟨_, rfl⟩
        obtain ⟨u', hu'⟩ : ∃ u', u' = u / 10 := ⟨_, rfl⟩
        have r1 : (u : Int) % 10 = (m : Int) := by omega
        have r2 : (u : Int) / 10 = (u' : Int) := by omega
        have m0 : m < 10 := by omega
        have de := dig_ext m m0
        have D2 := Lib.hid (show u' = n / 10 ^ (j + 1) ∧ (⟨#[dg m]⟩ ++ S : ByteArray) = ⟨(decL n (j + 1)).toArray⟩ from ⟨by rw [hu', D.out.1, Nat.div_div_eq_div_mul, Nat.pow_succ], by rw [D.out.2, str_cons, dec_cons, hm, D.out.1]⟩)
        have sz : (⟨#[dg m]⟩ ++ S : ByteArray).size = j + 1 := by rw [ByteArray.size_append, hS]; show 1 + j = _; omega
        have u0 : u' ≤ 1000000000000 := by omega
        have L2 : 0 < u' → j + 1 < k := fun h => by
          rcases Nat.lt_or_ge (j + 1) k with g | g
          · exact g
          · have e : j + 1 = k := by omega
            have := D2.out.1
            rw [e, Nat.div_eq_of_lt hn] at this
            omega
        have i1 : (m : Int) ≤ 9 := by omega
        have i0 : 0 ≤ (m : Int) := by omega
        clear hm hu' m0 hlt
        go_wp2
        go_round
        case rel => exact ⟨j + 1, u', _, by omega, rfl, by go_num, u0, D2, sz, L2⟩
        case measure => simp only [lenOfV, sz, hS]; omega
      · obtain rfl : u = 0 := by omega
        have de := dig_ext 0 (by omega)
        have de2 : (⟨#[48, 49, 50, 51, 52, 53, 54, 55, 56, 57]⟩ : ByteArray).extract 0 1 = ⟨#[dg 0]⟩ := de
        have D2 := Lib.hid (show 0 = n / 10 ^ (j + 1) ∧ (⟨#[dg 0]⟩ ++ S : ByteArray) = ⟨(decL n (j + 1)).toArray⟩ from ⟨by rw [Nat.pow_succ, ← Nat.div_div_eq_div_mul, ← D.out.1], by rw [D.out.2, str_cons, dec_cons, ← D.out.1]⟩)
        have sz : (⟨#[dg 0]⟩ ++ S : ByteArray).size = j + 1 := by rw [ByteArray.size_append, hS]; show 1 + j = _; omega
        have sj : (S.size : Int) < (k : Int) := by omega
        clear hlt hz
        go_wp2
        go_round
        case rel => exact ⟨j + 1, 0, _, by omega, rfl, by first | rfl | go_num, by omega, D2, sz, fun h => absurd h (Nat.lt_irrefl 0)⟩
        case measure => simp only [lenOfV, sz, hS]; omega
    · obtain rfl : j = k := by omega
      have u0 : u = 0 := by
        rcases Nat.eq_zero_or_pos u with g | g
        · exact g
        · have := hlt g; omega
      subst u0
      have E := Lib.hid D.out.2
      clear D hlt
      go_wp2
      go_ret
      exact ⟨by rw [E.out]; rfl, rfl⟩
theorem cat6 (A B C D : ByteArray) (F : List UInt8) {L : List UInt8} (h : A.data.toList ++ ([32] ++ (B.data.toList ++ ([32] ++ (C.data.toList ++ (46 :: D.data.toList))))) = L) :
    (((((A ++ (⟨#[32]⟩ : ByteArray)) ++ B) ++ (⟨#[32]⟩ : ByteArray)) ++ C) ++ (⟨#[46]⟩ : ByteArray)) ++ D = ⟨L.toArray⟩ := by
  apply toL_inj
  rw [← h]
  simp [ByteArray.data_append]
set_option maxRecDepth 100000 in
set_option maxHeartbeats 4000000 in
theorem rsexa_any (n d : Nat) (w : World) (hd1 : 1 ≤ d) (hd : d ≤ 6) (h : n / 10 ^ d < 360000) :
    Calls Tryz.prog 137 #[.int .i64 n, .int .i64 d] w fun e w' => e = .returned (.string ⟨(Gt.clockL n d).toArray⟩) ∧ Below w.heap.size w w' := by
  have K := Lib.hid (clock_dec hd1 h)
  have hp : 1 ≤ 10 ^ d := Nat.pow_pos (by omega)
  have hp2 : 10 ^ d ≤ 1000000 := Nat.pow_le_pow_right (n := 10) (by omega) hd
  have NT : Hid (∀ w : World, Calls Tryz.prog 134 #[.int .i64 d] w fun e w' => e = .returned (.int .i64 ((10 ^ d : Nat) : Int)) ∧ w = w') := Lib.hid fun w => by
    have := Gp.rten_any d w (by omega)
    rwa [show Gp.tenI d = ((10 ^ d : Nat) : Int) from rfl] at this
  have F0 := Lib.hid (fun w' => digs15_any (n % 10 ^ d) d w' (Nat.mod_lt _ hp) (by omega))
  generalize 10 ^ d = p at *
  have t1 : (n : Int).tdiv (p : Int) = ((n / p : Nat) : Int) := rfl
  have t2 : (n : Int).tmod (p : Int) = ((n % p : Nat) : Int) := rfl
  have hp0 : (p : Int) ≠ 0 := by omega
  have nb : n ≤ 1000000000000 := by
    have := Nat.div_add_mod n p
    have := Nat.mod_lt n hp
    have : p * (n / p) ≤ 1000000 * 360000 := Nat.mul_le_mul hp2 (by omega)
    omega
  have f9 : n % p ≤ 1000000 := by have := Nat.mod_lt n hp; omega
  generalize n / p = s at *
  generalize n % p = r at *
  have F1 := Lib.hid (fun w' => digs15_any (s / 3600) 2 w' (by omega) (by omega))
  have F2 := Lib.hid (fun w' => digs15_any (s / 60 % 60) 2 w' (by omega) (by omega))
  have F3 := Lib.hid (fun w' => digs15_any (s % 60) 2 w' (by omega) (by omega))
  have t3 : (s : Int).tdiv 3600 = ((s / 3600 : Nat) : Int) := rfl
  have t4 : (s : Int).tdiv 60 = ((s / 60 : Nat) : Int) := rfl
  have t5 : (s : Int).tmod 60 = ((s % 60 : Nat) : Int) := rfl
  have t6 : ((s / 60 : Nat) : Int).tmod 60 = ((s / 60 % 60 : Nat) : Int) := rfl
  have i1 : (s : Int) / 3600 = ((s / 3600 : Nat) : Int) := rfl
  have i2 : (s : Int) / 60 = ((s / 60 : Nat) : Int) := rfl
  have i3 : (s : Int) % 60 = ((s % 60 : Nat) : Int) := rfl
  have i4 : ((s / 60 : Nat) : Int) % 60 = ((s / 60 % 60 : Nat) : Int) := rfl
  have u1 : s / 3600 ≤ 1000 := by omega
  have u2 : s / 60 % 60 ≤ 60 := by omega
  have u3 : s % 60 ≤ 60 := by omega
  have u4 : s / 60 ≤ 360000 := by omega
  generalize s / 60 % 60 = y at *
  generalize s / 3600 = x at *
  generalize s % 60 = z at *
  generalize s / 60 = v at *
  obtain ⟨A, hA⟩ : ∃ A : ByteArray, A = ⟨(decL x 2).toArray⟩ := ⟨_, rfl⟩
  obtain ⟨B, hB⟩ : ∃ A : ByteArray, A = ⟨(decL y 2).toArray⟩ := ⟨_, rfl⟩
  obtain ⟨C, hC⟩ : ∃ A : ByteArray, A = ⟨(decL z 2).toArray⟩ := ⟨_, rfl⟩
  obtain ⟨D, hD⟩ : ∃ A : ByteArray, A = ⟨(decL r d).toArray⟩ := ⟨_, rfl⟩
  have zA : A.size = 2 := by rw [hA, size_mk, decL_len]
  have zB : B.size = 2 := by rw [hB, size_mk, decL_len]
  have zC : C.size = 2 := by rw [hC, size_mk, decL_len]
  have zD : D.size = d := by rw [hD, size_mk, decL_len]
  have eL := cat6 A B C D [] (L := Gt.clockL n d) (by rw [hA, hB, hC, hD, K.out])
  rw [← hA] at F1
  rw [← hB] at F2
  rw [← hC] at F3
  rw [← hD] at F0
  generalize Gt.clockL n d = G at *
  clear hA hB hC hD K
  obtain ⟨S1, x1⟩ : ∃ S, S = A ++ (⟨#[32]⟩ : ByteArray) := ⟨_, rfl⟩
  have z1 : S1.size = 3 := by rw [x1, ByteArray.size_append, zA]; rfl
  have a1 := add_fact x1 (by rw [zA]; show 2 + 1 ≤ _; omega)
  obtain ⟨S2, x2⟩ : ∃ S, S = S1 ++ B := ⟨_, rfl⟩
  have z2 : S2.size = 5 := by rw [x2, ByteArray.size_append, zB, z1]
  have a2 := add_fact x2 (by rw [zB, z1]; omega)
  obtain ⟨S3, x3⟩ : ∃ S, S = S2 ++ (⟨#[32]⟩ : ByteArray) := ⟨_, rfl⟩
  have z3 : S3.size = 6 := by rw [x3, ByteArray.size_append, z2]; rfl
  have a3 := add_fact x3 (by rw [z2]; show 5 + 1 ≤ _; omega)
  obtain ⟨S4, x4⟩ : ∃ S, S = S3 ++ C := ⟨_, rfl⟩
  have z4 : S4.size = 8 := by rw [x4, ByteArray.size_append, zC, z3]
  have a4 := add_fact x4 (by rw [zC, z3]; omega)
  obtain ⟨S5, x5⟩ : ∃ S, S = S4 ++ (⟨#[46]⟩ : ByteArray) := ⟨_, rfl⟩
  have z5 : S5.size = 9 := by rw [x5, ByteArray.size_append, z4]; rfl
  have a5 := add_fact x5 (by rw [z4]; show 8 + 1 ≤ _; omega)
  obtain ⟨S6, x6⟩ : ∃ S, S = S5 ++ D := ⟨_, rfl⟩
  have a6 := add_fact x6 (by rw [z5, zD]; omega)
  rw [← x1, ← x2, ← x3, ← x4, ← x5, ← x6] at eL
  have EL := Lib.hid eL
  have d0 : (0 : Int) < (d : Int) := by omega
  clear eL x1 x2 x3 x4 x5 x6 z1 z2 z3 z4 z5 zA zB zC zD h hd1 hd hp hp2
  go_enter Tryz.func137, Tryz.ntmps137
  go_wp2_with fail
  refine (NT.out _).mono ?_
  rintro e w1 ⟨rfl, rfl⟩
  go_wp2_with fail
  refine (F1.out _).mono ?_
  rintro e w1 ⟨rfl, rfl⟩
  go_wp2_with fail
  refine (F2.out _).mono ?_
  rintro e w1 ⟨rfl, rfl⟩
  go_wp2_with fail
  refine (F3.out _).mono ?_
  rintro e w1 ⟨rfl, rfl⟩
  go_wp2_with fail
  refine (F0.out _).mono ?_
  rintro e w1 ⟨rfl, rfl⟩
  go_wp2_with fail
  go_ret
  exact ⟨by rw [EL.out]; rfl, Below.refl _ _⟩
set_option maxRecDepth 100000 in
set_option maxHeartbeats 4000000 in
theorem rratext_any (a : Int) (w : World) (h0 : 0 ≤ a) (h1 : a < 1296000000000) :
    Calls Tryz.prog 88 #[.int .i64 a, .int .i64 3] w fun e w' => e = .returned (.tuple #[.string ⟨(Gt.raL a 3).toArray⟩, .int .i64 0]) ∧ Below w.heap.size w w' := by
  obtain ⟨m, rfl⟩ : ∃ m : Nat, a = (m : Int) := ⟨a.toNat, by omega⟩
  have em : (m : Int) % 1296000000000 = (m : Int) := Int.emod_eq_of_lt h0 h1
  have NN := Lib.hid (fun w' => Turns.rnorm_any (m : Int) w' (by omega) (by omega))
  rw [em] at NN
  have NR := Lib.hid (fun w' => Gp.rrounded_any m 15000 w' (by omega) (by omega) (by omega))
  have hr := Op.rnd_le2 m 15000
  rw [← Gt.rndN_eq] at NR
  have K : Hid (Gt.raL (m : Int) 3 = Gt.clockL (Gt.rndN m 15000 % 86400000) 3) := Lib.hid (by unfold Gt.raL; rw [em, Int.toNat_natCast])
  generalize Gt.rndN m 15000 = r at *
  have r9 : r ≤ 86400000 := by omega
  have NT : Hid (∀ w : World, Calls Tryz.prog 134 #[.int .i64 3] w fun e w' => e = .returned (.int .i64 1000) ∧ w = w') := Lib.hid fun w => Gp.rten_any 3 w (by omega)
  by_cases c : r = 86400000
  · have SX := Lib.hid (fun w' => rsexa_any 0 3 w' (by omega) (by omega) (by decide))
    rw [c] at K
    subst c
    generalize Gt.clockL 0 3 = G at *
    clear em hr h0
    go_enter Tryz.func88, Tryz.ntmps88
    go_wp2_with fail
    refine (NT.out _).mono ?_
    rintro e w1 ⟨rfl, rfl⟩
    go_wp2_with fail
    refine (NN.out _).mono ?_
    rintro e w1 ⟨rfl, rfl⟩
    go_wp2_with fail
    refine (NR.out _).mono ?_
    rintro e w1 ⟨rfl, k, rfl⟩
    go_wp2_with fail
    refine (NT.out _).mono ?_
    rintro e w1 ⟨rfl, rfl⟩
    go_wp2_with fail
    refine (SX.out _).mono ?_
    rintro e w1 ⟨rfl, hb⟩
    go_wp2_with fail
    go_ret2
    exact ⟨by rw [K.out]; rfl, (drewN_below2 (Below.refl w.heap.size w) k).trans hb⟩
  · have SX := Lib.hid (fun w' => rsexa_any r 3 w' (by omega) (by omega) (by omega))
    rw [Nat.mod_eq_of_lt (show r < 86400000 by omega)] at K
    have c2 : ((r : Int) == 86400000) = false := beq_eq_false_iff_ne.2 (by omega)
    generalize Gt.clockL r 3 = G at *
    clear em hr h0 c
    go_enter Tryz.func88, Tryz.ntmps88
    go_wp2_with fail
    refine (NT.out _).mono ?_
    rintro e w1 ⟨rfl, rfl⟩
    go_wp2_with fail
    refine (NN.out _).mono ?_
    rintro e w1 ⟨rfl, rfl⟩
    go_wp2_with fail
    refine (NR.out _).mono ?_
    rintro e w1 ⟨rfl, k, rfl⟩
    go_wp2_with fail
    refine (NT.out _).mono ?_
    rintro e w1 ⟨rfl, rfl⟩
    go_wp2_with fail
    refine (SX.out _).mono ?_
    rintro e w1 ⟨rfl, hb⟩
    go_wp2_with fail
    go_ret2
    exact ⟨by rw [K.out]; rfl, (drewN_below2 (Below.refl w.heap.size w) k).trans hb⟩
set_option maxRecDepth 100000 in
set_option maxHeartbeats 4000000 in
theorem rdectext_any (a : Int) (w : World) (h0 : -324000000000 ≤ a) (h1 : a ≤ 324000000000) :
    Calls Tryz.prog 89 #[.int .i64 a, .int .i64 2] w fun e w' => e = .returned (.tuple #[.string ⟨(Gt.decL a 2).toArray⟩, .int .i64 0]) ∧ Below w.heap.size w w' := by
  obtain ⟨m, em⟩ : ∃ m : Nat, a.natAbs = m := ⟨_, rfl⟩
  have NR := Lib.hid (fun w' => Gp.rrounded_any m 10000 w' (by omega) (by omega) (by omega))
  have hr := Op.rnd_le2 m 10000
  rw [← Gt.rndN_eq] at NR
  have K : Hid (Gt.decL a 2 = (if a < 0 then 45 else 43) :: Gt.clockL (Gt.rndN m 10000) 2) := Lib.hid (by unfold Gt.decL; rw [em])
  generalize Gt.rndN m 10000 = r at *
  have r9 : r ≤ 32400001 := by omega
  have NT : Hid (∀ w : World, Calls Tryz.prog 134 #[.int .i64 2] w fun e w' => e = .returned (.int .i64 100) ∧ w = w') := Lib.hid fun w => Gp.rten_any 2 w (by omega)
  have SX := Lib.hid (fun w' => rsexa_any r 2 w' (by omega) (by omega) (by omega))
  have CL := Op.clock_len12 (n := r) (d := 2) (by omega) (by omega)
  by_cases hn : a < 0
  · have ea : a = -(m : Int) := by omega
    have en : -a = (m : Int) := by omega
    rw [if_pos hn] at K
    generalize Gt.clockL r 2 = g at *
    have sa := str_app [45] g
    clear ea em hr
    go_enter Tryz.func89, Tryz.ntmps89
    go_wp2_with fail
    refine (NT.out _).mono ?_
    rintro e w1 ⟨rfl, rfl⟩
    go_wp2_with fail
    refine (NR.out _).mono ?_
    rintro e w1 ⟨rfl, k, rfl⟩
    go_wp2_with fail
    refine (SX.out _).mono ?_
    rintro e w1 ⟨rfl, hb⟩
    go_wp2_with fail
    go_ret2
    exact ⟨by rw [K.out]; rfl, (drewN_below2 (Below.refl w.heap.size w) k).trans hb⟩
  · have ea : a = (m : Int) := by omega
    rw [if_neg hn] at K
    generalize Gt.clockL r 2 = g at *
    have sa := str_app [43] g
    clear em hr
    subst ea
    go_enter Tryz.func89, Tryz.ntmps89
    go_wp2_with fail
    refine (NT.out _).mono ?_
    rintro e w1 ⟨rfl, rfl⟩
    go_wp2_with fail
    refine (NR.out _).mono ?_
    rintro e w1 ⟨rfl, k, rfl⟩
    go_wp2_with fail
    refine (SX.out _).mono ?_
    rintro e w1 ⟨rfl, hb⟩
    go_wp2_with fail
    go_ret2
    exact ⟨by rw [K.out]; rfl, (drewN_below2 (Below.refl w.heap.size w) k).trans hb⟩
end Ow
end Go.Proofs.YtgodhaphbgllhaaGreatDoor
/-
  The walk of line of the reference of observations.
-/
namespace Go.Proofs.YtgodhaphbgllhaaGreatDoor
namespace Ow
open Go.RowKit Lw Go.Proofs.YtgodhaphbgllhaaGreatDoor.Ap Go.Proofs.YtgodhaphbgllhaaGreatDoor.Op Go.Proofs.YtgodhaphbgllhaaGreatDoor.Mp Go.Proofs.YtgodhaphbgllhaaGreatDoor.Mw Go.Proofs.YtgodhaphbgllhaaGreatDoor.At

theorem str_of (X : ByteArray) : X = ⟨X.data.toList.toArray⟩ := toL_inj rfl
/-- The name as the reference writes it. -/
def nmS (s : ByteArray) : List UInt8 := if numbP s then s.data.toList else spL 5 ++ s.data.toList
theorem nmS_len {s : ByteArray} (h : nameP s) : (nmS s).length ≤ 12 := by
  unfold nmS
  by_cases c : numbP s
  · rw [if_pos c, ← size_L]; have := c.1; omega
  · rw [if_neg c, List.length_append, spL_len, ← size_L]
    rcases h with h | ⟨_, h, _⟩
    · exact absurd h c
    · omega
theorem nmS_fill {s : ByteArray} (h : nameP s) : nmS s ++ spL (14 - (nmS s).length) = nameF s := by
  unfold nmS nameF
  by_cases c : numbP s
  · rw [if_pos c, if_pos c, ← size_L, c.1]
  · rw [if_neg c, if_neg c, List.length_append, spL_len, ← size_L]
    congr 2
    omega
theorem fill_56 {L : List UInt8} {k n : Nat} (h : L.length = k) : L ++ spL (n - L.length) = L ++ spL (n - k) := by rw [h]
/-- A magnitude and its band, or nothing. -/
def mgS (m b : Int) : List UInt8 := if m = 9999 then [] else magL m ++ [UInt8.ofNat b.toNat]
theorem tail_of (A : List UInt8) (m b : Int) (hA : A.length = 65) (hm : m ≠ 9999 → (magL m).length = 5) : (A ++ mgS m b) ++ spL (77 - (A ++ mgS m b).length) = A ++ (magF m b ++ spL 6) := by
  unfold mgS magF
  by_cases h : m = 9999
  · rw [if_pos h, if_pos h, List.append_nil, hA, ← spL_add]
  · rw [if_neg h, if_neg h, List.length_append, List.length_append, hA, hm h, List.append_assoc]
    rfl
theorem ox_drawn {w0 w : World} {b : Nat} {o : Ob} (h : OX w0 b o w) : OX w0 b o w.drew := h.call (Below.refl _ _).drew
/-- The same with the cells that are read. -/
abbrev LS (w0 : World) (b : Nat) (o : Ob) (w : World) : Prop := w.cell? ⟨b, 6, none⟩ = some (.int .i64 o.mag) ∧ w.cell? ⟨b, 7, none⟩ = some (.int .u8 o.band) ∧ OX w0 b o w
theorem OX.ls {w0 w : World} {b : Nat} {o : Ob} (h : OX w0 b o w) : LS w0 b o w := by
  have a := h.row 6 _ rfl
  have c := h.row 7 _ rfl
  rw [Nat.zero_add] at a c
  exact ⟨a, c, h⟩
theorem one_u8 (u : UInt8) (W : World) (b : Nat) (h : W.cell? ⟨b, 0, none⟩ = some (.int .u8 (u.toNat : Int))) : (convert 42 9 (.slice (some ⟨b, 0, none⟩) 1 1)).run Tryz.prog W = .ok (.string ⟨#[u]⟩) W :=
  run_convert_bytes_back (P := Tryz.prog) W 42 9 5 ⟨b, 0, none⟩ 1 [u] Tryz.underlying42 Tryz.underlying5 Tryz.underlying9 (fun j hj => by
    have hj : j < 1 := hj
    obtain rfl : j = 0 := by omega
    rw [Addr.add_mid, h]
    rfl)
set_option maxRecDepth 100000 in
set_option maxHeartbeats 16000000 in
theorem rline_ok (o : Ob) (w : World) (h0 : -9223372036854775808 ≤ o.t) (h1 : o.t ≤ 9223372036854775807) (n1 : o.name.size ≤ maxLen) (ok : okO o) :
    Calls Tryz.prog 40 #[obsV o] w fun e w' => ∃ day, DayIs o.t 6 day 0 ∧ e = .returned (.string ⟨(lineL day o).toArray⟩) ∧ Below w.heap.size w w' := by
  have LM := Lib.hid (fun day (h : DayIs o.t 6 day 0) => mid_len ok h)
  have XX := Lib.hid (OX.new w o)
  obtain ⟨ot, on, os, ow, or0, or1, od0, od1, og0, og1, om⟩ := ok
  have zN : 1 ≤ o.name.size ∧ o.name.size ≤ 7 := by
    rcases on with h | h
    · have := h.1; omega
    · exact ⟨h.1, h.2.1⟩
  have DY := Lib.hid (fun w' => rsday_any o.t 6 w' h0 h1)
  have RA := Lib.hid (fun w' => rratext_any o.ra w' or0 or1)
  have DE := Lib.hid (fun w' => rdectext_any o.dec w' od0 od1)
  have NU := Lib.hid (fun w' => rnumb_any o.name w' n1)
  have NF := Lib.hid (nmS_fill on)
  have NZ := nmS_len on
  have NE := Lib.hid (show nmS o.name = if numbP o.name then o.name.data.toList else spL 5 ++ o.name.data.toList from rfl)
  have OT := Lib.hid ot
  have OM := Lib.hid om
  have lR := ra_len o.ra
  have lD := dec_len od0 od1
  have LN := Lib.hid (nameF_len on)
  obtain ⟨nm, st, tt, ra, dec, sg, mg, bd⟩ := o
  simp only at *
  clear n1 on ot ow or0 or1 od0 od1 og0 og1 om h0 h1
  go_enter Tryz.func40, Tryz.ntmps40
  have q0 := XX.out.row 0 _ rfl
  have q1 := XX.out.row 1 _ rfl
  have q2 := XX.out.row 2 _ rfl
  have q3 := XX.out.row 3 _ rfl
  have q4 := XX.out.row 4 _ rfl
  have q5 := XX.out.row 5 _ rfl
  have q6 := XX.out.row 6 _ rfl
  have q7 := XX.out.row 7 _ rfl
  simp only [Nat.zero_add] at q0 q1 q2 q3 q4 q5 q6 q7
  have lt := XX.out.lt
  go_wp2_with fail
  refine (DY.out _).mono ?_
  rintro e w1 ⟨day, c, rfl, hD, hb⟩
  obtain ⟨hc0, hday⟩ : c = 0 ∧ DayIs tt 6 day 0 := by
    rcases hD with ⟨h, _⟩ | ⟨_, _, h, _⟩ | h
    · omega
    · have := OT.out; unfold timeP at this; omega
    · obtain ⟨a1, a2, a3, a4, n, y, m, z, k, a5, a6, a7⟩ := h
      exact ⟨a7, Or.inr (Or.inr ⟨a1, a2, a3, a4, n, y, m, z, k, a5, a6, rfl⟩)⟩
  subst hc0
  have HD := Lib.hid hday
  have zd : day.size = 17 := by rw [size_L]; exact day_len17 hday
  have LM1 := Lib.hid (LM.out day hday)
  have X1 := Lib.hid (XX.out.call hb)
  clear hD hday hb XX DY LM q0 q1 q2 q3 q4 q5 q6 q7 lt
  have q3 := X1.out.row 3 _ rfl
  have q4 := X1.out.row 4 _ rfl
  have q0 := X1.out.row 0 _ rfl
  have q6 := X1.out.row 6 _ rfl
  have q7 := X1.out.row 7 _ rfl
  have q1 := X1.out.row 1 _ rfl
  simp only [Nat.zero_add] at q3 q4 q0 q6 q7 q1
  go_wp2_with fail
  refine (RA.out _).mono ?_
  rintro e w2 ⟨rfl, hb⟩
  have X2 := Lib.hid (X1.out.call hb)
  clear hb X1 RA q0 q1 q3 q4 q6 q7
  have q4 := X2.out.row 4 _ rfl
  have q0 := X2.out.row 0 _ rfl
  have q6 := X2.out.row 6 _ rfl
  have q7 := X2.out.row 7 _ rfl
  have q1 := X2.out.row 1 _ rfl
  simp only [Nat.zero_add] at q4 q0 q6 q7 q1
  go_wp2_with fail
  refine (DE.out _).mono ?_
  rintro e w3 ⟨rfl, hb⟩
  have X3 := Lib.hid (X2.out.call hb)
  clear hb X2 DE q0 q1 q4 q6 q7
  have q0 := X3.out.row 0 _ rfl
  have q1 := X3.out.row 1 _ rfl
  have q6 := X3.out.row 6 _ rfl
  have q7 := X3.out.row 7 _ rfl
  simp only [Nat.zero_add] at q0 q1 q6 q7
  obtain ⟨N5, hN5⟩ : ∃ N, N = (⟨#[32, 32, 32, 32, 32]⟩ : ByteArray) ++ nm := ⟨_, rfl⟩
  have zN5 : N5.size = 5 + nm.size := by rw [hN5, ByteArray.size_append]; rfl
  have aN := add_fact hN5 (by show 5 + nm.size ≤ _; omega)
  have lN5 : N5.data.toList = spL 5 ++ nm.data.toList := by rw [hN5]; simp only [ByteArray.data_append, Array.toList_append]; rfl
  clear hN5
  obtain ⟨NM, hNM⟩ : ∃ NM : ByteArray, NM = ⟨(nmS nm).toArray⟩ := ⟨_, rfl⟩
  have YN : numbP nm → nm = NM := fun h => toL_inj (by rw [hNM, NE.out, if_pos h])
  have NN : ¬ numbP nm → N5 = NM := fun h => toL_inj (by rw [hNM, NE.out, if_neg h, lN5])
  have YN := Lib.hid YN
  have NN := Lib.hid NN
  clear lN5 NE
  obtain ⟨nbb, hnbb⟩ : ∃ nbb : Bool, numbB nm = nbb := ⟨_, rfl⟩
  rw [hnbb] at NU
  have HNB := Lib.hid hnbb
  clear hnbb
  go_wp2_with fail
  refine (NU.out _).mono ?_
  rintro e w4 ⟨rfl, rfl⟩
  go_upto_if 34 with fail
  go_cut [9] (fun q wx => q = .string NM ∧ w3 = wx)
  case first =>
    cases nbb
    · have e := Lib.hid (NN.out (of_decide_eq_false HNB.out))
      clear YN NN HNB NU
      go_wp2_with fail
      go_meet
      exact ⟨by rw [e.out], rfl⟩
    · have e := Lib.hid (YN.out (of_decide_eq_true HNB.out))
      clear YN NN HNB NU
      go_wp2_with fail
      go_meet
      exact ⟨by rw [e.out], rfl⟩
  case rest =>
    obtain ⟨rfl, rfl⟩ := hcut
    clear YN NN NU aN zN5
    have B1 := Lib.hid (fun w' => rbehind_any (nmS nm) 14 w' (by omega) (by omega))
    rw [NF.out, ← hNM] at B1
    have HM := Lib.hid hNM
    clear hNM NZ NF
    obtain ⟨NA, hNA⟩ : ∃ N : ByteArray, N = ⟨(nameF nm).toArray⟩ := ⟨_, rfl⟩
    have lA : NA.data.toList = nameF nm := by rw [hNA]
    have zA : NA.size = 14 := by rw [size_L, lA]; exact LN.out
    rw [← hNA] at B1
    have EA := Lib.hid lA
    obtain ⟨RX, hRX⟩ : ∃ N : ByteArray, N = ⟨(Gt.raL ra 3).toArray⟩ := ⟨_, rfl⟩
    have lX : RX.data.toList = Gt.raL ra 3 := by rw [hRX]
    have zX : RX.size = 12 := by rw [size_L, lX]; exact lR
    obtain ⟨DX, hDX⟩ : ∃ N : ByteArray, N = ⟨(Gt.decL dec 2).toArray⟩ := ⟨_, rfl⟩
    have lY : DX.data.toList = Gt.decL dec 2 := by rw [hDX]
    have zY : DX.size = 12 := by rw [size_L, lY]; exact lD
    rw [← hRX, ← hDX]
    obtain ⟨S1, x1⟩ : ∃ S, S = NA ++ (⟨#[67]⟩ : ByteArray) := ⟨_, rfl⟩
    have z1 : S1.size = 15 := by rw [x1, ByteArray.size_append, zA]; rfl
    have a1 := add_fact x1 (by rw [zA]; show 14 + 1 ≤ _; omega)
    obtain ⟨S2, x2⟩ : ∃ S, S = S1 ++ day := ⟨_, rfl⟩
    have z2 : S2.size = 32 := by rw [x2, ByteArray.size_append, zd, z1]
    have a2 := add_fact x2 (by rw [zd, z1]; omega)
    obtain ⟨S3, x3⟩ : ∃ S, S = S2 ++ RX := ⟨_, rfl⟩
    have z3 : S3.size = 44 := by rw [x3, ByteArray.size_append, z2, zX]
    have a3 := add_fact x3 (by rw [z2, zX]; omega)
    obtain ⟨S4, x4⟩ : ∃ S, S = S3 ++ DX := ⟨_, rfl⟩
    have z4 : S4.size = 56 := by rw [x4, ByteArray.size_append, z3, zY]
    have a4 := add_fact x4 (by rw [z3, zY]; omega)
    have e4 : S4.data.toList = nameF nm ++ midL day ⟨nm, st, tt, ra, dec, sg, mg, bd⟩ := by
      rw [x4, x3, x2, x1]
      simp only [ByteArray.data_append, Array.toList_append, lA, lX, lY, midL, List.append_assoc]
      rfl
    obtain ⟨L4, hL4⟩ : ∃ L, L = nameF nm ++ midL day ⟨nm, st, tt, ra, dec, sg, mg, bd⟩ := ⟨_, rfl⟩
    have l4 : L4.length = 56 := by rw [hL4, List.length_append, LN.out, LM1.out]
    have B2 := Lib.hid (fun w' => rbehind_any L4 65 w' (by omega) (by omega))
    have s4 : (⟨L4.toArray⟩ : ByteArray) = S4 := toL_inj (by rw [e4, hL4])
    rw [l4, s4] at B2
    obtain ⟨L5, hL5⟩ : ∃ L, L = L4 ++ spL (65 - 56) := ⟨_, rfl⟩
    have l5 : L5.length = 65 := by rw [hL5, List.length_append, spL_len, l4]
    rw [← hL5] at B2
    obtain ⟨S5, hS5⟩ : ∃ S : ByteArray, S = ⟨L5.toArray⟩ := ⟨_, rfl⟩
    have z5 : S5.size = 65 := by rw [hS5, size_mk, l5]
    rw [← hS5] at B2
    have E5 := Lib.hid (show S5.data.toList = L5 by rw [hS5])
    have F5 := Lib.hid (show L5 = nameF nm ++ (midL day ⟨nm, st, tt, ra, dec, sg, mg, bd⟩ ++ spL 9) by rw [hL5, hL4, List.append_assoc])
    clear x1 x2 x3 x4 z1 z2 z3 e4 hL4 l4 s4 hL5 hS5 hNA lA hRX lX hDX lY lR lD
    have lm : Hid (mg ≠ 9999 → (magL mg).length = 5) := Lib.hid fun h9 => by
      have := mag_bd OM.out h9
      exact magL_len (by omega) (by omega)
    obtain ⟨L6, hL6⟩ : ∃ L, L = L5 ++ mgS mg bd := ⟨_, rfl⟩
    have TL := tail_of L5 mg bd l5 lm.out
    rw [← hL6] at TL
    have l6 : L6.length ≤ 71 := by
      rw [hL6, List.length_append, l5]
      unfold mgS
      split
      · simp
      · rename_i h9
        rw [List.length_append, lm.out h9]
        simp
    have B3 := Lib.hid (fun w' => rbehind_any L6 77 w' (by omega) (by omega))
    rw [TL] at B3
    obtain ⟨S6, hS6⟩ : ∃ S : ByteArray, S = ⟨L6.toArray⟩ := ⟨_, rfl⟩
    rw [← hS6] at B3
    have E6 := Lib.hid (show S6.data.toList = L5 ++ mgS mg bd by rw [hS6, hL6])
    clear TL hL6 hS6 l6
    go_wp2_with fail
    refine (B1.out _).mono ?_
    rintro e w4 ⟨rfl, rfl⟩
    clear B1 LN LM1 HM
    go_wp2_with fail
    refine (B2.out _).mono ?_
    rintro e w4 ⟨rfl, rfl⟩
    clear B2 a1 a2 a3 a4 z4 zA zX zY zd
    go_upto_if 49 with fail
    go_cut [10] (fun q wx => q = .string S6 ∧ OX w w.heap.size ⟨nm, st, tt, ra, dec, sg, mg, bd⟩ wx)
    case first =>
      by_cases h9 : mg = 9999
      · have e := Lib.hid (show S5 = S6 from toL_inj (by rw [E5.out, E6.out]; unfold mgS; rw [if_pos h9, List.append_nil]))
        subst h9
        clear E5 E6 B3 F5 lm
        go_wp2_with fail
        go_meet
        exact ⟨by rw [e.out], X3.out⟩
      · have hmm := mag_bd OM.out h9
        have h92 : (mg == 9999) = false := beq_eq_false_iff_ne.2 h9
        obtain ⟨b0, b1, b2⟩ := band_u8 OM.out
        obtain ⟨u, hu⟩ : ∃ u : UInt8, u = UInt8.ofNat bd.toNat := ⟨_, rfl⟩
        have eu : (u.toNat : Int) = bd := by rw [hu, UInt8.toNat_ofNat', Nat.mod_eq_of_lt (show bd.toNat < 2 ^ 8 by omega)]; omega
        obtain ⟨G, hG⟩ : ∃ S : ByteArray, S = ⟨(magL mg).toArray⟩ := ⟨_, rfl⟩
        have zG : G.size = 5 := by rw [hG, size_mk]; exact lm.out h9
        have MG := Lib.hid (fun w' => rmag_any mg w' (by omega) (by omega))
        rw [← hG] at MG
        have e6 : S6 = S5 ++ (G ++ ⟨#[u]⟩) := toL_inj (by
          rw [E6.out, hG]
          unfold mgS
          rw [if_neg h9, ← hu]
          simp [ByteArray.data_append, E5.out])
        obtain ⟨G2, hG2⟩ : ∃ S, S = G ++ (⟨#[u]⟩ : ByteArray) := ⟨_, rfl⟩
        have zG2 : G2.size = 6 := by rw [hG2, ByteArray.size_append, zG]; rfl
        have t1 := add_fact hG2 (by rw [zG]; show 5 + 1 ≤ _; omega)
        rw [← hG2] at e6
        have t2 := add_fact e6 (by rw [z5, zG2]; omega)
        have hcv := one_u8 u
        clear hu hG hG2 e6 E5 E6 B3 F5 lm hmm b0 b1 b2 zG zG2 z5 l5
        subst eu
        have BF := Lib.hid X3.out
        go_wp2_with fail
        refine wp_region_held_drew (S := LS w w.heap.size ⟨nm, st, tt, ra, dec, sg, mg, (u.toNat : Int)⟩) (by kernel_rfl) (ox_drawn BF.out).ls (fun hHeld => ?_)
        refine wpAnyH_take (i := 0) (oi := ?oi0x1) (v := ?v0x1) ?hi0x1 (by kernel_rfl) (by kernel_rfl) (by kernel_rfl) ?hq0x1 ?hy0x1 hHeld ?rest0x1
        case hi0x1 => ((try simp only [List.getElem?_toArray, List.getElem?_cons_succ, List.getElem?_cons_zero]); (try rfl))
        case hq0x1 => exact fun _ _ _ h => h
        case hy0x1 => exact Or.inl ⟨by rfl, by intro w hSw; clear hSw; go_simp; try with_reducible rfl⟩
        try simp only [Act.put, List.setIfInBounds_toArray, List.set_cons_zero, List.set_cons_succ]
        refine wpAnyH_take (i := 1) (oi := ?oi1x2) (v := ?v1x2) ?hi1x2 (by kernel_rfl) (by kernel_rfl) (by kernel_rfl) ?hq1x2 ?hy1x2 hHeld ?rest1x2
        case hi1x2 => ((try simp only [List.getElem?_toArray, List.getElem?_cons_succ, List.getElem?_cons_zero]); (try rfl))
        case hq1x2 => exact fun _ _ _ h => h
        case hy1x2 => exact Or.inl ⟨by rfl, by intro w hSw; clear hSw; go_simp; try with_reducible rfl⟩
        try simp only [Act.put, List.setIfInBounds_toArray, List.set_cons_zero, List.set_cons_succ]
        refine wpAnyH_take (i := 2) (oi := ?oi2x3) (v := ?v2x3) ?hi2x3 (by kernel_rfl) (by kernel_rfl) (by kernel_rfl) ?hq2x3 ?hy2x3 hHeld ?rest2x3
        case hi2x3 => ((try simp only [List.getElem?_toArray, List.getElem?_cons_succ, List.getElem?_cons_zero]); (try rfl))
        case hq2x3 => exact fun _ _ _ h => h
        case hy2x3 => exact Or.inl ⟨by rfl, by intro w hSw; obtain ⟨c6, c7, -⟩ := hSw; go_simp; try with_reducible rfl⟩
        try simp only [Act.put, List.setIfInBounds_toArray, List.set_cons_zero, List.set_cons_succ]
        refine wpAnyH_take (i := 4) (oi := ?oi4x4) (v := ?v4x4) ?hi4x4 (by kernel_rfl) (by kernel_rfl) (by kernel_rfl) ?hq4x4 ?hy4x4 hHeld ?rest4x4
        case hi4x4 => ((try simp only [List.getElem?_toArray, List.getElem?_cons_succ, List.getElem?_cons_zero]); (try rfl))
        case hq4x4 => exact fun _ _ _ h => h
        case hy4x4 => exact Or.inl ⟨by rfl, by intro w hSw; clear hSw; go_simp; try with_reducible rfl⟩
        try simp only [Act.put, List.setIfInBounds_toArray, List.set_cons_zero, List.set_cons_succ]
        refine wpAnyH_take (i := 5) (oi := ?oi5x5) (v := ?v5x5) ?hi5x5 (by kernel_rfl) (by kernel_rfl) (by kernel_rfl) ?hq5x5 ?hy5x5 hHeld ?rest5x5
        case hi5x5 => ((try simp only [List.getElem?_toArray, List.getElem?_cons_succ, List.getElem?_cons_zero]); (try rfl))
        case hq5x5 => exact fun _ _ _ h => h
        case hy5x5 => exact Or.inl ⟨by rfl, by intro w hSw; obtain ⟨c6, c7, -⟩ := hSw; go_simp; try with_reducible rfl⟩
        try simp only [Act.put, List.setIfInBounds_toArray, List.set_cons_zero, List.set_cons_succ]
        refine wpAnyH_ready (rs := [3, 6]) (by kernel_rfl) (by simp) ?_
        refine AllReadyH.cons rfl (fun K' hK => ?_) (AllReadyH.cons rfl (fun K' hK => ?_) AllReadyH.nil)
        ·
          have H1 := Lib.hid hHeld
          clear hHeld
          go_simp
          refine (MG.out _).mono ?_
          rintro e w7 ⟨rfl, hb7⟩
          have CK := Lib.hid (fun p (h : p.block < _) => hb7.cell (p := p) h)
          refine hK.out _ _ (H1.out.2.2.call hb7).ls (fun hHeld => ?_)
          clear hK H1 hb7
          try simp only [Act.put, List.setIfInBounds_toArray, List.set_cons_zero, List.set_cons_succ]
          refine wpAnyH_ready (rs := [6]) (by kernel_rfl) (by simp) ?_
          refine AllReadyH.cons rfl (fun K' hK => ?_) AllReadyH.nil
          have e0 := hHeld
          clear hHeld
          go_simp
          refine hK.out _ _ (e0.2.2.call ((Below.refl _ _).alloc (Nat.le_refl _) _)).ls (fun hHeld => ?_)
          clear hK e0
          try simp only [Act.put, List.setIfInBounds_toArray, List.set_cons_zero, List.set_cons_succ]
          refine wpAnyH_ready (rs := [7]) (by kernel_rfl) (by simp) ?_
          refine AllReadyH.cons rfl (fun K' hK => ?_) AllReadyH.nil
          have e0 := hHeld
          clear hHeld
          go_simp
          refine hK.out _ _ e0 (fun hHeld => ?_)
          clear hK e0
          try simp only [Act.put, List.setIfInBounds_toArray, List.set_cons_zero, List.set_cons_succ]
          refine wpAnyH_take (i := 8) (oi := ?oi8x6) (v := ?v8x6) ?hi8x6 (by kernel_rfl) (by kernel_rfl) (by kernel_rfl) ?hq8x6 ?hy8x6 hHeld ?rest8x6
          case hi8x6 => ((try simp only [List.getElem?_toArray, List.getElem?_cons_succ, List.getElem?_cons_zero]); (try rfl))
          case hq8x6 => exact fun _ _ _ h => h
          case hy8x6 => exact Or.inl ⟨by rfl, by intro w hSw; clear hSw; go_simp; try with_reducible rfl⟩
          try simp only [Act.put, List.setIfInBounds_toArray, List.set_cons_zero, List.set_cons_succ]
          refine wpAnyH_take (i := 9) (oi := ?oi9x7) (v := ?v9x7) ?hi9x7 (by kernel_rfl) (by kernel_rfl) (by kernel_rfl) ?hq9x7 ?hy9x7 hHeld ?rest9x7
          case hi9x7 => ((try simp only [List.getElem?_toArray, List.getElem?_cons_succ, List.getElem?_cons_zero]); (try rfl))
          case hq9x7 => exact fun _ _ _ h => h
          case hy9x7 => exact Or.inl ⟨by rfl, by intro w hSw; clear hSw; go_simp; try with_reducible rfl⟩
          try simp only [Act.put, List.setIfInBounds_toArray, List.set_cons_zero, List.set_cons_succ]
          refine wpAnyH_take (i := 10) (oi := ?oi10x8) (v := ?v10x8) ?hi10x8 (by kernel_rfl) (by kernel_rfl) (by kernel_rfl) ?hq10x8 ?hy10x8 hHeld ?rest10x8
          case hi10x8 => ((try simp only [List.getElem?_toArray, List.getElem?_cons_succ, List.getElem?_cons_zero]); (try rfl))
          case hq10x8 => exact fun _ _ _ h => h
          case hy10x8 => exact Or.inl ⟨by rfl, by intro w hSw; clear hSw; go_simp; try with_reducible rfl⟩
          try simp only [Act.put, List.setIfInBounds_toArray, List.set_cons_zero, List.set_cons_succ]
          refine wpAnyH_done (by kernel_rfl) ?_ _
          have XF := Lib.hid hHeld.2.2
          clear hHeld t1 t2 MG hcv X3 BF
          go_wp2_with fail
          go_meet
          exact ⟨rfl, XF.out⟩
        ·
          have e0 := hHeld
          clear hHeld
          go_simp
          refine hK.out _ _ (e0.2.2.call ((Below.refl _ _).alloc (Nat.le_refl _) _)).ls (fun hHeld => ?_)
          clear hK e0
          try simp only [Act.put, List.setIfInBounds_toArray, List.set_cons_zero, List.set_cons_succ]
          refine wpAnyH_ready (rs := [3, 7]) (by kernel_rfl) (by simp) ?_
          refine AllReadyH.cons rfl (fun K' hK => ?_) (AllReadyH.cons rfl (fun K' hK => ?_) AllReadyH.nil)
          ·
            have H1 := Lib.hid hHeld
            clear hHeld
            go_simp
            refine (MG.out _).mono ?_
            rintro e w7 ⟨rfl, hb7⟩
            have CK := Lib.hid (fun p (h : p.block < _) => hb7.cell (p := p) h)
            refine hK.out _ _ (H1.out.2.2.call hb7).ls (fun hHeld => ?_)
            clear hK H1 hb7
            try simp only [Act.put, List.setIfInBounds_toArray, List.set_cons_zero, List.set_cons_succ]
            refine wpAnyH_ready (rs := [7]) (by kernel_rfl) (by simp) ?_
            refine AllReadyH.cons rfl (fun K' hK => ?_) AllReadyH.nil
            have e0 := hHeld
            clear hHeld
            have ck := CK.out ⟨w3.heap.size, 0, none⟩ (by simp)
            go_simp
            refine hK.out _ _ e0 (fun hHeld => ?_)
            clear hK e0
            try simp only [Act.put, List.setIfInBounds_toArray, List.set_cons_zero, List.set_cons_succ]
            refine wpAnyH_take (i := 8) (oi := ?oi8x9) (v := ?v8x9) ?hi8x9 (by kernel_rfl) (by kernel_rfl) (by kernel_rfl) ?hq8x9 ?hy8x9 hHeld ?rest8x9
            case hi8x9 => ((try simp only [List.getElem?_toArray, List.getElem?_cons_succ, List.getElem?_cons_zero]); (try rfl))
            case hq8x9 => exact fun _ _ _ h => h
            case hy8x9 => exact Or.inl ⟨by rfl, by intro w hSw; clear hSw; go_simp; try with_reducible rfl⟩
            try simp only [Act.put, List.setIfInBounds_toArray, List.set_cons_zero, List.set_cons_succ]
            refine wpAnyH_take (i := 9) (oi := ?oi9x10) (v := ?v9x10) ?hi9x10 (by kernel_rfl) (by kernel_rfl) (by kernel_rfl) ?hq9x10 ?hy9x10 hHeld ?rest9x10
            case hi9x10 => ((try simp only [List.getElem?_toArray, List.getElem?_cons_succ, List.getElem?_cons_zero]); (try rfl))
            case hq9x10 => exact fun _ _ _ h => h
            case hy9x10 => exact Or.inl ⟨by rfl, by intro w hSw; clear hSw; go_simp; try with_reducible rfl⟩
            try simp only [Act.put, List.setIfInBounds_toArray, List.set_cons_zero, List.set_cons_succ]
            refine wpAnyH_take (i := 10) (oi := ?oi10x11) (v := ?v10x11) ?hi10x11 (by kernel_rfl) (by kernel_rfl) (by kernel_rfl) ?hq10x11 ?hy10x11 hHeld ?rest10x11
            case hi10x11 => ((try simp only [List.getElem?_toArray, List.getElem?_cons_succ, List.getElem?_cons_zero]); (try rfl))
            case hq10x11 => exact fun _ _ _ h => h
            case hy10x11 => exact Or.inl ⟨by rfl, by intro w hSw; clear hSw; go_simp; try with_reducible rfl⟩
            try simp only [Act.put, List.setIfInBounds_toArray, List.set_cons_zero, List.set_cons_succ]
            refine wpAnyH_done (by kernel_rfl) ?_ _
            have XF := Lib.hid hHeld.2.2
            clear hHeld t1 t2 MG hcv X3 BF
            go_wp2_with fail
            go_meet
            exact ⟨rfl, XF.out⟩
          ·
            have e0 := hHeld
            clear hHeld
            go_simp
            refine hK.out _ _ e0 (fun hHeld => ?_)
            clear hK e0
            try simp only [Act.put, List.setIfInBounds_toArray, List.set_cons_zero, List.set_cons_succ]
            refine wpAnyH_ready (rs := [3]) (by kernel_rfl) (by simp) ?_
            refine AllReadyH.cons rfl (fun K' hK => ?_) AllReadyH.nil
            have H1 := Lib.hid hHeld
            clear hHeld
            go_simp
            refine (MG.out _).mono ?_
            rintro e w7 ⟨rfl, hb7⟩
            have CK := Lib.hid (fun p (h : p.block < _) => hb7.cell (p := p) h)
            refine hK.out _ _ (H1.out.2.2.call hb7).ls (fun hHeld => ?_)
            clear hK H1 hb7
            try simp only [Act.put, List.setIfInBounds_toArray, List.set_cons_zero, List.set_cons_succ]
            refine wpAnyH_take (i := 8) (oi := ?oi8x12) (v := ?v8x12) ?hi8x12 (by kernel_rfl) (by kernel_rfl) (by kernel_rfl) ?hq8x12 ?hy8x12 hHeld ?rest8x12
            case hi8x12 => ((try simp only [List.getElem?_toArray, List.getElem?_cons_succ, List.getElem?_cons_zero]); (try rfl))
            case hq8x12 => exact fun _ _ _ h => h
            case hy8x12 => exact Or.inl ⟨by rfl, by intro w hSw; clear hSw; go_simp; try with_reducible rfl⟩
            try simp only [Act.put, List.setIfInBounds_toArray, List.set_cons_zero, List.set_cons_succ]
            refine wpAnyH_take (i := 9) (oi := ?oi9x13) (v := ?v9x13) ?hi9x13 (by kernel_rfl) (by kernel_rfl) (by kernel_rfl) ?hq9x13 ?hy9x13 hHeld ?rest9x13
            case hi9x13 => ((try simp only [List.getElem?_toArray, List.getElem?_cons_succ, List.getElem?_cons_zero]); (try rfl))
            case hq9x13 => exact fun _ _ _ h => h
            case hy9x13 => exact Or.inl ⟨by rfl, by intro w hSw; clear hSw; go_simp; try with_reducible rfl⟩
            try simp only [Act.put, List.setIfInBounds_toArray, List.set_cons_zero, List.set_cons_succ]
            refine wpAnyH_take (i := 10) (oi := ?oi10x14) (v := ?v10x14) ?hi10x14 (by kernel_rfl) (by kernel_rfl) (by kernel_rfl) ?hq10x14 ?hy10x14 hHeld ?rest10x14
            case hi10x14 => ((try simp only [List.getElem?_toArray, List.getElem?_cons_succ, List.getElem?_cons_zero]); (try rfl))
            case hq10x14 => exact fun _ _ _ h => h
            case hy10x14 => exact Or.inl ⟨by rfl, by intro w hSw; clear hSw; go_simp; try with_reducible rfl⟩
            try simp only [Act.put, List.setIfInBounds_toArray, List.set_cons_zero, List.set_cons_succ]
            refine wpAnyH_done (by kernel_rfl) ?_ _
            have XF := Lib.hid hHeld.2.2
            clear hHeld t1 t2 MG hcv X3 BF
            go_wp2_with fail
            go_meet
            exact ⟨rfl, XF.out⟩
    case rest =>
      obtain ⟨rfl, X4⟩ := hcut
      have X4 := Lib.hid X4
      clear q0 q1 q6 q7 X3
      have q1 := X4.out.row 1 _ rfl
      simp only [Nat.zero_add] at q1
      clear E6
      obtain ⟨S7, hS7⟩ : ∃ S : ByteArray, S = ⟨(L5 ++ (magF mg bd ++ spL 6)).toArray⟩ := ⟨_, rfl⟩
      rw [← hS7] at B3
      have E7 : S7.data.toList = L5 ++ (magF mg bd ++ spL 6) := by rw [hS7]
      have z7 : S7.size = 77 := by
        rw [size_L, E7, List.length_append, l5, List.length_append, spL_len]
        unfold magF
        split
        · rfl
        · rename_i h9
          rw [List.length_append, lm.out h9]
          rfl
      obtain ⟨S8, x8⟩ : ∃ S, S = S7 ++ st := ⟨_, rfl⟩
      have a8 := add_fact x8 (by rw [z7, os]; omega)
      have FN := Lib.hid (show S8 = ⟨(lineL day ⟨nm, st, tt, ra, dec, sg, mg, bd⟩).toArray⟩ from toL_inj (by
        rw [x8]
        simp only [ByteArray.data_append, Array.toList_append, E7, F5.out, lineL, midL, List.append_assoc, List.cons_append]))
      clear hS7 E7 z7 x8 F5 l5 lm
      go_wp2_with fail
      go_quiet ((go_at_call 90; first | with_reducible exact quiet_left (B3.out _) | with_reducible exact quiet_add_left (B3.out _)))
      go_wp2_with fail
      go_ret
      exact ⟨day, HD.out, by rw [← FN.out]; rfl, drewN_below2 X4.out.below _⟩
end Ow
end Go.Proofs.YtgodhaphbgllhaaGreatDoor
/-
  The walks of cut, blank, decimals of the reference of observations.
-/
namespace Go.Proofs.YtgodhaphbgllhaaGreatDoor
namespace Ow
open Go.RowKit Lw Go.Proofs.YtgodhaphbgllhaaGreatDoor.Ap Go.Proofs.YtgodhaphbgllhaaGreatDoor.Op Go.Proofs.YtgodhaphbgllhaaGreatDoor.Mp Go.Proofs.YtgodhaphbgllhaaGreatDoor.Mw Go.Proofs.YtgodhaphbgllhaaGreatDoor.At

def lenOfW : Value → Nat
  | .string s => s.size
  | _ => 0
theorem cutL_sp (l : List UInt8) : cutL (l ++ [32]) = cutL l := by
  unfold cutL
  rw [List.reverse_append, List.reverse_singleton, List.singleton_append, List.dropWhile_cons_of_pos (by rfl)]
theorem last_of {S : ByteArray} {m : Nat} (h : S.size = m + 1) (hm : m < S.size) : S.data.toList = (S.extract 0 m).data.toList ++ [S[m]'hm] := by
  rw [ext_L S 0 m (by omega), List.drop_zero, Nat.sub_zero]
  have := take_snoc S m hm
  rw [← this, List.take_of_length_le (by rw [← size_L]; omega)]
theorem cutS_sp {S : ByteArray} {m : Nat} (h : S.size = m + 1) (hm : m < S.size) (c : ((S[m]'hm).toNat : Int) = 32) : cutS (S.extract 0 m) = cutS S := by
  have e : S[m]'hm = 32 := UInt8.toNat_inj.1 (by show _ = 32; omega)
  unfold cutS
  rw [last_of h hm, e, cutL_sp]
theorem cutS_end {S : ByteArray} {m : Nat} (h : S.size = m + 1) (hm : m < S.size) (c : ¬ ((S[m]'hm).toNat : Int) = 32) : cutS S = S := by
  have e : S[m]'hm ≠ 32 := fun g => c (by rw [g]; rfl)
  apply toL_inj
  unfold cutS
  rw [last_of h hm, cut_id e]
set_option maxRecDepth 100000 in
set_option maxHeartbeats 2000000 in
theorem rcut_any (s : ByteArray) (w : World) (hs : s.size ≤ maxLen) :
    Calls Tryz.prog 50 #[.string s] w fun e w' => e = .returned (.string (cutS s)) ∧ w = w' := by
  unfold maxLen at hs
  go_enter Tryz.func50, Tryz.ntmps50
  go_wp2
  go_loop [0] (fun v => ∃ S : ByteArray, v = .string S ∧ S.size ≤ s.size ∧ Hid (cutS S = cutS s)) (fun v => lenOfW v)
  case atStart => exact ⟨s, rfl, Nat.le_refl _, Lib.hid rfl⟩
  case round =>
    obtain ⟨S, rfl, zS, E⟩ := hrel
    by_cases z : S.size = 0
    · have z' : (S.size : Int) = 0 := by omega
      have HE := Lib.hid (show cutS s = S by
        rw [← E.out, zero_str z]; rfl)
      clear E
      go_wp2
      go_ret
      exact ⟨by rw [HE.out]; rfl, rfl⟩
    · obtain ⟨m, hm⟩ : ∃ m, S.size = m + 1 := ⟨S.size - 1, by omega⟩
      have i1 : (S.size : Int) - 1 = (m : Int) := by omega
      have hmS : m < S.size := by omega
      have z0 : (0 : Int) < (S.size : Int) := by omega
      have bb := byte_bd (S[m]'hmS)
      by_cases c : ((S[m]'hmS).toNat : Int) = 32
      · have D2 := Lib.hid ((cutS_sp hm hmS c).trans E.out)
        have ze : (S.extract 0 m).size = m := by rw [ByteArray.size_extract]; omega
        clear E
        go_wp2
        go_round
        case rel => exact ⟨S.extract 0 m, rfl, by omega, D2⟩
        case measure => simp only [lenOfW]; omega
      · have c2 : (((S[m]'hmS).toNat : Int) == 32) = false := beq_eq_false_iff_ne.2 c
        have HE := Lib.hid ((cutS_end hm hmS c).symm.trans E.out)
        clear E
        go_wp2
        go_ret
        exact ⟨by rw [← HE.out]; rfl, rfl⟩
theorem rblank_any (s : ByteArray) (w : World) (hs : s.size ≤ maxLen) :
    Calls Tryz.prog 48 #[.string s] w fun e w' => e = .returned (.bool (decide (blankP s))) ∧ w = w' := by
  have C := Lib.hid (fun w' => rcut_any s w' hs)
  by_cases h : blankP s
  · rw [decide_eq_true h]
    rw [(cut_nil s).2 h] at C
    clear h hs
    go_enter Tryz.func48, Tryz.ntmps48
    go_wp2_with (refine (C.out _).mono ?_; rintro e w' ⟨rfl, rfl⟩)
    go_ret
    exact ⟨by first | rfl | simp, rfl⟩
  · rw [decide_eq_false h]
    have n : cutS s ≠ ⟨#[]⟩ := fun g => h ((cut_nil s).1 g)
    generalize cutS s = Q at *
    have n2 : (Q.toList == []) = false := by
      rw [Lib.toList_data]
      refine beq_eq_false_iff_ne.2 fun g => n (zero_str ?_)
      rw [size_L, g]; rfl
    clear h hs n
    go_enter Tryz.func48, Tryz.ntmps48
    go_wp2_with (refine (C.out _).mono ?_; rintro e w' ⟨rfl, rfl⟩)
    go_ret
    exact ⟨by first | rfl | simp, rfl⟩
set_option maxHeartbeats 2000000 in
theorem rdecimals_any (s : ByteArray) (w : World) (hs : s.size ≤ maxLen) :
    Calls Tryz.prog 102 #[.string s] w fun e w' => e = .returned (.int .i64 (decs s)) ∧ w = w' := by
  unfold maxLen at hs
  go_enter Tryz.func102, Tryz.ntmps102
  go_wp2
  go_loop [3] (fun i => ∃ k : Nat, k ≤ s.size ∧ i = .int .i64 k ∧ Hid (∀ j < k, bt s j ≠ 46)) (fun i => s.size - (intOf i).toNat)
  case atStart => exact ⟨0, Nat.zero_le _, rfl, Lib.hid (fun j hj => absurd hj (Nat.not_lt_zero _))⟩
  case round =>
    obtain ⟨k, hk, rfl, D⟩ := hrel
    by_cases hlt : k < s.size
    · have bb := byte_bd s[k]
      have eb := bt_of s k hlt
      by_cases c : (s[k].toNat : Int) = 46
      · have N := Lib.hid (show (decs s : Int) = (s.size : Int) - (k : Int) - 1 by
          have : ptS s = k := pt_uniq hk D.out (fun _ => by rw [eb]; exact c)
          unfold decs
          rw [this]; omega)
        clear eb D
        go_wp2
        go_ret
        exact ⟨ret_i N.out.symm, rfl⟩
      · have c2 : ((s[k].toNat : Int) == 46) = false := beq_eq_false_iff_ne.2 c
        have D2 := Lib.hid (show ∀ j < k + 1, bt s j ≠ 46 from fun j hj => by
          by_cases g : j = k
          · subst g; rw [eb]; exact c
          · exact D.out j (by omega))
        clear D eb c
        go_wp2
        go_round
        case rel => exact ⟨k + 1, by omega, by go_num, D2⟩
        case measure => simp [intOf]; omega
    · have N := Lib.hid (show (decs s : Int) = 0 by
        have : ptS s = k := pt_uniq hk D.out (fun h => absurd h hlt)
        unfold decs
        rw [this]; omega)
      clear D
      go_wp2
      go_ret
      exact ⟨ret_i N.out.symm, rfl⟩
end Ow
end Go.Proofs.YtgodhaphbgllhaaGreatDoor
/-
  The walks of valid and FromUtc of the reference.
-/
namespace Go.Proofs.YtgodhaphbgllhaaGreatDoor
namespace Mw
open Go.RowKit Go.Proofs.YtgodhaphbgllhaaGreatDoor.Mp Lw


def ValidPost (y m d h i s u : Int) (w : World) (e : Ending) (w' : World) : Prop := ∃ b : Bool, e = .returned (.bool b) ∧ (b = true ↔ fromOk y m d h i s u) ∧ Below w.heap.size w w'

theorem valid_no {y m d h i s u : Int} {w w' : World} (hB : Below w.heap.size w w') (hn : ¬ fromOk y m d h i s u) : ValidPost y m d h i s u w (.returned (.bool false)) w' :=
  ⟨false, rfl, ⟨fun e => (by cases e), fun e => absurd e hn⟩, hB⟩
theorem valid_lt {y m d h i s u : Int} {w w' : World} (hB : Below w.heap.size w w') (hw : wholeP y m d) (h1 : 0 ≤ h) (h2 : h ≤ 23) (h3 : 0 ≤ i) (h4 : i ≤ 59) (h5 : 0 ≤ s) (h7 : 0 ≤ u) (h8 : u ≤ 999999) (hs : ¬ s = 60) : ValidPost y m d h i s u w (.returned (.bool (decide (s < 60)))) w' :=
  ⟨_, rfl, ⟨fun e => ⟨hw, h1, h2, h3, h4, h5, h7, by omega, Or.inl (of_decide_eq_true e)⟩, fun ⟨_, _, _, _, _, _, _, _, e⟩ => decide_eq_true (by rcases e with e | ⟨e, _⟩ <;> omega)⟩, hB⟩
theorem valid_60 {y m d h i s u : Int} {w w' : World} (hB : Below w.heap.size w w') (hw : wholeP y m d) (h1 : h = 23) (h3 : i = 59) (h7 : 0 ≤ u) (h8 : u ≤ 999999) (hs : s = 60) : ValidPost y m d h i s u w (.returned (.bool (secs y m d == 86401))) w' :=
  ⟨_, rfl, ⟨fun e => ⟨hw, by omega, by omega, by omega, by omega, by omega, h7, by omega, Or.inr ⟨hs, h1, h3, by
      unfold leapday
      have e := beq_iff_eq.1 e
      unfold secs at e
      by_cases c : d = mo y (m + 1) - mo y m ∧ lps (12 * y + m) = lps (12 * y + m - 1) + 1
      · exact c
      · rw [if_neg c] at e; omega⟩⟩, fun ⟨_, _, _, _, _, _, _, _, e⟩ => beq_iff_eq.2 (by
      rcases e with e | ⟨_, _, _, e⟩
      · omega
      · unfold leapday at e; rw [secs, if_pos e])⟩, hB⟩
set_option maxRecDepth 100000 in
set_option maxHeartbeats 1000000 in
theorem valid_any (y m d h i s u : Int) (w : World) :
    Calls Tryz.prog 189 #[rdateV y m d h i s u] w (ValidPost y m d h i s u w) := by
  by_cases c1 : y < 1972
  · have d1 : decide (y < 1972) = true := by simpa using c1
    go_enter Tryz.func189, Tryz.ntmps189
    go_wp2
    go_quiet (fail)
    go_wp2
    go_ret
    exact valid_no (drewN_below2 ((Below.refl w.heap.size w).alloc (Nat.le_refl _) _) _) (fun ⟨⟨b1, b2, b3, b4, b5, b6⟩, _⟩ => by omega)
  · have d1 : decide (y < 1972) = false := by simpa using c1
    by_cases c2 : 2099 < y
    · have d2 : decide (2099 < y) = true := by simpa using c2
      go_enter Tryz.func189, Tryz.ntmps189
      go_wp2
      go_quiet (fail)
      go_wp2
      go_ret
      exact valid_no (drewN_below2 ((Below.refl w.heap.size w).alloc (Nat.le_refl _) _) _) (fun ⟨⟨b1, b2, b3, b4, b5, b6⟩, _⟩ => by omega)
    · have d2 : decide (2099 < y) = false := by simpa using c2
      by_cases c3 : m < 1
      · have d3 : decide (m < 1) = true := by simpa using c3
        go_enter Tryz.func189, Tryz.ntmps189
        go_wp2
        go_quiet (fail)
        go_wp2
        go_ret
        exact valid_no (drewN_below2 ((Below.refl w.heap.size w).alloc (Nat.le_refl _) _) _) (fun ⟨⟨b1, b2, b3, b4, b5, b6⟩, _⟩ => by omega)
      · have d3 : decide (m < 1) = false := by simpa using c3
        by_cases c4 : 12 < m
        · have d4 : decide (12 < m) = true := by simpa using c4
          go_enter Tryz.func189, Tryz.ntmps189
          go_wp2
          go_quiet (fail)
          go_wp2
          go_ret
          exact valid_no (drewN_below2 ((Below.refl w.heap.size w).alloc (Nat.le_refl _) _) _) (fun ⟨⟨b1, b2, b3, b4, b5, b6⟩, _⟩ => by omega)
        · have d4 : decide (12 < m) = false := by simpa using c4
          by_cases c5 : d < 1
          · have d5 : decide (d < 1) = true := by simpa using c5
            go_enter Tryz.func189, Tryz.ntmps189
            go_wp2
            go_quiet (fail)
            go_wp2
            go_ret
            exact valid_no (drewN_below2 ((Below.refl w.heap.size w).alloc (Nat.le_refl _) _) _) (fun ⟨⟨b1, b2, b3, b4, b5, b6⟩, _⟩ => by omega)
          · have d5 : decide (d < 1) = false := by simpa using c5
            go_enter Tryz.func189, Tryz.ntmps189
            go_wp2
            have hn : w.heap.size < (w.alloc (.cells #[.int .i64 y, .int .i64 m, .int .i64 d, .int .i64 h, .int .i64 i, .int .i64 s, .int .i64 u] 79)).heap.size := by simp
            go_region_held3 (fun w' => w'.cell? ⟨w.heap.size, 0, none⟩ = some (.int .i64 y) ∧ w'.cell? ⟨w.heap.size, 1, none⟩ = some (.int .i64 m) ∧ w'.cell? ⟨w.heap.size, 2, none⟩ = some (.int .i64 d) ∧ w'.cell? ⟨w.heap.size, 3, none⟩ = some (.int .i64 h) ∧ w'.cell? ⟨w.heap.size, 4, none⟩ = some (.int .i64 i) ∧ w'.cell? ⟨w.heap.size, 5, none⟩ = some (.int .i64 s) ∧ w'.cell? ⟨w.heap.size, 6, none⟩ = some (.int .i64 u)) (go_keep) (first | (go_at_call 156; refine (length_any _ _ _ (by omega) (by omega) (by omega)).mono ?_; rintro e w1 ⟨rfl, hb⟩; obtain ⟨hc, hf⟩ := bcell hb))
            rename_i hS
            obtain ⟨k0, k1, k2, k3, k4, k5, k6⟩ := hS
            have hB := below_then ((Below.refl w.heap.size w).alloc (Nat.le_refl _) _).drew hb
            clear hc hf
            go_wp2_with (go_at_call 133; refine (seconds_any _ _ _ _ ⟨by omega, by omega, by omega, by omega, by omega, by omega⟩).mono ?_; rintro e w2 ⟨rfl, hb2⟩)
            all_goals go_ret
            all_goals first
              | exact valid_no hB (fun ⟨⟨b1, b2, b3, b4, b5, b6⟩, g1, g2, g3, g4, g5, g6, g7, g8⟩ => by omega)
              | (have hs := beq_iff_eq.1 (by assumption : (s == 60) = true); exact valid_no hB (fun ⟨⟨b1, b2, b3, b4, b5, b6⟩, g1, g2, g3, g4, g5, g6, g7, g8⟩ => by omega))
              | (have hs := beq_eq_false_iff_ne.1 (by assumption : (s == 60) = false); exact valid_lt hB ⟨by omega, by omega, by omega, by omega, by omega, by omega⟩ (by omega) (by omega) (by omega) (by omega) (by omega) (by omega) (by omega) hs)
              | (have hs := beq_iff_eq.1 (by assumption : (s == 60) = true); exact valid_60 (below_then hB hb2) ⟨by omega, by omega, by omega, by omega, by omega, by omega⟩ (by omega) (by omega) (by omega) (by omega) hs)
end Mw
end Go.Proofs.YtgodhaphbgllhaaGreatDoor
/-
  The walk of FromUtc of the reference.
-/
namespace Go.Proofs.YtgodhaphbgllhaaGreatDoor
namespace Mw
open Go.RowKit Go.Proofs.YtgodhaphbgllhaaGreatDoor.Mp Lw

/-- What FromUtc does. -/
def RFromPost (y m d h i s u : Int) (w : World) (e : Ending) (w' : World) : Prop := ∃ t c : Int, e = .returned (.tuple #[.int .i64 t, .int .i64 c]) ∧ FromIs y m d h i s u t c ∧ Below w.heap.size w w'

set_option maxRecDepth 100000 in
set_option maxHeartbeats 2000000 in
theorem rfrom_any (y m d h i s u : Int) (w : World) :
    Calls Tryz.prog 152 #[rdateV y m d h i s u] w (RFromPost y m d h i s u w) := by
  by_cases hok : fromOk y m d h i s u
  · have Hok := Lib.hid hok
    obtain ⟨hw, g1, g2, g3, g4, g5, g6, g7, g8⟩ := hok
    have g8 : s ≤ 60 := by rcases g8 with g | ⟨g, _⟩ <;> omega
    have hI := wholeP_ym hw
    obtain ⟨n1, n2⟩ := wholeP_range hw
    have bd := bgv_bd (dn y m d) y m (by omega) (by omega)
    have Fin := Lib.hid (show bgv (dn y m d) y m + (h * 3600 + i * 60 + s) * 1000000 + u = timeOf y m d h i s u by unfold timeOf; omega)
    rw [dn_mo] at bd
    obtain ⟨a1, a2, a3, a4, a5, a6⟩ := hw
    have HI := Lib.hid hI
    clear hI
    go_enter Tryz.func152, Tryz.ntmps152
    go_wp2_with fail
    refine (valid_any _ _ _ _ _ _ _ _).mono ?_
    rintro e w1 ⟨b, rfl, hb, hB⟩
    obtain rfl : b = true := hb.2 Hok.out
    clear hb
    obtain ⟨hc, hf⟩ := bcell hB
    have k0 : w1.cell? ⟨w.heap.size, 0, none⟩ = some (.int .i64 y) := by rw [hc _ _ (by simp), World.cell?_alloc_at _ _ _ _ rfl]; rfl
    have k1 : w1.cell? ⟨w.heap.size, 1, none⟩ = some (.int .i64 m) := by rw [hc _ _ (by simp), World.cell?_alloc_at _ _ _ _ rfl]; rfl
    have k2 : w1.cell? ⟨w.heap.size, 2, none⟩ = some (.int .i64 d) := by rw [hc _ _ (by simp), World.cell?_alloc_at _ _ _ _ rfl]; rfl
    have k3 : w1.cell? ⟨w.heap.size, 3, none⟩ = some (.int .i64 h) := by rw [hc _ _ (by simp), World.cell?_alloc_at _ _ _ _ rfl]; rfl
    have k4 : w1.cell? ⟨w.heap.size, 4, none⟩ = some (.int .i64 i) := by rw [hc _ _ (by simp), World.cell?_alloc_at _ _ _ _ rfl]; rfl
    have k5 : w1.cell? ⟨w.heap.size, 5, none⟩ = some (.int .i64 s) := by rw [hc _ _ (by simp), World.cell?_alloc_at _ _ _ _ rfl]; rfl
    have k6 : w1.cell? ⟨w.heap.size, 6, none⟩ = some (.int .i64 u) := by rw [hc _ _ (by simp), World.cell?_alloc_at _ _ _ _ rfl]; rfl
    have hB1 := below_then ((Below.refl w.heap.size w).alloc (Nat.le_refl _) _) hB
    have hz : w.heap.size < w1.heap.size := by have := hB.size; simp at this; omega
    clear hc hf hB
    go_wp2_with fail
    go_region_held3 (fun w' => w'.cell? ⟨w.heap.size, 0, none⟩ = some (.int .i64 y) ∧ w'.cell? ⟨w.heap.size, 1, none⟩ = some (.int .i64 m) ∧ w'.cell? ⟨w.heap.size, 2, none⟩ = some (.int .i64 d) ∧ w'.cell? ⟨w.heap.size, 6, none⟩ = some (.int .i64 u)) (go_keep) (first | (go_at_call 155; refine (begins_in _ _ _ _ (by omega) (by omega) (by omega) (by omega) (by omega) (by omega)).mono ?_; rintro e w2 ⟨rfl, hb2⟩; have q0 := (hb2.cell (p := ⟨w.heap.size, 0, none⟩) hz).trans k0; have q1 := (hb2.cell (p := ⟨w.heap.size, 1, none⟩) hz).trans k1; have q2 := (hb2.cell (p := ⟨w.heap.size, 2, none⟩) hz).trans k2; have q6 := (hb2.cell (p := ⟨w.heap.size, 6, none⟩) hz).trans k6))
    go_wp2
    go_ret2
    exact ⟨_, 0, rfl, Or.inl ⟨Hok.out, by rw [← Fin.out, dn_mo, IntWalk.i64_in ((h * 3600 + i * 60 + s) * 1000000) (by omega), IntWalk.i64_in (bgv (mo y m + d - 1) y m + (h * 3600 + i * 60 + s) * 1000000) (by omega), IntWalk.i64_in _ (by omega)], rfl⟩, below_then hB1.drew hb2⟩
  · go_enter Tryz.func152, Tryz.ntmps152
    go_wp2_with fail
    refine (valid_any _ _ _ _ _ _ _ _).mono ?_
    rintro e w1 ⟨b, rfl, hb, hB⟩
    obtain rfl : b = false := by cases b with
      | false => rfl
      | true => exact absurd (hb.1 rfl) hok
    clear hb
    go_wp2_with fail
    go_ret2
    exact ⟨0, 2, rfl, Or.inr ⟨hok, rfl, rfl⟩, below_then ((Below.refl _ _).alloc (Nat.le_refl _) _) hB⟩
end Mw
end Go.Proofs.YtgodhaphbgllhaaGreatDoor
/-
  The walk of number of the reference.
-/
namespace Go.Proofs.YtgodhaphbgllhaaGreatDoor
namespace Ap
open Go.RowKit Lw

set_option maxHeartbeats 1000000 in
theorem number_any (s : ByteArray) (w : World) (hs : s.size ≤ 18) :
    Calls Tryz.prog 151 #[.string s] w fun e w' => e = .returned (.int .i64 (numV s.data.toList)) ∧ w = w' := by
  go_enter Tryz.func151, Tryz.ntmps151
  go_wp2
  go_loop [3, 4] (fun n i => ∃ k : Nat, k ≤ s.size ∧ i = .int .i64 k ∧ n = .int .i64 (numL (s.data.toList.take k)) ∧ Hid (allD (s.data.toList.take k))) (fun _ i => s.size - (intOf i).toNat)
  case atStart => exact ⟨0, Nat.zero_le _, rfl, rfl, Lib.hid (by intro c hc; simp at hc)⟩
  case round =>
    obtain ⟨k, hk, rfl, rfl, D⟩ := hrel
    by_cases hlt : k < s.size
    · have nb := numL_17 s k hk (by omega) D.out
      have bb := byte_bd s[k]
      by_cases d : 48 ≤ (s[k].toNat : Int) ∧ (s[k].toNat : Int) ≤ 57
      · have HS := Lib.hid (show numL (s.data.toList.take (k + 1)) = 10 * numL (s.data.toList.take k) + ((s[k].toNat : Int) - 48) by rw [take_snoc s k hlt, numL_snoc])
        have D2 := Lib.hid (show allD (s.data.toList.take (k + 1)) by rw [take_snoc s k hlt]; exact allD_snoc D.out d.1 d.2)
        obtain ⟨d1, d2⟩ := d
        go_wp2
        go_round
        case rel => exact ⟨k + 1, by omega, by go_num, val_i HS.out.symm, D2⟩
        case measure => simp [intOf]; omega
      · have N := Lib.hid (numV_not s k hlt d)
        have d' : (s[k].toNat : Int) < 48 ∨ 57 < (s[k].toNat : Int) := by omega
        clear d
        go_wp2
        all_goals first | (exfalso; omega) | (go_ret; exact ⟨ret_i N.out.symm, rfl⟩)
    · have N := Lib.hid (numV_all s k hlt D.out)
      go_wp2
      go_ret
      exact ⟨ret_i N.out, rfl⟩
end Ap
end Go.Proofs.YtgodhaphbgllhaaGreatDoor
/-
  The walk of like of the reference.
-/
namespace Go.Proofs.YtgodhaphbgllhaaGreatDoor
namespace Ap
open Go.RowKit Lw

set_option maxHeartbeats 1000000 in
theorem like_any (s p : ByteArray) (w : World) (hs : s.size ≤ 100) :
    Calls Tryz.prog 150 #[.string s, .string p] w fun e w' => e = .returned (.bool (decide (likeP s p))) ∧ Below w.heap.size w w' := by
  by_cases hn : s.size = p.size
  · have i0 : ((s.size : Int) == (p.size : Int)) = true := beq_iff_eq.2 (by omega)
    go_enter Tryz.func150, Tryz.ntmps150
    go_wp2
    go_loopw [5] (fun i wr => ∃ k : Nat, k ≤ s.size ∧ i = .int .i64 k ∧ Hid (likeTo s p k) ∧ Below w.heap.size w wr) (fun i _ => s.size - (intOf i).toNat)
    case atStart => exact ⟨0, Nat.zero_le _, rfl, Lib.hid fun k hk => absurd hk (by omega), Below.refl _ _⟩
    case round =>
      obtain ⟨k, hk, rfl, D, hB⟩ := hrel
      by_cases hlt : k < s.size
      · have hlp : k < p.size := by omega
        have bs := bt_of s k hlt
        have bp := bt_of p k hlp
        have O := Lib.hid (show okAt s p k ↔ (((p[k].toNat : Nat) : Int) = 48 → 48 ≤ ((s[k].toNat : Nat) : Int) ∧ ((s[k].toNat : Nat) : Int) ≤ 57) ∧ (¬ ((p[k].toNat : Nat) : Int) = 48 → ((s[k].toNat : Nat) : Int) = ((p[k].toNat : Nat) : Int)) by unfold okAt; rw [bs, bp])
        clear bs bp
        have bb := byte_bd s[k]
        have bb2 := byte_bd p[k]
        by_cases c1 : (p[k].toNat : Int) = 48
        · have d1 : ((p[k].toNat : Int) == 48) = true := beq_iff_eq.2 c1
          by_cases c2 : (s[k].toNat : Int) < 48
          · have N := Lib.hid (like_no hlt fun g => by have := (O.out.1 g).1 c1; omega)
            have d2 : decide ((s[k].toNat : Int) < 48) = true := decide_eq_true c2
            clear c1 c2 bb bb2
            go_wp2
            go_quiet (fail)
            go_wp2
            go_ret
            exact ⟨ret_b N.out.symm, drewN_below2 hB _⟩
          · have d2 : decide ((s[k].toNat : Int) < 48) = false := decide_eq_false c2
            by_cases c3 : 57 < (s[k].toNat : Int)
            · have N := Lib.hid (like_no hlt fun g => by have := (O.out.1 g).1 c1; omega)
              have d3 : decide (57 < (s[k].toNat : Int)) = true := decide_eq_true c3
              clear c1 c2 c3 bb bb2
              go_wp2
              go_quiet (fail)
              go_wp2
              go_ret
              exact ⟨ret_b N.out.symm, drewN_below2 hB _⟩
            · have d3 : decide (57 < (s[k].toNat : Int)) = false := decide_eq_false c3
              have D2 := Lib.hid (likeTo_s D.out (O.out.2 ⟨fun _ => by omega, fun g => absurd c1 g⟩))
              have d4 : ((p[k].toNat : Int) != 48) = false := by simp [c1]
              clear c1 c2 c3 bb bb2
              go_wp2
              go_quiet (fail)
              go_wp2
              go_roundw
              case rel => exact ⟨k + 1, by omega, by go_num, D2, drewN_below2 hB _⟩
              case measure => simp [intOf]; omega
        · have d1 : ((p[k].toNat : Int) == 48) = false := beq_eq_false_iff_ne.2 c1
          have d4 : ((p[k].toNat : Int) != 48) = true := by simp [c1]
          by_cases c2 : (s[k].toNat : Int) = (p[k].toNat : Int)
          · have D2 := Lib.hid (likeTo_s D.out (O.out.2 ⟨fun g => absurd g c1, fun _ => c2⟩))
            have d5 : ((s[k].toNat : Int) != (p[k].toNat : Int)) = false := by simp [c2]
            clear c1 c2 bb bb2
            go_wp2
            go_quiet (fail)
            go_wp2
            go_roundw
            case rel => exact ⟨k + 1, by omega, by go_num, D2, drewN_below2 hB _⟩
            case measure => simp [intOf]; omega
          · have N := Lib.hid (like_no hlt fun g => c2 ((O.out.1 g).2 c1))
            have d5 : ((s[k].toNat : Int) != (p[k].toNat : Int)) = true := by simp [c2]
            clear c1 c2 bb bb2
            go_wp2
            go_quiet (fail)
            go_wp2
            go_ret
            exact ⟨ret_b N.out.symm, drewN_below2 hB _⟩
      · have N := Lib.hid (like_yes hn hlt D.out)
        go_wp2
        go_ret
        exact ⟨ret_b N.out.symm, hB⟩
  · have i0 : ((s.size : Int) == (p.size : Int)) = false := beq_eq_false_iff_ne.2 (by omega)
    have N := Lib.hid (show decide (likeP s p) = false from decide_eq_false fun g => hn g.1)
    go_enter Tryz.func150, Tryz.ntmps150
    go_wp2
    go_ret
    exact ⟨ret_b N.out.symm, Below.refl _ _⟩
end Ap
end Go.Proofs.YtgodhaphbgllhaaGreatDoor
/-
  The walk of Parse of the reference.
-/
namespace Go.Proofs.YtgodhaphbgllhaaGreatDoor
namespace Ap
open Go.RowKit Lw Go.Proofs.YtgodhaphbgllhaaGreatDoor.Mp

theorem via {p q : Prop} (hp : p) (h : Hid p → q) : q := h (Lib.hid hp)
theorem rinfo7 : (Tryz.prog.info? 79).map (·.size) = some 7 := by kernel_rfl
theorem nm_any (s : ByteArray) (i j : Nat) (hj : j ≤ s.size) (h : j ≤ i + 18) (w : World) : Calls Tryz.prog 151 #[.string (s.extract i j)] w fun e w' => e = .returned (.int .i64 (nm s i j)) ∧ w' = w :=
  (number_any (s.extract i j) w (by rw [size_ext s _ _ hj]; omega)).mono fun _ _ g => ⟨g.1, g.2.symm⟩
theorem nm_bd (s : ByteArray) (i j : Nat) (hj : j ≤ s.size) (h : j ≤ i + 9) : -1 ≤ nm s i j ∧ nm s i j < 1000000000 := by
  unfold nm
  by_cases g : allD (s.extract i j).data.toList
  · rw [numV_yes g]
    have e : (s.extract i j).data.toList.take (s.extract i j).data.toList.length = (s.extract i j).data.toList := List.take_length
    have := numL_bd _ _ (Nat.le_refl _) (by rw [e]; exact g)
    rw [e] at this
    have hl : (s.extract i j).data.toList.length ≤ 9 := by
      have : (s.extract i j).data.toList.length = (s.extract i j).size := rfl
      rw [this, size_ext s _ _ hj]; omega
    have h9 : ∀ r : Nat, r ≤ 9 → (10 : Int) ^ r ≤ 1000000000 := by decide
    have := h9 _ hl
    omega
  · have : numV (s.extract i j).data.toList = -1 := if_neg g
    omega
end Ap
end Go.Proofs.YtgodhaphbgllhaaGreatDoor
/-
  The walk of ParseDay of the reference.
-/
namespace Go.Proofs.YtgodhaphbgllhaaGreatDoor
namespace Ap
open Go.RowKit Lw Go.Proofs.YtgodhaphbgllhaaGreatDoor.Mp

theorem rpday_not {s : ByteArray} (h : ¬ dayP s) : PDayIs s 0 12 := Or.inr ⟨fun g => h g.1, rfl, rfl⟩
set_option maxRecDepth 100000 in
set_option maxHeartbeats 4000000 in
theorem rpday_short (s : ByteArray) (w : World) (hs : s.size ≤ 100) (h : s.size < 10 ∨ s.size = 11 ∨ 20 < s.size) :
    Calls Tryz.prog 103 #[.string s] w (PDayPost s w) := by
  have N := Lib.hid (rpday_not (s := s) fun g => by have := g.1; have := g.2.1; have := g.2.2.1; omega)
  rcases h with h | h | h
  · have i0 : (s.size : Int) < 10 := by omega
    go_enter Tryz.func103, Tryz.ntmps103
    go_wp2_with fail
    go_ret2
    exact ⟨0, 12, rfl, N.out, Below.refl _ _⟩
  · have i0 : (s.size : Int) = 11 := by omega
    go_enter Tryz.func103, Tryz.ntmps103
    go_wp2_with fail
    go_ret2
    exact ⟨0, 12, rfl, N.out, Below.refl _ _⟩
  · have i0 : 20 < (s.size : Int) := by omega
    go_enter Tryz.func103, Tryz.ntmps103
    go_wp2_with fail
    go_ret2
    exact ⟨0, 12, rfl, N.out, Below.refl _ _⟩
set_option maxRecDepth 100000 in
set_option maxHeartbeats 8000000 in
theorem rpday_long (s : ByteArray) (w : World) (h10 : 10 ≤ s.size) (h11 : s.size ≠ 11) (h20 : s.size ≤ 20) :
    Calls Tryz.prog 103 #[.string s] w (PDayPost s w) := by
  have i0 : ¬ (s.size : Int) < 10 := by omega
  have i1 : ((s.size : Int) == 11) = false := beq_eq_false_iff_ne.2 (by omega)
  have i2 : ¬ 20 < (s.size : Int) := by omega
  have i3 : (10 : Int) ≤ (s.size : Int) := by omega
  have j4 : (4 : Int) ≤ (s.size : Int) := by omega
  have j7 : (7 : Int) ≤ (s.size : Int) := by omega
  have LK := fun w' => like_any (s.extract 0 10) P10 w' (by rw [size_ext s _ _ (by omega)]; omega)
  by_cases lk : likeP (s.extract 0 10) P10
  · rw [decide_eq_true lk] at LK
    replace LK := Lib.hid LK
    have HLK := Lib.hid lk
    clear lk
    go_enter Tryz.func103, Tryz.ntmps103
    go_wp2_with fail
    refine (LK.out _).mono ?_
    rintro e w1 ⟨rfl, hb1⟩
    have B1 := Lib.hid hb1
    clear hb1 LK
    go_wp2_with fail
    refine' via ?hp (fun key => ?hq)
    case hq =>
      go_region_held3 (fun _ => True) (trivial) (first | (go_at_call 151; refine (nm_any s _ _ (by omega) (by omega) _).mono ?_; rintro e w' ⟨rfl, rfl⟩))
      all_goals exact key.out
    case hp =>
      go_wp2_with fail
      refine (Mw.rfrom_any _ _ _ _ _ _ _ _).mono ?_
      rintro e w4 ⟨ti, c, rfl, hfi, hb4⟩
      have B4 := Lib.hid (below_then (B1.out.alloc B1.out.size _).drew hb4)
      have r0 : w4.rangeAt w1.heap.size 0 [.int .i64 (nm s 0 4), .int .i64 (nm s 5 7), .int .i64 (nm s 8 10), .int .i64 0, .int .i64 0, .int .i64 0, .int .i64 0] := rangeAt_below (show (World.drew (w1.alloc (.cells (List.toArray [.int .i64 (nm s 0 4), .int .i64 (nm s 5 7), .int .i64 (nm s 8 10), .int .i64 0, .int .i64 0, .int .i64 0, .int .i64 0]) 79))).rangeAt w1.heap.size 0 [.int .i64 (nm s 0 4), .int .i64 (nm s 5 7), .int .i64 (nm s 8 10), .int .i64 0, .int .i64 0, .int .i64 0, .int .i64 0] from rangeAt_new w1 [.int .i64 (nm s 0 4), .int .i64 (nm s 5 7), .int .i64 (nm s 8 10), .int .i64 0, .int .i64 0, .int .i64 0, .int .i64 0] 79) hb4 (by simp)
      have q0 := r0 0 _ rfl
      have q1 := r0 1 _ rfl
      have q2 := r0 2 _ rfl
      rw [Nat.zero_add] at q0 q1 q2
      clear r0 hb4
      rcases hfi with ⟨f1, f2, rfl⟩ | ⟨f1, rfl, rfl⟩
      · have hw := f1.1
        have F1 := Lib.hid f1
        have tbd := time_bd hw
        rw [← f2] at tbd
        have F2 := Lib.hid f2
        by_cases hz : s.size = 10
        · have i4 : ¬ (10 : Int) < (s.size : Int) := by omega
          have FIN := Lib.hid (show PDayIs s ti 0 from Or.inl ⟨⟨⟨h10, h11, h20, HLK.out, fun h => absurd h (by omega)⟩, f1⟩, by unfold dayV; rw [← f2, show partV s = 0 from if_pos hz, Int.add_zero], rfl⟩)
          clear f1 f2 hw hz
          go_wp2_with fail
          go_ret2
          exact ⟨ti, 0, rfl, FIN.out, B4.out⟩
        · have i4 : (10 : Int) < (s.size : Int) := by omega
          have i5 : (11 : Int) ≤ (s.size : Int) := by omega
          have NN := Lib.hid (nm_any s 11 s.size (Nat.le_refl _) (by omega))
          have hx10 := bt_of s 10 (by omega)
          have nb := nm_bd s 11 s.size (Nat.le_refl _) (by omega)
          by_cases e46 : bt s 10 = 46
          · rw [e46] at hx10
            by_cases nn : 0 ≤ nm s 11 s.size
            · obtain ⟨n, hn⟩ : ∃ n : Nat, nm s 11 s.size = (n : Int) := ⟨(nm s 11 s.size).toNat, by omega⟩
              obtain ⟨D, eD⟩ : ∃ D : Nat, dayLen (nm s 0 4) (nm s 5 7) (nm s 8 10) = (D : Int) := ⟨(dayLen (nm s 0 4) (nm s 5 7) (nm s 8 10)).toNat, by have := dayLen_bd (nm s 0 4) (nm s 5 7) (nm s 8 10); omega⟩
              obtain ⟨T, eT⟩ : ∃ T : Nat, T = 10 ^ (s.size - 11) := ⟨_, rfl⟩
              have dl := dayLen_bd (nm s 0 4) (nm s 5 7) (nm s 8 10)
              have TN : ∀ w', Calls Tryz.prog 132 #[.int .i64 ((s.size - 11 : Nat) : Int)] w' fun e w'' => e = .returned (.int .i64 (T : Int)) ∧ w' = w'' := fun w' => by rw [eT]; exact rten_any (s.size - 11) w' (by omega)
              rw [show (((s.size - 11 : Nat)) : Int) = (s.size : Int) - 11 by omega] at TN
              replace TN := Lib.hid TN
              have ad : allD (s.extract 11 s.size).data.toList := (numV_nn _).1 nn
              have n10 : n < T := by
                have e : (s.extract 11 s.size).data.toList.take (s.extract 11 s.size).data.toList.length = (s.extract 11 s.size).data.toList := List.take_length
                have := (numL_bd _ _ (Nat.le_refl _) (by rw [e]; exact ad)).2
                have hv : numL (s.extract 11 s.size).data.toList = (n : Int) := by rw [← numV_yes ad]; exact hn
                have hl : (s.extract 11 s.size).data.toList.length = s.size - 11 := by
                  have : (s.extract 11 s.size).data.toList.length = (s.extract 11 s.size).size := rfl
                  rw [this, size_ext s _ _ (Nat.le_refl _)]
                rw [e, hv, hl] at this
                rw [eT]
                exact_mod_cast this
              have T10 : T ≤ 1000000000 := by
                have h9 : ∀ r : Nat, r ≤ 9 → 10 ^ r ≤ 1000000000 := by decide
                rw [eT]; exact h9 _ (by omega)
              have PQ : n * D < T * 18446744073709551616 := Nat.lt_of_lt_of_le (Nat.mul_lt_mul_of_pos_right n10 (by omega)) (Nat.mul_le_mul_left _ (by omega))
              have qb : n * D / T ≤ D := by
                have : n * D ≤ T * D := Nat.mul_le_mul_right _ (Nat.le_of_lt n10)
                have h2 := Nat.div_le_div_right (c := T) this
                rw [Nat.mul_div_cancel_left _ (by omega)] at h2
                exact h2
              have PA := Lib.hid (fun w' => Dv.part_any n D T w' (by omega) (by omega) (by omega) PQ (by omega))
              have SE := Lib.hid (fun w' => Mw.seconds_any (nm s 0 4) (nm s 5 7) (nm s 8 10) w' hw)
              have sl := secs_len (nm s 0 4) (nm s 5 7) (nm s 8 10)
              rw [eD] at sl
              have wD : IntKind.i64.wrap (D : Int) = (D : Int) := IntWalk.i64_in _ (by omega)
              have D0 : D ≤ 86401000000 := by omega
              rw [hn] at NN
              have FIN : Hid (∀ v : Int, v = ti + (((n * D / T : Nat) : Int) + (if 0 < n * D % T then 1 else 0)) → PDayIs s v 0) := Lib.hid fun v hv => Or.inl ⟨⟨⟨h10, h11, h20, HLK.out, fun _ => ⟨e46, nn⟩⟩, F1.out⟩, by
                rw [hv]
                unfold dayV partV
                rw [if_neg hz, hn, eD, ← F2.out]
                have eT2 : tenI (s.size - 11) = (T : Int) := by rw [eT]; rfl
                rw [eT2]
                unfold upI
                congr 1
                have e1 : (n : Int) * (D : Int) / (T : Int) = ((n * D / T : Nat) : Int) := by rw [← Int.natCast_mul, ← Int.natCast_ediv]
                have e2 : (n : Int) * (D : Int) % (T : Int) = ((n * D % T : Nat) : Int) := by rw [← Int.natCast_mul, ← Int.natCast_emod]
                rw [e1, e2]
                congr 1
                by_cases g : 0 < n * D % T
                · rw [if_pos g, if_pos (by omega)]
                · rw [if_neg g, if_neg (by omega)], rfl⟩
              clear nn e46 f1 f2 hw hz hn eD eT dl ad n10 PQ nb T10
              generalize n * D / T = q at *
              generalize n * D % T = r at *
              go_wp2_with fail
              refine (NN.out _).mono ?_
              rintro e w' ⟨rfl, rfl⟩
              go_wp2_with fail
              refine (SE.out _).mono ?_
              rintro e w5 ⟨rfl, hb5⟩
              have B5 := Lib.hid (below_then B4.out hb5)
              clear hb5 SE q0 q1 q2
              go_wp2_with fail
              refine (TN.out _).mono ?_
              rintro e w' ⟨rfl, rfl⟩
              go_wp2_with fail
              refine (PA.out _).mono ?_
              rintro e w6 ⟨rfl, hb6⟩
              have B6 := Lib.hid (below_then B5.out hb6)
              clear hb6
              by_cases hr : 0 < r
              · have F := Lib.hid (FIN.out (ti + ((q : Int) + 1)) (by rw [if_pos hr]))
                rw [decide_eq_true hr]
                go_wp2_with fail
                go_ret2
                exact ⟨_, 0, rfl, F.out, B6.out⟩
              · have F := Lib.hid (FIN.out (ti + (q : Int)) (by rw [if_neg hr, Int.add_zero]))
                rw [decide_eq_false hr]
                go_wp2_with fail
                go_ret2
                exact ⟨_, 0, rfl, F.out, B6.out⟩
            · have N := Lib.hid (rpday_not (s := s) fun g => nn (g.2.2.2.2 (by omega)).2)
              have n0 : nm s 11 s.size < 0 := by omega
              clear nn e46 f1 f2 hw hz
              go_wp2_with fail
              refine (NN.out _).mono ?_
              rintro e w' ⟨rfl, rfl⟩
              go_wp2_with fail
              go_ret2
              exact ⟨0, 12, rfl, N.out, B4.out⟩
          · have N := Lib.hid (rpday_not (s := s) fun g => e46 (g.2.2.2.2 (by omega)).1)
            clear f1 f2 hw hz nb
            go_wp2_with fail
            refine (NN.out _).mono ?_
            rintro e w' ⟨rfl, rfl⟩
            go_wp2_with fail
            go_ret2
            exact ⟨0, 12, rfl, N.out, B4.out⟩
      · have N := Lib.hid (show PDayIs s 0 12 from Or.inr ⟨fun g => f1 g.2, rfl, rfl⟩)
        clear f1
        go_wp2_with fail
        go_ret2
        exact ⟨0, 12, rfl, N.out, B4.out⟩
  · have N := Lib.hid (rpday_not (s := s) fun g => lk g.2.2.2.1)
    rw [decide_eq_false lk] at LK
    clear lk
    go_enter Tryz.func103, Tryz.ntmps103
    go_wp2_with fail
    refine (LK _).mono ?_
    rintro e w1 ⟨rfl, hb1⟩
    go_wp2_with fail
    go_ret2
    exact ⟨0, 12, rfl, N.out, hb1⟩
end Ap
end Go.Proofs.YtgodhaphbgllhaaGreatDoor
/-
  The walk of read of the reference of observations.
-/
namespace Go.Proofs.YtgodhaphbgllhaaGreatDoor
namespace Ow
open Go.RowKit Lw Go.Proofs.YtgodhaphbgllhaaGreatDoor.Ap Go.Proofs.YtgodhaphbgllhaaGreatDoor.Op Go.Proofs.YtgodhaphbgllhaaGreatDoor.Mp Go.Proofs.YtgodhaphbgllhaaGreatDoor.Mw Go.Proofs.YtgodhaphbgllhaaGreatDoor.At

/-- What read answers: the part of a line that every line has. -/
structure ReadIs (s : ByteArray) (o : Ob) : Prop where
  p : 3 ≤ decs (cutS (s.extract 15 32)) ∧ decs (cutS (s.extract 15 32)) ≤ 6
  q : 1 ≤ decs (cutS (s.extract 32 44)) ∧ decs (cutS (s.extract 32 44)) ≤ 3
  r : decs (cutS (s.extract 44 56)) ≤ 2
  day : PDayIs (cutS (s.extract 15 32)) o.t 0
  ra : Gp.RaIs (cutS (s.extract 32 44)) o.ra 0
  dec : Gp.DecIs (cutS (s.extract 44 56)) o.dec 0
  all : o = ⟨⟨#[]⟩, s.extract 77 80, o.t, o.ra, o.dec, sgOf (decs (cutS (s.extract 44 56))), 9999, 32⟩
def ReadA (s : ByteArray) (o : Ob) (b : Bool) : Prop := (b = true ∧ ReadIs s o) ∨ (b = false ∧ o = zeroO ∧ NoO s)
def ReadPost (s : ByteArray) (w : World) (e : Ending) (w' : World) : Prop := ∃ (o : Ob) (b : Bool), e = .returned (.tuple #[obsV o, .bool b]) ∧ ReadA s o b ∧ Below w.heap.size w w'
theorem rpday_any (s : ByteArray) (w : World) (hs : s.size ≤ 100) : Calls Tryz.prog 103 #[.string s] w (PDayPost s w) := by
  by_cases h : s.size < 10 ∨ s.size = 11 ∨ 20 < s.size
  · exact rpday_short s w hs h
  · exact rpday_long s w (by omega) (by omega) (by omega)
/-- The condition of read. -/
def badP (c1 c2 c3 : Int) (d1 d2 d3 : Nat) : Prop := c1 ≠ 0 ∨ c2 ≠ 0 ∨ c3 ≠ 0 ∨ d1 < 3 ∨ 6 < d1 ∨ d2 < 1 ∨ 3 < d2 ∨ 2 < d3
instance (c1 c2 c3 : Int) (d1 d2 d3 : Nat) : Decidable (badP c1 c2 c3 d1 d2 d3) := by unfold badP; infer_instance
set_option maxRecDepth 100000 in
set_option maxHeartbeats 16000000 in
theorem rread_any (s : ByteArray) (w : World) (h8 : s.size = 80) : Calls Tryz.prog 49 #[.string s] w (ReadPost s w) := by
  have z80 : (s.size : Int) = 80 := by omega
  have CU1 := Lib.hid (fun w' => rcut_any (s.extract 15 32) w' (by rw [ByteArray.size_extract]; unfold maxLen; omega))
  have zD1 : (cutS (s.extract 15 32)).size ≤ 17 := Nat.le_trans (cutS_le _) (by rw [ByteArray.size_extract]; omega)
  obtain ⟨D1, hD1⟩ : ∃ D, cutS (s.extract 15 32) = D := ⟨_, rfl⟩
  obtain ⟨Z1, hZ1⟩ : ∃ Z, s.extract 15 32 = Z := ⟨_, rfl⟩
  rw [hD1, hZ1] at CU1
  rw [hD1] at zD1
  have hE1 : cutS Z1 = D1 := by rw [← hZ1]; exact hD1
  have DE1 := Lib.hid (fun w' => rdecimals_any D1 w' (by unfold maxLen; omega))
  obtain ⟨d1, hd1⟩ : ∃ d, decs D1 = d := ⟨_, rfl⟩
  rw [hd1] at DE1
  have db1 : d1 ≤ 17 := by rw [← hd1]; unfold decs; omega
  have CU2 := Lib.hid (fun w' => rcut_any (s.extract 32 44) w' (by rw [ByteArray.size_extract]; unfold maxLen; omega))
  have zD2 : (cutS (s.extract 32 44)).size ≤ 17 := Nat.le_trans (cutS_le _) (by rw [ByteArray.size_extract]; omega)
  obtain ⟨D2, hD2⟩ : ∃ D, cutS (s.extract 32 44) = D := ⟨_, rfl⟩
  obtain ⟨Z2, hZ2⟩ : ∃ Z, s.extract 32 44 = Z := ⟨_, rfl⟩
  rw [hD2, hZ2] at CU2
  rw [hD2] at zD2
  have hE2 : cutS Z2 = D2 := by rw [← hZ2]; exact hD2
  have DE2 := Lib.hid (fun w' => rdecimals_any D2 w' (by unfold maxLen; omega))
  obtain ⟨d2, hd2⟩ : ∃ d, decs D2 = d := ⟨_, rfl⟩
  rw [hd2] at DE2
  have db2 : d2 ≤ 17 := by rw [← hd2]; unfold decs; omega
  have CU3 := Lib.hid (fun w' => rcut_any (s.extract 44 56) w' (by rw [ByteArray.size_extract]; unfold maxLen; omega))
  have zD3 : (cutS (s.extract 44 56)).size ≤ 17 := Nat.le_trans (cutS_le _) (by rw [ByteArray.size_extract]; omega)
  obtain ⟨D3, hD3⟩ : ∃ D, cutS (s.extract 44 56) = D := ⟨_, rfl⟩
  obtain ⟨Z3, hZ3⟩ : ∃ Z, s.extract 44 56 = Z := ⟨_, rfl⟩
  rw [hD3, hZ3] at CU3
  rw [hD3] at zD3
  have hE3 : cutS Z3 = D3 := by rw [← hZ3]; exact hD3
  have DE3 := Lib.hid (fun w' => rdecimals_any D3 w' (by unfold maxLen; omega))
  obtain ⟨d3, hd3⟩ : ∃ d, decs D3 = d := ⟨_, rfl⟩
  rw [hd3] at DE3
  have db3 : d3 ≤ 17 := by rw [← hd3]; unfold decs; omega
  obtain ⟨st, hst⟩ : ∃ st, s.extract 77 80 = st := ⟨_, rfl⟩
  have hst2 : s.extract 77 s.size = st := by rw [h8]; exact hst
  have NB : Hid (∀ t1 t2 t3 c1 c2 c3, PDayIs D1 t1 c1 → Gp.RaIs D2 t2 c2 → Gp.DecIs D3 t3 c3 → badP c1 c2 c3 d1 d2 d3 → NoO s) := Lib.hid fun t1 t2 t3 c1 c2 c3 a1 a2 a3 h => by
    by_cases e1 : c1 = 0
    · by_cases e2 : c2 = 0
      · by_cases e3 : c3 = 0
        · refine no_dig fun g => ?_
          rw [hD1, hD2, hD3, hd1, hd2, hd3] at g
          unfold digP at g
          unfold badP at h
          omega
        · exact no_dec (by rw [hD3]; exact a3) e3
      · exact no_ra (by rw [hD2]; exact a2) e2
    · exact no_day (by rw [hD1]; exact a1) e1
  have YB : Hid (∀ o : Ob, PDayIs D1 o.t 0 → Gp.RaIs D2 o.ra 0 → Gp.DecIs D3 o.dec 0 → ¬ badP 0 0 0 d1 d2 d3 → o = ⟨⟨#[]⟩, st, o.t, o.ra, o.dec, sgOf d3, 9999, 32⟩ → ReadIs s o) := Lib.hid fun o a1 a2 a3 h e => by
    unfold badP at h
    exact ⟨by rw [hD1, hd1]; omega, by rw [hD2, hd2]; omega, by rw [hD3, hd3]; omega, by rw [hD1]; exact a1, by rw [hD2]; exact a2, by rw [hD3]; exact a3, by rw [hD3, hd3, hst]; exact e⟩
  have PD := Lib.hid (fun w' => rpday_any D1 w' (by omega))
  have PR := Lib.hid (fun w' => Gp.rra_any D2 w' (by unfold maxLen; omega))
  have PE := Lib.hid (fun w' => Gp.rdec_any D3 w' (by unfold maxLen; omega))
  have RS := Lib.hid (Res.new w)
  clear hE1 hE2 hE3 hd1 hd2 hd3 hD1 hD2 hD3 zD1 zD2 zD3
  go_enter Tryz.func49, Tryz.ntmps49
  go_wp2_with fail
  go_quiet ((go_at_call 50; first | with_reducible exact quiet_left (CU1.out _) | with_reducible exact quiet_add_left (CU1.out _) | with_reducible exact quiet_left (CU2.out _) | with_reducible exact quiet_add_left (CU2.out _) | with_reducible exact quiet_left (CU3.out _) | with_reducible exact quiet_add_left (CU3.out _)))
  have RS := Lib.hid (RS.out.call (drewN_below2 (Below.refl _ _) nq))
  clear CU1 CU2 CU3 hZ1 hZ2 hZ3 hst2
  go_wp2_with fail
  refine (DE1.out _).mono ?_
  rintro e w1 ⟨rfl, rfl⟩
  go_wp2_with fail
  refine (DE2.out _).mono ?_
  rintro e w1 ⟨rfl, rfl⟩
  go_wp2_with fail
  refine (DE3.out _).mono ?_
  rintro e w1 ⟨rfl, rfl⟩
  clear DE1 DE2 DE3
  go_wp2_with fail
  refine (PD.out _).mono ?_
  rintro e w1 ⟨tt, c1, rfl, h1, hb⟩
  have h1 := Lib.hid h1
  have RS := Lib.hid (RS.out.call hb)
  clear hb PD
  go_wp2_with fail
  refine (PR.out _).mono ?_
  rintro e w2 ⟨rv, c2, rfl, h2, hb⟩
  have h2 := Lib.hid h2
  have RS := Lib.hid (RS.out.call hb)
  clear hb PR
  go_wp2_with fail
  refine (PE.out _).mono ?_
  rintro e w3 ⟨dv, c3, rfl, h3, hb⟩
  have h3 := Lib.hid h3
  have RS := Lib.hid (RS.out.call hb)
  clear hb PE
  have k1 := pday_code h1.out
  have k2 := ra_code h2.out
  have k3 := dec_code h3.out
  obtain ⟨bad, hbad⟩ : ∃ bad : Bool, bad = decide (badP c1 c2 c3 d1 d2 d3) := ⟨_, rfl⟩
  have BAD := Lib.hid hbad
  clear hbad
  go_upto_region 6 with (fail)
  go_cut [76] (fun q wx => q = .bool bad ∧ w3 = wx)
  case first =>
    have yes : badP c1 c2 c3 d1 d2 d3 → bad = true := fun h => BAD.out.trans (decide_eq_true h)
    have not : ¬ badP c1 c2 c3 d1 d2 d3 → bad = false := fun h => BAD.out.trans (decide_eq_false h)
    have YES := Lib.hid yes
    have NOT := Lib.hid not
    unfold badP at YES NOT
    clear yes not NB YB BAD h1 h2 h3
    rcases k1 with rfl | rfl
    · rcases k2 with rfl | rfl
      · rcases k3 with rfl | rfl
        · rcases (show (d1 < 3) ∨ (3 ≤ d1 ∧ 6 < d1) ∨ (3 ≤ d1 ∧ d1 ≤ 6 ∧ d2 < 1) ∨ (3 ≤ d1 ∧ d1 ≤ 6 ∧ 1 ≤ d2 ∧ 3 < d2) ∨ (3 ≤ d1 ∧ d1 ≤ 6 ∧ 1 ≤ d2 ∧ d2 ≤ 3 ∧ 2 < d3) ∨ (3 ≤ d1 ∧ d1 ≤ 6 ∧ 1 ≤ d2 ∧ d2 ≤ 3 ∧ d3 ≤ 2) by omega) with h | h | h | h | h | h
          · have e := Lib.hid (YES.out (by omega))
            have gp : (d1 : Int) < 3 := by omega
            clear YES NOT h db1 db2 db3
            go_wp2_with fail
            go_meet
            exact ⟨by first | (rw [e.out]; rfl) | (rw [e.out]; congr 1; simp; omega) | rw [e.out], by first | rfl | trivial⟩
          · have e := Lib.hid (YES.out (by omega))
            have g1 : ¬ (d1 : Int) < 3 := by omega
            have gp : 6 < (d1 : Int) := by omega
            clear YES NOT h db1 db2 db3
            go_wp2_with fail
            go_meet
            exact ⟨by first | (rw [e.out]; rfl) | (rw [e.out]; congr 1; simp; omega) | rw [e.out], by first | rfl | trivial⟩
          · have e := Lib.hid (YES.out (by omega))
            have g1 : ¬ (d1 : Int) < 3 := by omega
            have g2 : ¬ 6 < (d1 : Int) := by omega
            have gp : (d2 : Int) < 1 := by omega
            clear YES NOT h db1 db2 db3
            go_wp2_with fail
            go_meet
            exact ⟨by first | (rw [e.out]; rfl) | (rw [e.out]; congr 1; simp; omega) | rw [e.out], by first | rfl | trivial⟩
          · have e := Lib.hid (YES.out (by omega))
            have g1 : ¬ (d1 : Int) < 3 := by omega
            have g2 : ¬ 6 < (d1 : Int) := by omega
            have g3 : ¬ (d2 : Int) < 1 := by omega
            have gp : 3 < (d2 : Int) := by omega
            clear YES NOT h db1 db2 db3
            go_wp2_with fail
            go_meet
            exact ⟨by first | (rw [e.out]; rfl) | (rw [e.out]; congr 1; simp; omega) | rw [e.out], by first | rfl | trivial⟩
          · have e := Lib.hid (YES.out (by omega))
            have g1 : ¬ (d1 : Int) < 3 := by omega
            have g2 : ¬ 6 < (d1 : Int) := by omega
            have g3 : ¬ (d2 : Int) < 1 := by omega
            have g4 : ¬ 3 < (d2 : Int) := by omega
            have gp : 2 < (d3 : Int) := by omega
            clear YES NOT h db1 db2 db3
            go_wp2_with fail
            go_meet
            exact ⟨by first | (rw [e.out]; rfl) | (rw [e.out]; congr 1; simp; omega) | rw [e.out], by first | rfl | trivial⟩
          · have e := Lib.hid (NOT.out (by omega))
            have g1 : ¬ (d1 : Int) < 3 := by omega
            have g2 : ¬ 6 < (d1 : Int) := by omega
            have g3 : ¬ (d2 : Int) < 1 := by omega
            have g4 : ¬ 3 < (d2 : Int) := by omega
            have g5 : ¬ 2 < (d3 : Int) := by omega
            clear YES NOT h db1 db2 db3
            go_wp2_with fail
            go_meet
            exact ⟨by first | (rw [e.out]; rfl) | (rw [e.out]; congr 1; simp; omega) | rw [e.out], by first | rfl | trivial⟩
        · have e := Lib.hid (YES.out (by omega))
          clear YES NOT
          go_wp2_with fail
          go_meet
          exact ⟨by first | (rw [e.out]; rfl) | (rw [e.out]; congr 1; simp; omega) | rw [e.out], by first | rfl | trivial⟩
      · have e := Lib.hid (YES.out (by omega))
        clear YES NOT
        go_wp2_with fail
        go_meet
        exact ⟨by first | (rw [e.out]; rfl) | (rw [e.out]; congr 1; simp; omega) | rw [e.out], by first | rfl | trivial⟩
    · have e := Lib.hid (YES.out (by omega))
      clear YES NOT
      go_wp2_with fail
      go_meet
      exact ⟨by first | (rw [e.out]; rfl) | (rw [e.out]; congr 1; simp; omega) | rw [e.out], by first | rfl | trivial⟩
  case rest =>
    obtain ⟨rfl, rfl⟩ := hcut
    cases bad
    · have hn : ¬ badP c1 c2 c3 d1 d2 d3 := of_decide_eq_false BAD.out.symm
      obtain ⟨rfl, rfl, rfl⟩ : c1 = 0 ∧ c2 = 0 ∧ c3 = 0 := by unfold badP at hn; omega
      have d3b : d3 ≤ 2 := by unfold badP at hn; omega
      have Y := Lib.hid (fun o e1 e2 e3 e4 => YB.out o (by rw [e1]; exact h1.out) (by rw [e2]; exact h2.out) (by rw [e3]; exact h3.out) hn e4 : ∀ o : Ob, o.t = tt → o.ra = rv → o.dec = dv → o = ⟨⟨#[]⟩, st, o.t, o.ra, o.dec, sgOf d3, 9999, 32⟩ → ReadIs s o)
      clear hn BAD NB YB h1 h2 h3 k1 k2 k3 db1 db2
      rcases (show d3 = 0 ∨ d3 = 1 ∨ d3 = 2 by omega) with h | h | h
      · have N := Lib.hid (Y.out ⟨⟨#[]⟩, st, tt, rv, dv, 1000000, 9999, 32⟩ rfl rfl rfl (by rw [h]; rfl))
        have g1 : ((d3 : Int) == 1) = false := by rw [h]; rfl
        have g0 : ((d3 : Int) == 0) = true := by rw [h]; rfl
        clear Y d3b h
        have Z6 := Lib.hid (show OY w w3.heap.size ⟨⟨#[]⟩, st, tt, rv, dv, 1000000, 9999, 32⟩ (w3.alloc (.cells (obsC ⟨⟨#[]⟩, st, tt, rv, dv, 1000000, 9999, 32⟩).toArray 23)) from
          ⟨RS.out.call ((Below.refl _ _).alloc (Nat.le_refl _) _), RS.out.lt, by simp, rangeAt_new w3 _ _, there_new w3 _ _ 8 (by show 8 ≤ 8; omega)⟩)
        have BB := Lib.hid Z6.out.res.below
        clear RS
        go_wp2_with (first | (refine wpList_store_new rfl _ (.tmp 16) (.tmp 83) rfl _ _ rfl rfl info8 rfl ?_ ?_; simp [Value.oneCell']) | (refine wpList_load_mid rfl _ (.tmp 16) rfl w3.heap.size 0 rfl (obsC ⟨⟨#[]⟩, st, tt, rv, dv, 1000000, 9999, 32⟩) _ Z6.out.row Tryz.underlying23 rfl info8 ?_) | (refine wpList_store_mid rfl _ (.tmp 2) (.tmp 90) rfl w.heap.size 0 _ rfl rfl ?_ info8 ?_ ?_; exact Z6.out.res.th; simp [Value.oneCell']))
        exact bodyPost_ret (ret_cell_tmp Tryz.results49 _ _ w.heap.size (obsC ⟨⟨#[]⟩, st, tt, rv, dv, 1000000, 9999, 32⟩) _ rfl (World.rangeAt_setCells_same _ _ _ _ Z6.out.res.th) Tryz.underlying23 rfl info8) rfl ⟨⟨⟨#[]⟩, st, tt, rv, dv, 1000000, 9999, 32⟩, true, rfl, Or.inl ⟨rfl, N.out⟩, below_setCells _ (Nat.le_refl _) _ _ _ BB.out⟩
      · have N := Lib.hid (Y.out ⟨⟨#[]⟩, st, tt, rv, dv, 300000, 9999, 32⟩ rfl rfl rfl (by rw [h]; rfl))
        have g1 : ((d3 : Int) == 1) = true := by rw [h]; rfl
        have g0 : ((d3 : Int) == 0) = false := by rw [h]; rfl
        clear Y d3b h
        have Z6 := Lib.hid (show OY w w3.heap.size ⟨⟨#[]⟩, st, tt, rv, dv, 300000, 9999, 32⟩ (w3.alloc (.cells (obsC ⟨⟨#[]⟩, st, tt, rv, dv, 300000, 9999, 32⟩).toArray 23)) from
          ⟨RS.out.call ((Below.refl _ _).alloc (Nat.le_refl _) _), RS.out.lt, by simp, rangeAt_new w3 _ _, there_new w3 _ _ 8 (by show 8 ≤ 8; omega)⟩)
        have BB := Lib.hid Z6.out.res.below
        clear RS
        go_wp2_with (first | (refine wpList_store_new rfl _ (.tmp 16) (.tmp 83) rfl _ _ rfl rfl info8 rfl ?_ ?_; simp [Value.oneCell']) | (refine wpList_load_mid rfl _ (.tmp 16) rfl w3.heap.size 0 rfl (obsC ⟨⟨#[]⟩, st, tt, rv, dv, 300000, 9999, 32⟩) _ Z6.out.row Tryz.underlying23 rfl info8 ?_) | (refine wpList_store_mid rfl _ (.tmp 2) (.tmp 90) rfl w.heap.size 0 _ rfl rfl ?_ info8 ?_ ?_; exact Z6.out.res.th; simp [Value.oneCell']))
        exact bodyPost_ret (ret_cell_tmp Tryz.results49 _ _ w.heap.size (obsC ⟨⟨#[]⟩, st, tt, rv, dv, 300000, 9999, 32⟩) _ rfl (World.rangeAt_setCells_same _ _ _ _ Z6.out.res.th) Tryz.underlying23 rfl info8) rfl ⟨⟨⟨#[]⟩, st, tt, rv, dv, 300000, 9999, 32⟩, true, rfl, Or.inl ⟨rfl, N.out⟩, below_setCells _ (Nat.le_refl _) _ _ _ BB.out⟩
      · have N := Lib.hid (Y.out ⟨⟨#[]⟩, st, tt, rv, dv, 100000, 9999, 32⟩ rfl rfl rfl (by rw [h]; rfl))
        have g1 : ((d3 : Int) == 1) = false := by rw [h]; rfl
        have g0 : ((d3 : Int) == 0) = false := by rw [h]; rfl
        clear Y d3b h
        have Z6 := Lib.hid (show OY w w3.heap.size ⟨⟨#[]⟩, st, tt, rv, dv, 100000, 9999, 32⟩ (w3.alloc (.cells (obsC ⟨⟨#[]⟩, st, tt, rv, dv, 100000, 9999, 32⟩).toArray 23)) from
          ⟨RS.out.call ((Below.refl _ _).alloc (Nat.le_refl _) _), RS.out.lt, by simp, rangeAt_new w3 _ _, there_new w3 _ _ 8 (by show 8 ≤ 8; omega)⟩)
        have BB := Lib.hid Z6.out.res.below
        clear RS
        go_wp2_with (first | (refine wpList_store_new rfl _ (.tmp 16) (.tmp 83) rfl _ _ rfl rfl info8 rfl ?_ ?_; simp [Value.oneCell']) | (refine wpList_load_mid rfl _ (.tmp 16) rfl w3.heap.size 0 rfl (obsC ⟨⟨#[]⟩, st, tt, rv, dv, 100000, 9999, 32⟩) _ Z6.out.row Tryz.underlying23 rfl info8 ?_) | (refine wpList_store_mid rfl _ (.tmp 2) (.tmp 90) rfl w.heap.size 0 _ rfl rfl ?_ info8 ?_ ?_; exact Z6.out.res.th; simp [Value.oneCell']))
        exact bodyPost_ret (ret_cell_tmp Tryz.results49 _ _ w.heap.size (obsC ⟨⟨#[]⟩, st, tt, rv, dv, 100000, 9999, 32⟩) _ rfl (World.rangeAt_setCells_same _ _ _ _ Z6.out.res.th) Tryz.underlying23 rfl info8) rfl ⟨⟨⟨#[]⟩, st, tt, rv, dv, 100000, 9999, 32⟩, true, rfl, Or.inl ⟨rfl, N.out⟩, below_setCells _ (Nat.le_refl _) _ _ _ BB.out⟩
    · have N := Lib.hid (NB.out _ _ _ _ _ _ h1.out h2.out h3.out (of_decide_eq_true BAD.out.symm))
      have BB := Lib.hid RS.out.below
      clear NB YB h1 h2 h3 BAD k1 k2 k3
      go_wp2_with (refine wpList_store_mid rfl _ (.tmp 2) (.tmp 77) rfl w.heap.size 0 _ rfl rfl ?_ info8 ?_ ?_; exact RS.out.th; simp [Value.oneCell'])
      exact bodyPost_ret (ret_cell_tmp Tryz.results49 _ _ w.heap.size (obsC zeroO) _ rfl (World.rangeAt_setCells_same _ _ _ _ RS.out.th) Tryz.underlying23 rfl info8) rfl ⟨zeroO, false, rfl, Or.inr ⟨rfl, rfl, N.out⟩, below_setCells _ (Nat.le_refl _) _ _ _ BB.out⟩
end Ow
end Go.Proofs.YtgodhaphbgllhaaGreatDoor
