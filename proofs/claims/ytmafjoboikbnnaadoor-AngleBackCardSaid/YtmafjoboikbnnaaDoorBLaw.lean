/-
  The walk of AngleBack: texts differ by at most half a unit.
-/
import Derived.Test.YtmafjoboikbnnaaDoorBPl3
import Derived.Test.YtmafjoboikbnnaaDoorTDiffs
import Derived.LoopTactic
namespace Go.Proofs.YtmafjoboikbnnaaDoor
namespace At
open Go.RowKit Lw Ap

theorem raL_len (a : Int) (d : Nat) (hd : d ≤ 6) : (raL a d).length ≤ 180 := by
  obtain ⟨p, u, m, r, n, e1, e2, e3, e4, e5, p1, p2, u1, u2, m1, r1, n1, K⟩ := ra_letters a d hd
  rw [K]
  exact clock_len n d (by omega) (by omega)
theorem decL_len (c : Int) (d : Nat) (hd : d ≤ 6) (h0 : -324000000000 ≤ c) (h1 : c ≤ 324000000000) : (decL c d).length ≤ 181 := by
  obtain ⟨p, u, r, e1, e2, e3, p1, p2, u1, u2, r1, eK⟩ := dec_lets c.natAbs d (by omega) hd
  unfold decL
  rw [eK, List.length_cons]
  have := clock_len r d (by omega) (by omega)
  omega
theorem degL_len (c : Int) (d : Nat) (hd : d ≤ 9) (h0 : -324000000000 ≤ c) (h1 : c ≤ 324000000000) : (degL c d).length ≤ 70 := by
  have nb := degN_le c.natAbs d (by omega) hd
  have q1 : degN c.natAbs d / 10 ^ d ≤ degN c.natAbs d := Nat.div_le_self _ _
  have q2 : degN c.natAbs d % 10 ^ d ≤ degN c.natAbs d := Nat.mod_le _ _
  unfold degL degB
  generalize degN c.natAbs d / 10 ^ d = s at *
  generalize degN c.natAbs d % 10 ^ d = r at *
  have lI := Lib.itoa_length_le (s : Int) (by omega) (by omega)
  have lP := pad_len (r : Int) d (by omega) (by omega) (by omega)
  split <;> simp only [List.length_cons, List.length_append, List.length_nil] <;> omega
/-- A unit of so many digits. -/
def unitI (B k : Nat) : Int := ((B / 10 ^ k : Nat) : Int)
theorem unit_bd (B k : Nat) : 0 ≤ unitI B k ∧ unitI B k ≤ B := ⟨Int.natCast_nonneg _, Int.ofNat_le.2 (Nat.div_le_self _ _)⟩
theorem div_step (B k : Nat) : (unitI B k).tdiv 10 = unitI B (k + 1) := by
  have : B / 10 ^ (k + 1) = B / 10 ^ k / 10 := by rw [Nat.pow_succ, Nat.div_div_eq_div_mul]
  unfold unitI
  rw [this]; rfl

set_option maxRecDepth 100000 in
set_option maxHeartbeats 40000000 in
theorem back_any (a : Int) (X : Nat) (m : Int) (w : World) (hT : Tab w) (hm : w.cell? ⟨0, 0, none⟩ = some (.int .i64 m))
    (wa0 : -9223372036854775808 ≤ a) (wa1 : a ≤ 9223372036854775807) (hX : X < 256) :
    Calls Tryd.prog 5 #[.int .i64 a, .int .u8 X] w fun e w' => e = .returned (.bool true) ∧ Below w.heap.size w w' := by
  have AL := Lib.hid (alive_any m w hT hm)
  have A0 := Lib.hid (AS.start hT hm)
  clear hT hm
  obtain ⟨n, en⟩ : ∃ n, X % 7 = n := ⟨_, rfl⟩
  have hn : n ≤ 6 := by have := Nat.mod_lt X (show 0 < 7 by omega); omega
  have t7 : (X : Int).tmod 7 = (n : Int) := by rw [← en]; rfl
  have bk := Lib.hid (ra_back a n hn)
  have rl := raL_len a n hn
  obtain ⟨c, ec⟩ : ∃ c, a.tmod 324000000001 = c := ⟨_, rfl⟩
  have cb := deg_mod a
  rw [ec] at cb
  obtain ⟨c0, c1⟩ := cb
  have dk := Lib.hid (dec_back c n hn c0 c1)
  have dl := decL_len c n hn c0 c1
  have gk := Lib.hid (deg_back c (n + 3) (by omega) (by omega) c0 c1)
  have gl := degL_len c (n + 3) (by omega) c0 c1
  have CR : ∀ w', Tab w' → Calls Tryd.prog 16 #[.int .i64 a, .int .i64 n] w' fun e w'' => e = .returned (.tuple #[.string ⟨(raL a n).toArray⟩, .int .i64 0]) ∧ Below w'.heap.size w' w'' := fun w' h => ratext_any a n w' h wa0 wa1 hn
  have CD : ∀ w', Tab w' → Calls Tryd.prog 17 #[.int .i64 c, .int .i64 n] w' fun e w'' => e = .returned (.tuple #[.string ⟨(decL c n).toArray⟩, .int .i64 0]) ∧ Below w'.heap.size w' w'' := fun w' h => dectext_any c n w' h c0 c1 hn
  have CG : ∀ w', Tab w' → Calls Tryd.prog 18 #[.int .i64 c, .int .i64 ((n : Int) + 3)] w' fun e w'' => e = .returned (.tuple #[.string ⟨(degL c (n + 3)).toArray⟩, .int .i64 0]) ∧ Below w'.heap.size w' w'' := fun w' h => degtext_any c (n + 3) w' h (by omega) (by omega) (by omega) (by omega)
  have s1 : (⟨(raL a n).toArray⟩ : ByteArray).size ≤ 1000 := by rw [size_mk]; omega
  have s2 : (⟨(decL c n).toArray⟩ : ByteArray).size ≤ 1000 := by rw [size_mk]; omega
  have s3 : (⟨(degL c (n + 3)).toArray⟩ : ByteArray).size ≤ 100 := by rw [size_mk]; omega
  generalize (⟨(raL a n).toArray⟩ : ByteArray) = S1 at *
  generalize (⟨(decL c n).toArray⟩ : ByteArray) = S2 at *
  generalize (⟨(degL c (n + 3)).toArray⟩ : ByteArray) = S3 at *
  clear rl dl gl en
  go_enter Tryd.func5, Tryd.ntmps5
  go_wp2_with fail
  go_at_call 13
  refine AL.out.mono ?_
  rintro e w1 ⟨rfl, b1⟩
  have A1 := Lib.hid (A0.out.call b1)
  clear AL A0 b1
  go_wp2_with fail
  go_loop [7, 8] (fun u i => ∃ k : Nat, k ≤ n ∧ i = .int .i64 k ∧ u = .int .i64 (unitI 1000000 k)) (fun _ i => n - (intOf i).toNat)
  case atStart => exact ⟨0, Nat.zero_le _, rfl, rfl⟩
  case round =>
    obtain ⟨k, hk, rfl, rfl⟩ := hrel
    by_cases hlt : k < n
    · have ds := div_step 1000000 k
      obtain ⟨ub0, ub1⟩ := unit_bd 1000000 (k + 1)
      go_wp2
      go_round
      case rel => exact ⟨k + 1, by omega, by go_num, rfl⟩
      case measure => simp [intOf]; omega
    · obtain rfl : k = n := by omega
      obtain ⟨v, H1, v0, v1, v2, v3⟩ := bk.out
      obtain ⟨h, H2, h0, h1, h2, h3⟩ := dk.out
      obtain ⟨l, H3, l0, l1, l2, l3⟩ := gk.out
      have un := (units k hn).2.2.2.2.2
      have u6 : k = 6 → 1000000 / 10 ^ k = 1 := fun q => by rw [q]
      have ue : unitI 1000000 k = ((1000000 / 10 ^ k : Nat) : Int) := rfl
      rw [ue]
      clear ue
      generalize 1000000 / 10 ^ k = e at *
      have PR := Lib.hid (fun w' => ra_lit S1 v 0 H1 s1 w')
      have PD := Lib.hid (fun w' => dec_lit S2 h 0 H2 s2 w')
      have PG := Lib.hid (fun w' => deg_lit S3 l 0 H3 s3 m w')
      have DD := Lib.hid (fun w' => Turns.diff_any v a w' v0 v1 wa0 wa1)
      have dlo := dif_lo v a
      generalize Pl.dif v a = D at *
      obtain ⟨d0, d1⟩ := dlo
      have g1 : ¬ 15 * (e : Int) < 2 * D := by omega
      have g2 : ¬ 2 * D < -15 * (e : Int) := by omega
      have g3 : ¬ (e : Int) < 2 * (h - c) := by omega
      have g4 : ¬ 2 * (h - c) < -(e : Int) := by omega
      have h6 : ((k : Int) == 6) = false ∨ (((k : Int) == 6) = true ∧ (h != c) = false) := by
        by_cases q : k = 6
        · have e1 := u6 q
          have hc : h = c := by omega
          exact Or.inr ⟨by simp [q], by simp [hc]⟩
        · exact Or.inl (beq_eq_false_iff_ne.2 (by omega))
      clear u6 bk dk gk H1 H2 H3 s1 s2 s3 hlt v2 v3 h2 h3
      go_wp2_with fail
      go_at_call 16
      refine (CR _ A1.out.ts.tab).mono ?_
      rintro e2 w2 ⟨rfl, b2⟩
      have A2 := Lib.hid (A1.out.call b2)
      clear A1 b2 CR
      go_wp2_with fail
      go_at_call 7
      refine (PR.out _).mono ?_
      rintro e3 w3 ⟨rfl, b3⟩
      have A3 := Lib.hid (A2.out.call b3)
      clear A2 b3 PR
      go_wp2_with fail
      go_at_call 15
      refine (DD.out _).mono ?_
      rintro e4 w4 ⟨rfl, rfl⟩
      clear DD
      go_wp2_with fail
      go_at_call 17
      refine (CD _ A3.out.ts.tab).mono ?_
      rintro e5 w5 ⟨rfl, b5⟩
      have A5 := Lib.hid (A3.out.call b5)
      clear A3 b5 CD
      go_wp2_with fail
      go_at_call 9
      refine (PD.out _).mono ?_
      rintro e6 w6 ⟨rfl, b6⟩
      have A6 := Lib.hid (A5.out.call b6)
      clear A5 b6 PD
      obtain ⟨wd0, wd⟩ := unit_bd 3600000000 (k + 3)
      replace l2 : 2 * (l - c) ≤ unitI 3600000000 (k + 3) + 2 := l2
      replace l3 : -unitI 3600000000 (k + 3) - 2 ≤ 2 * (l - c) := l3
      rcases h6 with h6 | ⟨h6, h7⟩
      all_goals
        go_wp2_with fail
        go_at_call 18
        refine (CG _ A6.out.ts.tab).mono ?_
        rintro e7 w7 ⟨rfl, b7⟩
        have A7 := Lib.hid (A6.out.call b7)
        clear A6 b7 CG
        go_wp2_with fail
        go_at_call 11
        refine (PG.out _ A7.out.cell).mono ?_
        rintro e8 w8 ⟨rfl, b8⟩
        have A8 := Lib.hid (A7.out.call b8)
        clear A7 b8 PG
        go_wp2_with fail
        go_loop [24, 25] (fun u i => ∃ j : Nat, j ≤ k + 3 ∧ i = .int .i64 j ∧ u = .int .i64 (unitI 3600000000 j)) (fun _ i => k + 3 - (intOf i).toNat)
        case atStart => exact ⟨0, Nat.zero_le _, rfl, rfl⟩
        case round =>
          obtain ⟨j, hj, rfl, rfl⟩ := hrel
          by_cases hlt : j < k + 3
          · have ds := div_step 3600000000 j
            obtain ⟨ub0, ub1⟩ := unit_bd 3600000000 (j + 1)
            have jl : (j : Int) < k + 3 := by omega
            go_wp2
            go_round
            case rel => exact ⟨j + 1, by omega, by go_num, rfl⟩
            case measure => simp [intOf]; omega
          · obtain rfl : j = k + 3 := by omega
            generalize unitI 3600000000 (k + 3) = W at *
            have jl : ¬ (((k + 3 : Nat) : Int)) < k + 3 := by omega
            have q1 : 2 * (l - c) ≤ W + 2 := l2
            have q2 : -W - 2 ≤ 2 * (l - c) := l3
            go_wp2
            go_ret
            exact ⟨rfl, A8.out.ts.below⟩
end At
end Go.Proofs.YtmafjoboikbnnaaDoor
