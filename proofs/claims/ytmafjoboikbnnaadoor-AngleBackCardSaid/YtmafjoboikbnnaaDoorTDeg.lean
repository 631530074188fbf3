/-
  Texts of degrees: DegText of package angle.
-/
import Derived.Test.YtmafjoboikbnnaaDoorTRa
import Derived.Deep.RegionHeld3
namespace Go.Proofs.YtmafjoboikbnnaaDoor
namespace At
open Go.RowKit Lw Ap

theorem size_mk' (l : List UInt8) : (⟨l.toArray⟩ : ByteArray).size = l.length := by simp [ByteArray.size]
/-- What a drawn region of calls that make texts needs of memory. -/
structure TS (w w' : World) : Prop where
  tab : Tab w'
  below : Below w.heap.size w w'
theorem TS.call {w a b : World} (h : TS w a) (hb : Below a.heap.size a b) : TS w b := ⟨h.tab.below hb, below_then h.below hb⟩
theorem TS.drew {w a : World} (h : TS w a) : TS w a.drew := h.call ((Below.refl _ a).drew)
theorem TS.drewN {w a : World} (h : TS w a) (n : Nat) : TS w (a.drewN n) := h.call (drewN_below2 (Below.refl _ a) n)

def degN (m d : Nat) : Nat := if 8 < d then rndN (m * 5) 18 else rndN m (3600000000 / 10 ^ d)
/-- The digits of degrees. -/
def degB (n d : Nat) : List UInt8 := Lib.itoa ((n / 10 ^ d : Nat) : Int) ++ 46 :: padL ((n % 10 ^ d : Nat) : Int) d
/-- The text of degrees. -/
def degL (a : Int) (d : Nat) : List UInt8 := if a < 0 ∧ 0 < degN a.natAbs d then 45 :: degB (degN a.natAbs d) d else degB (degN a.natAbs d) d
theorem degN_le (m d : Nat) (hm : m ≤ 1296000000000) (hd : d ≤ 9) : degN m d ≤ 1296000000001 := by
  unfold degN
  split
  · have h := rndN_eq (m * 5) 18
    unfold rndI at h
    split at h <;> omega
  · have hp : ∀ d : Nat, d ≤ 9 → ¬ 8 < d → 1 ≤ 3600000000 / 10 ^ d := by decide
    have := rndN_le m (3600000000 / 10 ^ d) (hp d hd (by assumption))
    omega

set_option maxRecDepth 100000 in
set_option maxHeartbeats 8000000 in
theorem degtext_any (a : Int) (d : Nat) (w : World) (hT : Tab w) (h0 : -1296000000000 ≤ a) (h1 : a ≤ 1296000000000) (hd1 : 1 ≤ d) (hd : d ≤ 9) :
    Calls Tryd.prog 18 #[.int .i64 a, .int .i64 d] w fun e w' => e = .returned (.tuple #[.string ⟨(degL a d).toArray⟩, .int .i64 0]) ∧ Below w.heap.size w w' := by
  obtain ⟨m, em⟩ : ∃ m : Nat, a.natAbs = m := ⟨_, rfl⟩
  have mx : max a (-a) = (m : Int) := by omega
  have nb := degN_le m d (by omega) hd
  have mb : m ≤ 1296000000000 := by omega
  have K1 : Hid (a < 0 → 0 < degN m d → degL a d = 45 :: degB (degN m d) d) := Lib.hid fun g1 g2 => by unfold degL; rw [em, if_pos ⟨g1, g2⟩]
  have K2 : Hid (¬ (a < 0 ∧ 0 < degN m d) → degL a d = degB (degN m d) d) := Lib.hid fun g => by unfold degL; rw [em, if_neg g]
  have hp9 : ∀ d : Nat, d ≤ 9 → 1 ≤ 10 ^ d ∧ 10 ^ d ≤ 1000000000 := by decide
  obtain ⟨p1, p2⟩ := hp9 d hd
  have NT : ∀ w : World, Calls Tryd.prog 24 #[.int .i64 d] w fun e w' => e = .returned (.int .i64 ((10 ^ d : Nat) : Int)) ∧ w = w' := fun w => ten_any d w (by omega)
  have R8 : d ≤ 8 → ∃ u : Nat, u ≤ 3600000000 ∧ (3600000000 : Int).tdiv ((10 ^ d : Nat) : Int) = (u : Int) ∧ (∀ w : World, Calls Tryd.prog 32 #[.int .i64 (m : Int), .int .i64 (u : Int)] w fun e w' => e = .returned (.int .i64 (degN m d : Int)) ∧ ∃ k, w' = w.drewN k) := fun h8 => by
    have hp : ∀ d : Nat, d ≤ 8 → 1 ≤ 3600000000 / 10 ^ d ∧ 3600000000 / 10 ^ d ≤ 3600000000 := by decide
    obtain ⟨u1, u2⟩ := hp d h8
    refine ⟨3600000000 / 10 ^ d, u2, rfl, fun w => ?_⟩
    have e : degN m d = rndN m (3600000000 / 10 ^ d) := if_neg (by omega)
    rw [e, rndN_eq]
    exact round_any m _ w (by omega) (by omega) (by omega)
  have R9 : d = 9 → ∀ w : World, Calls Tryd.prog 32 #[.int .i64 ((m : Int) * 5), .int .i64 18] w fun e w' => e = .returned (.int .i64 (degN m d : Int)) ∧ ∃ k, w' = w.drewN k := fun h9 w => by
    have e : degN m d = rndN (m * 5) 18 := if_pos (by omega)
    rw [e, rndN_eq, show (m : Int) * 5 = ((m * 5 : Nat) : Int) by simp]
    exact round_any (m * 5) 18 w (by omega) (by omega) (by omega)
  have hB0 : ∀ n, degB n d = Lib.itoa ((n / 10 ^ d : Nat) : Int) ++ 46 :: padL ((n % 10 ^ d : Nat) : Int) d := fun _ => rfl
  generalize degN m d = n at *
  have hB := Lib.hid (hB0 n)
  clear hB0 hp9
  generalize 10 ^ d = p at *
  have q1 : n / p ≤ n := Nat.div_le_self _ _
  have q2 : n % p ≤ n := Nat.mod_le _ _
  have t1 : (n : Int).tdiv (p : Int) = ((n / p : Nat) : Int) := rfl
  have t2 : (n : Int).tmod (p : Int) = ((n % p : Nat) : Int) := rfl
  generalize n / p = s at *
  generalize n % p = r at *
  have hTS : TS w w := ⟨hT, Below.refl _ _⟩
  have FI : ∀ w', TS w w' → Calls Tryd.prog 36 #[.int .i64 (s : Int), .int .i64 10] w' fun e w'' => e = .returned (.string ⟨(Lib.itoa (s : Int)).toArray⟩) ∧ Below w'.heap.size w' w'' := fun w' h =>
    (Tryd.strconv_FormatInt_10 (s : Int) (by omega) (by omega) w' h.tab).mono fun _ _ ⟨x, k, os, y⟩ => ⟨x, by rw [y]; exact below_grow w' k os⟩
  have PD : ∀ w', TS w w' → Calls Tryd.prog 37 #[.int .i64 (r : Int), .int .i64 d] w' fun e w'' => e = .returned (.string ⟨(padL (r : Int) d).toArray⟩) ∧ Below w'.heap.size w' w'' := fun w' h => pad_any r d w' h.tab (by omega) (by omega) (by omega)
  have lI := Lib.itoa_length_le (s : Int) (by omega) (by omega)
  have lP := pad_len (r : Int) d (by omega) (by omega) (by omega)
  generalize Lib.itoa (s : Int) = L at *
  generalize padL (r : Int) d = q at *
  have sa := str_app L [46]
  have sb : ((⟨(L ++ [46]).toArray⟩ : ByteArray) ++ ⟨q.toArray⟩) = ⟨(L ++ 46 :: q).toArray⟩ := by rw [str_app, List.append_assoc]; rfl
  have sc : ((⟨#[45]⟩ : ByteArray) ++ ⟨(L ++ 46 :: q).toArray⟩) = ⟨(45 :: (L ++ 46 :: q)).toArray⟩ := str_app [45] (L ++ 46 :: q)
  have p0 : (p : Int) ≠ 0 := by omega
  have p0n : ¬ p = 0 := by omega
  have y1 : ¬ 9223372036854775807 < L.length + 1 := by omega
  have y2 : ¬ 9223372036854775807 ≤ L.length := by omega
  have y3 : ¬ 9223372036854775807 < L.length + 1 + q.length := by omega
  have z1 : (⟨L.toArray⟩ : ByteArray).size + (⟨#[46]⟩ : ByteArray).size ≤ 9223372036854775807 := by rw [size_mk' L]; show L.length + 1 ≤ _; omega
  have z2 : (⟨(L ++ [46]).toArray⟩ : ByteArray).size + (⟨q.toArray⟩ : ByteArray).size ≤ 9223372036854775807 := by rw [size_mk' (L ++ [46]), size_mk' q, List.length_append]; simp only [List.length_cons, List.length_nil]; omega
  have a2 : ∀ w' : World, (Op.stringOp .add (⟨L.toArray⟩ : ByteArray) ⟨#[46]⟩).run Tryd.prog w' = .ok (.string ⟨(L ++ [46]).toArray⟩) w' := fun w' => by rw [run_string_add_sum (P := Tryd.prog) (w := w') _ _ z1]; exact congrArg (fun x => Result.ok (Value.string x) w') sa
  have a3 : ∀ w' : World, (Op.stringOp .add (⟨(L ++ [46]).toArray⟩ : ByteArray) ⟨q.toArray⟩).run Tryd.prog w' = .ok (.string ⟨(L ++ 46 :: q).toArray⟩) w' := fun w' => by rw [run_string_add_sum (P := Tryd.prog) (w := w') _ _ z2, sb]
  clear z1 z2
  have ws : IntKind.i64.wrap (s : Int) = s := IntWalk.i64_in _ (by omega)
  have wr : IntKind.i64.wrap (r : Int) = r := IntWalk.i64_in _ (by omega)
  have m1 : ¬ (d : Int) < 1 := by omega
  have m9 : ¬ (9 : Int) < d := by omega
  clear em hT
  by_cases h8 : d ≤ 8
  · obtain ⟨u, ub, tu, NR⟩ := R8 h8
    have m8 : ¬ (8 : Int) < d := by omega
    clear R8 R9 h8
    rcases (show (a < 0 ∧ 0 < n) ∨ (a < 0 ∧ n = 0) ∨ ¬ a < 0 by omega) with ⟨g1, g2⟩ | ⟨g1, g2⟩ | g1
    · have g3 : (0 : Int) < n := by omega
      have K := Lib.hid ((K1.out g1 g2).trans (congrArg _ hB.out))
      clear K1 K2 g2
      go_enter Tryd.func18, Tryd.ntmps18
      go_wp2_with (first | (go_at_call 24; refine (NT _).mono ?_; rintro e w' ⟨rfl, rfl⟩) | (go_at_call 32; refine (NR _).mono ?_; rintro e w' ⟨rfl, k, rfl⟩))
      have hS := TS.drewN hTS k
      go_region_held3 (fun w' => TS w w') (first | exact TS.drew hS | assumption) (first | (go_at_call 36; refine (FI _ (by assumption)).mono ?_; rintro e w' ⟨rfl, hb⟩; have hk := TS.call (by assumption) hb; clear hb) | (go_at_call 37; refine (PD _ (by assumption)).mono ?_; rintro e w' ⟨rfl, hb⟩; have hk := TS.call (by assumption) hb; clear hb))
      all_goals
        go_wp2_with fail
        go_ret2
        exact ⟨by rw [K.out]; rfl, TS.below (by assumption)⟩
    · have K := Lib.hid ((K2.out (by omega)).trans hB.out)
      have g3 : ¬ (0 : Int) < n := by omega
      clear K1 K2 g2
      go_enter Tryd.func18, Tryd.ntmps18
      go_wp2_with (first | (go_at_call 24; refine (NT _).mono ?_; rintro e w' ⟨rfl, rfl⟩) | (go_at_call 32; refine (NR _).mono ?_; rintro e w' ⟨rfl, k, rfl⟩))
      have hS := TS.drewN hTS k
      go_region_held3 (fun w' => TS w w') (first | exact TS.drew hS | assumption) (first | (go_at_call 36; refine (FI _ (by assumption)).mono ?_; rintro e w' ⟨rfl, hb⟩; have hk := TS.call (by assumption) hb; clear hb) | (go_at_call 37; refine (PD _ (by assumption)).mono ?_; rintro e w' ⟨rfl, hb⟩; have hk := TS.call (by assumption) hb; clear hb))
      all_goals
        go_wp2_with fail
        go_ret2
        exact ⟨by rw [K.out]; rfl, TS.below (by assumption)⟩
    · have K := Lib.hid ((K2.out (by omega)).trans hB.out)
      clear K1 K2
      go_enter Tryd.func18, Tryd.ntmps18
      go_wp2_with (first | (go_at_call 24; refine (NT _).mono ?_; rintro e w' ⟨rfl, rfl⟩) | (go_at_call 32; refine (NR _).mono ?_; rintro e w' ⟨rfl, k, rfl⟩))
      have hS := TS.drewN hTS k
      go_region_held3 (fun w' => TS w w') (first | exact TS.drew hS | assumption) (first | (go_at_call 36; refine (FI _ (by assumption)).mono ?_; rintro e w' ⟨rfl, hb⟩; have hk := TS.call (by assumption) hb; clear hb) | (go_at_call 37; refine (PD _ (by assumption)).mono ?_; rintro e w' ⟨rfl, hb⟩; have hk := TS.call (by assumption) hb; clear hb))
      all_goals
        go_wp2_with fail
        go_ret2
        exact ⟨by rw [K.out]; rfl, TS.below (by assumption)⟩
  · have NR := R9 (by omega)
    have m8 : (8 : Int) < d := by omega
    clear R8 R9 h8
    rcases (show (a < 0 ∧ 0 < n) ∨ (a < 0 ∧ n = 0) ∨ ¬ a < 0 by omega) with ⟨g1, g2⟩ | ⟨g1, g2⟩ | g1
    · have g3 : (0 : Int) < n := by omega
      have K := Lib.hid ((K1.out g1 g2).trans (congrArg _ hB.out))
      clear K1 K2 g2
      go_enter Tryd.func18, Tryd.ntmps18
      go_wp2_with (first | (go_at_call 24; refine (NT _).mono ?_; rintro e w' ⟨rfl, rfl⟩) | (go_at_call 32; refine (NR _).mono ?_; rintro e w' ⟨rfl, k, rfl⟩))
      have hS := TS.drewN hTS k
      go_region_held3 (fun w' => TS w w') (first | exact TS.drew hS | assumption) (first | (go_at_call 36; refine (FI _ (by assumption)).mono ?_; rintro e w' ⟨rfl, hb⟩; have hk := TS.call (by assumption) hb; clear hb) | (go_at_call 37; refine (PD _ (by assumption)).mono ?_; rintro e w' ⟨rfl, hb⟩; have hk := TS.call (by assumption) hb; clear hb))
      all_goals
        go_wp2_with fail
        go_ret2
        exact ⟨by rw [K.out]; rfl, TS.below (by assumption)⟩
    · have K := Lib.hid ((K2.out (by omega)).trans hB.out)
      have g3 : ¬ (0 : Int) < n := by omega
      clear K1 K2 g2
      go_enter Tryd.func18, Tryd.ntmps18
      go_wp2_with (first | (go_at_call 24; refine (NT _).mono ?_; rintro e w' ⟨rfl, rfl⟩) | (go_at_call 32; refine (NR _).mono ?_; rintro e w' ⟨rfl, k, rfl⟩))
      have hS := TS.drewN hTS k
      go_region_held3 (fun w' => TS w w') (first | exact TS.drew hS | assumption) (first | (go_at_call 36; refine (FI _ (by assumption)).mono ?_; rintro e w' ⟨rfl, hb⟩; have hk := TS.call (by assumption) hb; clear hb) | (go_at_call 37; refine (PD _ (by assumption)).mono ?_; rintro e w' ⟨rfl, hb⟩; have hk := TS.call (by assumption) hb; clear hb))
      all_goals
        go_wp2_with fail
        go_ret2
        exact ⟨by rw [K.out]; rfl, TS.below (by assumption)⟩
    · have K := Lib.hid ((K2.out (by omega)).trans hB.out)
      clear K1 K2
      go_enter Tryd.func18, Tryd.ntmps18
      go_wp2_with (first | (go_at_call 24; refine (NT _).mono ?_; rintro e w' ⟨rfl, rfl⟩) | (go_at_call 32; refine (NR _).mono ?_; rintro e w' ⟨rfl, k, rfl⟩))
      have hS := TS.drewN hTS k
      go_region_held3 (fun w' => TS w w') (first | exact TS.drew hS | assumption) (first | (go_at_call 36; refine (FI _ (by assumption)).mono ?_; rintro e w' ⟨rfl, hb⟩; have hk := TS.call (by assumption) hb; clear hb) | (go_at_call 37; refine (PD _ (by assumption)).mono ?_; rintro e w' ⟨rfl, hb⟩; have hk := TS.call (by assumption) hb; clear hb))
      all_goals
        go_wp2_with fail
        go_ret2
        exact ⟨by rw [K.out]; rfl, TS.below (by assumption)⟩
end At
end Go.Proofs.YtmafjoboikbnnaaDoor
