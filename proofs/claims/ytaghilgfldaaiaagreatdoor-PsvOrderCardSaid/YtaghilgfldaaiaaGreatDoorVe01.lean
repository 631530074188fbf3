/-
  Lemmas and walks, texts joined: PTen, TPad, MTen, MPad, MText, OMag, ORTxt, MTDAny, VFld2, VSpl, VTab, OR15, VDec, VRDeg, ORLine, VRFld, ORMagn, OApp, VOrPl.
-/
import Derived.Deep.QuietTactic
import Derived.BigQuiet
import Derived.WalkLawsBesides
import Derived.WalkSpells
import Derived.Lib.SmallJoins
import Derived.Lib.LaidTab
import Derived.Laws.Concat
import Derived.Lib.Join
import Derived.Lib.Repeat
import Derived.Lib.ItoaLen
import Derived.Sort.Grow
import Derived.Deep.OwnRows
import Derived.Deep.RegionHeld3
import Derived.StillTailTactics
import Derived.Lib.SplitLaws
import Derived.RegionTactic
import Derived.BigRegion
import Derived.Deep.DeepCutAuto
import Derived.OwnWalk
import Derived.Test.YtaghilgfldaaiaaGreatDoorVb01
import Derived.Test.YtaghilgfldaaiaaGreatDoorVb02
import Derived.Test.YtaghilgfldaaiaaGreatDoorVb03
import Derived.Test.YtaghilgfldaaiaaGreatDoorVb04
import Derived.Test.YtaghilgfldaaiaaGreatDoorVb05
import Derived.Test.YtaghilgfldaaiaaGreatDoorVb06
import Derived.Test.YtaghilgfldaaiaaGreatDoorVb07
import Derived.Test.YtaghilgfldaaiaaGreatDoorVb08
import Derived.Test.YtaghilgfldaaiaaGreatDoorVb09
set_option linter.unusedSimpArgs false
set_option linter.unusedVariables false
/-
  Powers of ten, rounding, the common divisor: package angle and the reference.
-/
namespace Go.Proofs.YtaghilgfldaaiaaGreatDoor
namespace Gp
open Go.RowKit Lw

set_option maxHeartbeats 400000 in
theorem rten_any (n : Nat) (w : World) (hn : n ≤ 18) :
    Calls Tryz.prog 90 #[.int .i64 n] w fun e w' => e = .returned (.int .i64 (tenI n)) ∧ w = w' := by
  go_enter Tryz.func90, Tryz.ntmps90
  go_wp2
  go_loop [3, 4] (fun p i => ∃ k : Nat, k ≤ n ∧ i = .int .i64 k ∧ p = .int .i64 (tenI k)) (fun _ i => n - (intOf i).toNat)
  case atStart => exact ⟨0, Nat.zero_le _, rfl, rfl⟩
  case round =>
    obtain ⟨k, hk, rfl, rfl⟩ := hrel
    by_cases hlt : k < n
    · have nb := tenI_17 k (by omega)
      have HS := Lib.hid (show tenI (k + 1) = 10 * tenI k by rw [tenI_s]; omega)
      go_wp2
      go_round
      case rel => exact ⟨k + 1, by omega, by go_num, val_i HS.out.symm⟩
      case measure => simp [intOf]; omega
    · obtain rfl : k = n := by omega
      go_wp2
      go_ret
      exact ⟨rfl, rfl⟩

end Gp
end Go.Proofs.YtaghilgfldaaiaaGreatDoor
/-
  Texts of numbers: pad, glue and clock of package angle.
-/
namespace Go.Proofs.YtaghilgfldaaiaaGreatDoor
namespace Gt
open Go.RowKit Lw Gp

abbrev s3 (a b c : List UInt8) : List Value := [.string ⟨a.toArray⟩, .string ⟨b.toArray⟩, .string ⟨c.toArray⟩]

end Gt
end Go.Proofs.YtaghilgfldaaiaaGreatDoor
/-
  Powers of ten: package moment and the reference.
-/
namespace Go.Proofs.YtaghilgfldaaiaaGreatDoor
namespace Ap
open Go.RowKit Lw

set_option maxHeartbeats 400000 in
theorem rten_any (n : Nat) (w : World) (hn : n ≤ 18) :
    Calls Tryz.prog 135 #[.int .i64 n] w fun e w' => e = .returned (.int .i64 (tenI n)) ∧ w = w' := by
  go_enter Tryz.func135, Tryz.ntmps135
  go_wp2
  go_loop [3, 4] (fun p i => ∃ k : Nat, k ≤ n ∧ i = .int .i64 k ∧ p = .int .i64 (tenI k)) (fun _ i => n - (intOf i).toNat)
  case atStart => exact ⟨0, Nat.zero_le _, rfl, rfl⟩
  case round =>
    obtain ⟨k, hk, rfl, rfl⟩ := hrel
    by_cases hlt : k < n
    · have nb := tenI_17 k (by omega)
      have HS := Lib.hid (show tenI (k + 1) = 10 * tenI k by rw [tenI_s]; omega)
      go_wp2
      go_round
      case rel => exact ⟨k + 1, by omega, by go_num, val_i HS.out.symm⟩
      case measure => simp [intOf]; omega
    · obtain rfl : k = n := by omega
      go_wp2
      go_ret
      exact ⟨rfl, rfl⟩
end Ap
end Go.Proofs.YtaghilgfldaaiaaGreatDoor
/-
  Texts of numbers: pad of package moment, digitsOf of the reference, and the digits that both write.
-/
namespace Go.Proofs.YtaghilgfldaaiaaGreatDoor
namespace At
open Go.RowKit Lw Ap

theorem dig_ext : ∀ m, m < 10 → (⟨#[48, 49, 50, 51, 52, 53, 54, 55, 56, 57]⟩ : ByteArray).extract m (m + 1) = ⟨#[dg m]⟩ := by decide
theorem str_cons (c : UInt8) (l : List UInt8) : ((⟨#[c]⟩ : ByteArray) ++ ⟨l.toArray⟩) = ⟨(c :: l).toArray⟩ := str_app [c] l
set_option maxRecDepth 100000 in
set_option maxHeartbeats 2000000 in
theorem rdigs_any (n k : Nat) (w : World) (hn : n ≤ 1000000000000000000) (hk : k ≤ 20) :
    Calls Tryz.prog 88 #[.int .i64 n, .int .i64 k] w fun e w' => e = .returned (.string ⟨(decL n k).toArray⟩) ∧ w = w' := by
  go_enter Tryz.func88, Tryz.ntmps88
  go_wp2
  go_loop [0, 6, 7] (fun v s i => ∃ j u : Nat, ∃ S : ByteArray, j ≤ k ∧ i = .int .i64 j ∧ s = .string S ∧ v = .int .i64 u ∧ u ≤ 1000000000000000000 ∧ Hid (u = n / 10 ^ j ∧ S = ⟨(decL n j).toArray⟩) ∧ S.size ≤ 20) (fun _ _ i => k - (intOf i).toNat)
  case atStart => exact ⟨0, n, ⟨#[]⟩, Nat.zero_le _, rfl, rfl, rfl, hn, Lib.hid ⟨by simp, rfl⟩, by decide⟩
  case round =>
    obtain ⟨j, u, S, hj, rfl, rfl, rfl, hu, D, hS⟩ := hrel
    by_cases hlt : j < k
    · obtain ⟨m, hm⟩ : ∃ m, m = u % 10 := ⟨_, rfl⟩
      obtain ⟨u', hu'⟩ : ∃ u', u' = u / 10 := ⟨_, rfl⟩
      have r1 : (u : Int) % 10 = (m : Int) := by omega
      have r2 : (u : Int) / 10 = (u' : Int) := by omega
      have m0 : m < 10 := by omega
      have de := dig_ext m m0
      have D2 := Lib.hid (show u' = n / 10 ^ (j + 1) ∧ (⟨#[dg m]⟩ ++ S : ByteArray) = ⟨(decL n (j + 1)).toArray⟩ from ⟨by rw [hu', D.out.1, Nat.div_div_eq_div_mul, Nat.pow_succ], by rw [D.out.2, str_cons, dec_cons, hm, D.out.1]⟩)
      have sz : (⟨#[dg m]⟩ ++ S : ByteArray).size ≤ 20 := by
        rw [D2.out.2]
        have : (⟨(decL n (j + 1)).toArray⟩ : ByteArray).size = (decL n (j + 1)).length := by simp [ByteArray.size]
        rw [this, decL_len]; omega
      have u0 : u' ≤ 1000000000000000000 := by omega
      have i1 : (m : Int) ≤ 9 := by omega
      have i0 : 0 ≤ (m : Int) := by omega
      clear hm hu' m0
      go_wp2
      go_round
      case rel => exact ⟨j + 1, u', _, by omega, by go_num, rfl, rfl, u0, D2, sz⟩
      case measure => simp [intOf]; omega
    · obtain rfl : j = k := by omega
      have E := Lib.hid D.out.2
      go_wp2
      go_ret
      exact ⟨by rw [E.out]; rfl, rfl⟩
end At
end Go.Proofs.YtaghilgfldaaiaaGreatDoor
/-
  The texts of times: Text of package moment and of the reference.
-/
namespace Go.Proofs.YtaghilgfldaaiaaGreatDoor
namespace At
open Go.RowKit Lw Ap Go.Proofs.YtaghilgfldaaiaaGreatDoor.Mp Go.Proofs.YtaghilgfldaaiaaGreatDoor.Mw

theorem app_left (a b c : ByteArray) : a ++ (b ++ c) ++ (⟨#[90]⟩ : ByteArray) = a ++ b ++ c ++ (⟨#[90]⟩ : ByteArray) := by rw [← ByteArray.append_assoc]
theorem digs_any (n k : Nat) (w : World) (hn : n < 10 ^ 6) (hk : k ≤ 6) :
    Calls Tryz.prog 88 #[.int .i64 n, .int .i64 k] w fun e w' => e = .returned (.string (dS n k)) ∧ w = w' := rdigs_any n k w (by omega) (by omega)
theorem digs2 (n : Nat) (w : World) (hn : n < 10 ^ 6) : Calls Tryz.prog 88 #[.int .i64 n, .int .i64 2] w fun e w' => e = .returned (.string (dS n 2)) ∧ w = w' := digs_any n 2 w hn (by omega)
theorem digs4 (n : Nat) (w : World) (hn : n < 10 ^ 6) : Calls Tryz.prog 88 #[.int .i64 n, .int .i64 4] w fun e w' => e = .returned (.string (dS n 4)) ∧ w = w' := digs_any n 4 w hn (by omega)
set_option maxRecDepth 100000 in
set_option maxHeartbeats 4000000 in
theorem rtext_bad (t d : Int) (w : World) (h : d < 0 ∨ 6 < d) :
    Calls Tryz.prog 43 #[.int .i64 t, .int .i64 d] w (TextPost t d w) := by
  have N := Lib.hid (text_arg (t := t) h)
  rcases h with h | h
  all_goals
    go_enter Tryz.func43, Tryz.ntmps43
    go_wp2_with fail
    go_ret2
    exact ⟨⟨#[]⟩, 2, rfl, N.out, Below.refl _ _⟩
set_option maxRecDepth 100000 in
set_option maxHeartbeats 4000000 in
theorem rtext_out (t : Int) (d : Nat) (w : World) (hd : d ≤ 6) (h0 : -9223372036854775808 ≤ t) (h1 : t ≤ 9223372036854775807) (h : t < bgv (-10227) 1972 1 ∨ bgv 36525 2100 1 ≤ t) :
    Calls Tryz.prog 43 #[.int .i64 t, .int .i64 d] w (TextPost t d w) := by
  have N := Lib.hid (show TextIs t d ⟨#[]⟩ 16 from Or.inr (Or.inl ⟨by omega, by omega, h, rfl, rfl⟩))
  have TU := Lib.hid (fun w' => rtoutc_out t w' h0 h1 h)
  have i0 : ¬ (d : Int) < 0 := by omega
  have i1 : ¬ 6 < (d : Int) := by omega
  clear h
  go_enter Tryz.func43, Tryz.ntmps43
  go_wp2_with fail
  refine (TU.out _).mono ?_
  rintro e w1 ⟨rfl, hb⟩
  have B1 := Lib.hid (hb.alloc hb.size (.cells (List.toArray [.int .i64 0, .int .i64 0, .int .i64 0, .int .i64 0, .int .i64 0, .int .i64 0, .int .i64 0]) 75))
  clear hb TU
  go_wp2_with (refine wpList_store_new rfl _ (.tmp 6) (.tmp 18) rfl _ _ rfl rfl rinfo7 rfl ?_ ?_; simp [Value.oneCell'])
  go_ret2
  exact ⟨⟨#[]⟩, 16, rfl, N.out, B1.out⟩
set_option maxRecDepth 100000 in
set_option maxHeartbeats 8000000 in
theorem rtext_in (t n y m z k : Int) (d : Nat) (w : World) (hd : d ≤ 6) (h : DayOf t n y m z k) (h1 : bgv (-10227) 1972 1 ≤ t) (h2 : t < bgv 36525 2100 1) :
    Calls Tryz.prog 43 #[.int .i64 t, .int .i64 d] w (TextPost t d w) := by
  have TU := fun w' => rtoutc_in t n y m z k w' h h1 h2
  have TI : ∀ s, s = textS y.toNat m.toNat (n - mo y m + 1).toNat (mins (t - bgv n y m) / 60).toNat (mins (t - bgv n y m) % 60).toNat ((t - bgv n y m) / 1000000 - 60 * mins (t - bgv n y m)).toNat ((t - bgv n y m) % 1000000).toNat d → TextIs t d s 0 :=
    fun s hs => Or.inr (Or.inr ⟨by omega, by omega, h1, h2, n, y, m, z, k, h, by rw [Int.toNat_natCast]; exact hs, rfl⟩)
  obtain ⟨Y, M, D, H, I, S, U, e1, e2, e3, e4, e5, e6, e7, b1, b2, b3, b4, b5, b6, b7⟩ := date_nat h
  rw [e3, e4, e5, e6, e7] at TU TI
  rw [e1, e2] at TI
  simp only [Int.toNat_natCast] at TI
  rw [e1, e2] at TU
  clear e1 e2 e3 e4 e5 e6 e7 h h1 h2
  replace TU := Lib.hid TU
  replace TI := Lib.hid TI
  have i0 : ¬ (d : Int) < 0 := by omega
  have i1 : ¬ 6 < (d : Int) := by omega
  obtain ⟨A0, e0⟩ : ∃ A, A = dS Y 4 := ⟨_, rfl⟩
  have z0 : A0.size = 4 := by rw [e0]; exact dS_size _ _
  obtain ⟨A1, e1⟩ : ∃ A, A = A0 ++ (⟨#[45]⟩ : ByteArray) := ⟨_, rfl⟩
  have z1 : A1.size = 5 := by rw [e1, ByteArray.size_append, z0, show (⟨#[45]⟩ : ByteArray).size = 1 from rfl]
  have a1 := add_fact e1 (by rw [z0, show (⟨#[45]⟩ : ByteArray).size = 1 from rfl]; omega)
  obtain ⟨A2, e2⟩ : ∃ A, A = A1 ++ ((dS M 2) : ByteArray) := ⟨_, rfl⟩
  have z2 : A2.size = 7 := by rw [e2, ByteArray.size_append, z1, show ((dS M 2) : ByteArray).size = 2 from dS_size _ _]
  have a2 := add_fact e2 (by rw [z1, show ((dS M 2) : ByteArray).size = 2 from dS_size _ _]; omega)
  obtain ⟨A3, e3⟩ : ∃ A, A = A2 ++ (⟨#[45]⟩ : ByteArray) := ⟨_, rfl⟩
  have z3 : A3.size = 8 := by rw [e3, ByteArray.size_append, z2, show (⟨#[45]⟩ : ByteArray).size = 1 from rfl]
  have a3 := add_fact e3 (by rw [z2, show (⟨#[45]⟩ : ByteArray).size = 1 from rfl]; omega)
  obtain ⟨A4, e4⟩ : ∃ A, A = A3 ++ ((dS D 2) : ByteArray) := ⟨_, rfl⟩
  have z4 : A4.size = 10 := by rw [e4, ByteArray.size_append, z3, show ((dS D 2) : ByteArray).size = 2 from dS_size _ _]
  have a4 := add_fact e4 (by rw [z3, show ((dS D 2) : ByteArray).size = 2 from dS_size _ _]; omega)
  obtain ⟨A5, e5⟩ : ∃ A, A = A4 ++ (⟨#[84]⟩ : ByteArray) := ⟨_, rfl⟩
  have z5 : A5.size = 11 := by rw [e5, ByteArray.size_append, z4, show (⟨#[84]⟩ : ByteArray).size = 1 from rfl]
  have a5 := add_fact e5 (by rw [z4, show (⟨#[84]⟩ : ByteArray).size = 1 from rfl]; omega)
  obtain ⟨A6, e6⟩ : ∃ A, A = A5 ++ ((dS H 2) : ByteArray) := ⟨_, rfl⟩
  have z6 : A6.size = 13 := by rw [e6, ByteArray.size_append, z5, show ((dS H 2) : ByteArray).size = 2 from dS_size _ _]
  have a6 := add_fact e6 (by rw [z5, show ((dS H 2) : ByteArray).size = 2 from dS_size _ _]; omega)
  obtain ⟨A7, e7⟩ : ∃ A, A = A6 ++ (⟨#[58]⟩ : ByteArray) := ⟨_, rfl⟩
  have z7 : A7.size = 14 := by rw [e7, ByteArray.size_append, z6, show (⟨#[58]⟩ : ByteArray).size = 1 from rfl]
  have a7 := add_fact e7 (by rw [z6, show (⟨#[58]⟩ : ByteArray).size = 1 from rfl]; omega)
  obtain ⟨A8, e8⟩ : ∃ A, A = A7 ++ ((dS I 2) : ByteArray) := ⟨_, rfl⟩
  have z8 : A8.size = 16 := by rw [e8, ByteArray.size_append, z7, show ((dS I 2) : ByteArray).size = 2 from dS_size _ _]
  have a8 := add_fact e8 (by rw [z7, show ((dS I 2) : ByteArray).size = 2 from dS_size _ _]; omega)
  obtain ⟨A9, e9⟩ : ∃ A, A = A8 ++ (⟨#[58]⟩ : ByteArray) := ⟨_, rfl⟩
  have z9 : A9.size = 17 := by rw [e9, ByteArray.size_append, z8, show (⟨#[58]⟩ : ByteArray).size = 1 from rfl]
  have a9 := add_fact e9 (by rw [z8, show (⟨#[58]⟩ : ByteArray).size = 1 from rfl]; omega)
  obtain ⟨A10, e10⟩ : ∃ A, A = A9 ++ ((dS S 2) : ByteArray) := ⟨_, rfl⟩
  have z10 : A10.size = 19 := by rw [e10, ByteArray.size_append, z9, show ((dS S 2) : ByteArray).size = 2 from dS_size _ _]
  have a10 := add_fact e10 (by rw [z9, show ((dS S 2) : ByteArray).size = 2 from dS_size _ _]; omega)
  have EB := Lib.hid (show baseS Y M D H I S = A10 by unfold baseS; rw [← e0, ← e1, ← e2, ← e3, ← e4, ← e5, ← e6, ← e7, ← e8, ← e9, ← e10])
  have PY := fun w' => digs4 Y w' (by omega)
  have PU := Lib.hid (fun w' => digs_any U 6 w' b7 (by omega))
  have DM := Lib.hid (fun w' => digs2 M w' (by omega))
  have DD := Lib.hid (fun w' => digs2 D w' (by omega))
  have DH := Lib.hid (fun w' => digs2 H w' (by omega))
  have DI := Lib.hid (fun w' => digs2 I w' (by omega))
  have DS := Lib.hid (fun w' => digs2 S w' (by omega))
  rw [← e0] at PY
  replace PY := Lib.hid PY
  have xs : (dS U 6).size = 6 := dS_size _ _
  have i6 : (d : Int) ≤ 6 := by omega
  clear e0 e1 e2 e3 e4 e5 e6 e7 e8 e9 e10 z0 z1 z2 z3 z4 z5 z6 z7 z8 z9
  go_enter Tryz.func43, Tryz.ntmps43
  go_wp2_with fail
  refine (TU.out _).mono ?_
  rintro e w1 ⟨rfl, hb⟩
  have B1 := hb
  clear hb TU
  go_wp2_with (refine wpList_store_new rfl _ (.tmp 6) (.tmp 18) rfl _ _ rfl rfl rinfo7 rfl ?_ ?_; simp [Value.oneCell'])
  have r0 := rangeAt_new w1 [.int .i64 (Y : Nat), .int .i64 (M : Nat), .int .i64 (D : Nat), .int .i64 (H : Nat), .int .i64 (I : Nat), .int .i64 (S : Nat), .int .i64 (U : Nat)] 75
  have X0 : XSr w w1.heap.size (w1.alloc (.cells (List.toArray [.int .i64 (Y : Nat), .int .i64 (M : Nat), .int .i64 (D : Nat), .int .i64 (H : Nat), .int .i64 (I : Nat), .int .i64 (S : Nat), .int .i64 (U : Nat)]) 75)) := ⟨by simp, B1.alloc B1.size _⟩
  have q0 := r0 0 _ rfl
  have q1 := r0 1 _ rfl
  have q2 := r0 2 _ rfl
  have q3 := r0 3 _ rfl
  have q4 := r0 4 _ rfl
  have q5 := r0 5 _ rfl
  have q6 := r0 6 _ rfl
  rw [Nat.zero_add] at q0 q1 q2 q3 q4 q5 q6
  clear r0 B1
  generalize w1.heap.size = b at *
  generalize w1.alloc (.cells (List.toArray [.int .i64 (Y : Nat), .int .i64 (M : Nat), .int .i64 (D : Nat), .int .i64 (H : Nat), .int .i64 (I : Nat), .int .i64 (S : Nat), .int .i64 (U : Nat)]) 75) = W at *
  have X1 := X0.drew
  go_region_held3 (fun w' => XSr w b w' ∧ w'.cell? ⟨b, 0, none⟩ = some (.int .i64 (Y : Nat)) ∧ w'.cell? ⟨b, 1, none⟩ = some (.int .i64 (M : Nat)) ∧ w'.cell? ⟨b, 2, none⟩ = some (.int .i64 (D : Nat)) ∧ w'.cell? ⟨b, 3, none⟩ = some (.int .i64 (H : Nat)) ∧ w'.cell? ⟨b, 4, none⟩ = some (.int .i64 (I : Nat)) ∧ w'.cell? ⟨b, 5, none⟩ = some (.int .i64 (S : Nat)) ∧ w'.cell? ⟨b, 6, none⟩ = some (.int .i64 (U : Nat))) (first | go_keep | assumption) (first | (go_at_call 88; (first | (with_reducible refine (PY.out _).mono ?_) | (with_reducible refine (DM.out _).mono ?_) | (with_reducible refine (DD.out _).mono ?_) | (with_reducible refine (DH.out _).mono ?_) | (with_reducible refine (DI.out _).mono ?_) | (with_reducible refine (DS.out _).mono ?_)); rintro e w2 ⟨rfl, rfl⟩))
  go_split_ands
  have X2 : XSr w b _ := (by assumption : XSr w b _).drew
  go_wp2_with fail
  go_region_held3 (fun w' => XSr w b w' ∧ w'.cell? ⟨b, 0, none⟩ = some (.int .i64 (Y : Nat)) ∧ w'.cell? ⟨b, 1, none⟩ = some (.int .i64 (M : Nat)) ∧ w'.cell? ⟨b, 2, none⟩ = some (.int .i64 (D : Nat)) ∧ w'.cell? ⟨b, 3, none⟩ = some (.int .i64 (H : Nat)) ∧ w'.cell? ⟨b, 4, none⟩ = some (.int .i64 (I : Nat)) ∧ w'.cell? ⟨b, 5, none⟩ = some (.int .i64 (S : Nat)) ∧ w'.cell? ⟨b, 6, none⟩ = some (.int .i64 (U : Nat))) (first | go_keep | assumption) (first | (go_at_call 88; (first | (with_reducible refine (PY.out _).mono ?_) | (with_reducible refine (DM.out _).mono ?_) | (with_reducible refine (DD.out _).mono ?_) | (with_reducible refine (DH.out _).mono ?_) | (with_reducible refine (DI.out _).mono ?_) | (with_reducible refine (DS.out _).mono ?_)); rintro e w2 ⟨rfl, rfl⟩))
  go_split_ands
  by_cases hc : 0 < d
  · have hc' : (0 : Int) < (d : Int) := by omega
    have E := Lib.hid (show textS Y M D H I S U d = A10 ++ ((⟨#[46]⟩ : ByteArray) ++ (dS U 6).extract 0 d) ++ (⟨#[90]⟩ : ByteArray) by unfold textS; rw [if_pos hc, EB.out])
    go_wp2_with fail
    refine (PU.out _).mono ?_
    rintro e w3 ⟨rfl, rfl⟩
    go_wp2_with fail
    go_ret2
    exact ⟨_, 0, rfl, TI.out _ (E.out.trans (app_left _ _ _)).symm, XSr.below (by assumption)⟩
  · have hc' : ¬ (0 : Int) < (d : Int) := by omega
    have E := Lib.hid (show textS Y M D H I S U d = A10 ++ (⟨#[90]⟩ : ByteArray) by unfold textS; rw [if_neg hc, EB.out])
    go_wp2_with fail
    go_ret2
    exact ⟨_, 0, rfl, TI.out _ E.out.symm, XSr.below (by assumption)⟩
end At
end Go.Proofs.YtaghilgfldaaiaaGreatDoor
/-
  The walk of magText of package obs.
-/
namespace Go.Proofs.YtaghilgfldaaiaaGreatDoor
namespace Ow
open Go.RowKit Lw Go.Proofs.YtaghilgfldaaiaaGreatDoor.Ap Go.Proofs.YtaghilgfldaaiaaGreatDoor.Op Go.Proofs.YtaghilgfldaaiaaGreatDoor.Mp Go.Proofs.YtaghilgfldaaiaaGreatDoor.Mw Go.Proofs.YtaghilgfldaaiaaGreatDoor.At

theorem decL_two (n : Nat) : decL n 2 = [dg (n / 10 % 10), dg (n % 10)] := rfl
end Ow
end Go.Proofs.YtaghilgfldaaiaaGreatDoor
/-
  The walks of the reference's texts of observations: spaces, behind.
-/
namespace Go.Proofs.YtaghilgfldaaiaaGreatDoor
namespace Ow
open Go.RowKit Lw Go.Proofs.YtaghilgfldaaiaaGreatDoor.Ap Go.Proofs.YtaghilgfldaaiaaGreatDoor.Op Go.Proofs.YtaghilgfldaaiaaGreatDoor.Mp Go.Proofs.YtaghilgfldaaiaaGreatDoor.Mw Go.Proofs.YtaghilgfldaaiaaGreatDoor.At

def lenOfV : Value → Nat
  | .string s => s.size
  | _ => 0
end Ow
end Go.Proofs.YtaghilgfldaaiaaGreatDoor
/-
  Text and Day of both, for any time and number of digits.
-/
namespace Go.Proofs.YtaghilgfldaaiaaGreatDoor
namespace At
open Go.RowKit Lw Ap Go.Proofs.YtaghilgfldaaiaaGreatDoor.Mp Go.Proofs.YtaghilgfldaaiaaGreatDoor.Mw

theorem rtext_any (t d : Int) (w : World) (h0 : -9223372036854775808 ≤ t) (h1 : t ≤ 9223372036854775807) :
    Calls Tryz.prog 43 #[.int .i64 t, .int .i64 d] w (TextPost t d w) := by
  by_cases hd : d < 0 ∨ 6 < d
  · exact rtext_bad t d w hd
  · obtain ⟨k, rfl⟩ := Int.eq_ofNat_of_zero_le (show 0 ≤ d by omega)
    by_cases ht : t < bgv (-10227) 1972 1 ∨ bgv 36525 2100 1 ≤ t
    · exact rtext_out t k w (by omega) h0 h1 ht
    · obtain ⟨n, y, m, z, j, h⟩ := day_ex t (by omega) (by omega)
      exact rtext_in t n y m z j k w (by omega) h (by omega) (by omega)
end At
end Go.Proofs.YtaghilgfldaaiaaGreatDoor
/-
  The walk of fields of psv.
-/
namespace Go.Proofs.YtaghilgfldaaiaaGreatDoor
namespace Vw
open Go.RowKit Lw Go.Proofs.YtaghilgfldaaiaaGreatDoor.Ap Go.Proofs.YtaghilgfldaaiaaGreatDoor.Vp Go.Proofs.YtaghilgfldaaiaaGreatDoor.Op Go.Proofs.YtaghilgfldaaiaaGreatDoor.Ow Go.Proofs.YtaghilgfldaaiaaGreatDoor.Mp Go.Proofs.YtaghilgfldaaiaaGreatDoor.At

theorem fieldL_len (o : Ob) (T : ByteArray) : (fieldL o T).length = 8 := rfl
end Vw
end Go.Proofs.YtaghilgfldaaiaaGreatDoor
/-
  Plain law: a string cut at each of one byte; no walk here.
-/
namespace Go.Proofs.YtaghilgfldaaiaaGreatDoor
namespace Vp
open Go.RowKit Lw

theorem pieces_join (c : UInt8) : ∀ (l : List (List UInt8)), l ≠ [] → (∀ p ∈ l, c ∉ p) → pieces c (joinC c l) = l
  | [], h, _ => absurd rfl h
  | [a], _, g => by rw [joinC_one, pieces_none (g a (List.mem_cons_self ..))]
  | a :: b :: l, _, g => by
    rw [joinC_cons, pieces_cut _ (g a (List.mem_cons_self ..)), pieces_join c (b :: l) (by simp) (fun p hp => g p (List.mem_cons_of_mem _ hp))]
end Vp
end Go.Proofs.YtaghilgfldaaiaaGreatDoor
/-
  Plain law of tables: what is printed, what is read; no walk here.
-/
namespace Go.Proofs.YtaghilgfldaaiaaGreatDoor
namespace Vp
open Go.RowKit Lw Go.Proofs.YtaghilgfldaaiaaGreatDoor.Ap Go.Proofs.YtaghilgfldaaiaaGreatDoor.Op Go.Proofs.YtaghilgfldaaiaaGreatDoor.Mp Go.Proofs.YtaghilgfldaaiaaGreatDoor.Mw Go.Proofs.YtaghilgfldaaiaaGreatDoor.At

/-! ### Fields without separators -/
theorem cl_app {a b : List UInt8} (h : cl a) (g : cl b) : cl (a ++ b) := fun c hc => by
  rcases List.mem_append.1 hc with hc | hc
  · exact h c hc
  · exact g c hc
theorem cl_cons {a : UInt8} {b : List UInt8} (h : a ≠ 10 ∧ a ≠ 124) (g : cl b) : cl (a :: b) := fun c hc => by
  rcases List.mem_cons.1 hc with rfl | hc
  · exact h
  · exact g c hc
theorem cl_nil : cl [] := fun c hc => by simp at hc
theorem cl_one {c : UInt8} (h0 : 33 ≤ (c.toNat : Int)) (h1 : (c.toNat : Int) ≠ 124) : c ≠ 10 ∧ c ≠ 124 := ⟨u_ne (k := 10) (by omega) (by omega), u_ne (k := 124) (by omega) h1⟩
theorem cl_bd {l : List UInt8} (h : ∀ c ∈ l, 33 ≤ (c.toNat : Int) ∧ (c.toNat : Int) ≤ 123) : cl l := fun c hc => cl_one (h c hc).1 (by have := (h c hc).2; omega)
theorem cl_alld {l : List UInt8} (h : Gp.allD l) : cl l := cl_bd fun c hc => by have := h c hc; omega
theorem cl_alld2 {l : List UInt8} (h : Ap.allD l) : cl l := cl_bd fun c hc => by have := h c hc; omega
theorem cl_word {l : List UInt8} (h : wordP l) : cl l := cl_bd fun c hc => by
  have := h c hc
  unfold dgP ltP at this
  omega
theorem cl_name {s : ByteArray} (h : nameP s) : cl s.data.toList := by
  rcases h with ⟨z, h⟩ | ⟨_, _, h⟩
  · rw [list_split s 5 z 1 (by omega)]
    have one : ∃ c, (s.extract 0 1).data.toList = [c] ∧ bt s 0 = (c.toNat : Int) := ⟨s[0]'(by omega), by
      simp only [ByteArray.data_extract, Array.toList_extract, List.extract_eq_take_drop, List.drop_zero, Nat.sub_zero]
      have l : s.data.toList.length = 5 := z
      have e : s.data.toList = (s.data.toList[0]'(by omega)) :: s.data.toList.drop 1 := by
        rw [← List.drop_eq_getElem_cons (by omega)]
        rfl
      rw [e]
      rfl, bt_of s 0 (by omega)⟩
    obtain ⟨c, e, b⟩ := one
    rcases h with ⟨h1, h2⟩ | ⟨h1, h2⟩
    · refine cl_app ?_ (cl_word h2)
      rw [e]
      exact cl_cons (cl_one (by omega) (by omega)) cl_nil
    · exact cl_app (cl_word h1) (cl_alld2 h2.2)
  · exact cl_word h
theorem cl_itoa {n : Int} (h : 0 ≤ n) : cl (Lib.itoa n) := by
  obtain ⟨m, rfl⟩ := Int.eq_ofNat_of_zero_le h
  exact cl_alld (itoa_d m)
theorem cl_pad (r d : Nat) : cl (Gt.padL (r : Int) d) := cl_app (cl_alld (Gt.rep_num _).2) (cl_alld (itoa_d r))
theorem cl_deg (a : Int) (d : Nat) : cl (Gt.degL a d) := by
  have b : ∀ N, cl (Gt.degB N d) := fun N => cl_app (cl_alld (itoa_d _)) (cl_cons (by decide) (cl_pad _ _))
  unfold Gt.degL
  split
  · exact cl_cons (by decide) (b _)
  · exact b _
theorem cl_text {t : Int} {T : ByteArray} (h : TextIs t 6 T 0) : cl T.data.toList := by
  have d : ∀ k n, cl (decL n k) := fun k n => cl_alld2 (decL_num k n).2
  rcases h with ⟨_, _, c⟩ | ⟨_, _, _, _, c⟩ | ⟨_, _, _, _, n, y, m, z, k, _, hs, _⟩
  · omega
  · omega
  · rw [hs, text_L]
    refine cl_app (d _ _) (cl_cons (by decide) (cl_app (d _ _) (cl_cons (by decide) (cl_app (d _ _) (cl_cons (by decide) (cl_app (d _ _) (cl_cons (by decide) (cl_app (d _ _) (cl_cons (by decide) (cl_app (d _ _) (cl_app ?_ (cl_cons (by decide) cl_nil))))))))))))
    split
    · exact cl_cons (by decide) (fun c hc => d _ _ c (List.mem_of_mem_take hc))
    · exact cl_nil
theorem cl_dg (n : Nat) (h : n < 10) : dg n ≠ 10 ∧ dg n ≠ 124 := cl_one (by have := dg_of n h; omega) (by have := dg_of n h; omega)
theorem cl_mag (m : Int) : cl (Vp.magF m) := by
  unfold Vp.magF
  split
  · exact cl_nil
  · rw [magB_list]
    refine cl_app ?_ (cl_app (cl_alld (itoa_d _)) (cl_cons (by decide) (cl_cons (cl_dg _ (Nat.mod_lt _ (by omega))) (cl_cons (cl_dg _ (Nat.mod_lt _ (by omega))) cl_nil))))
    split
    · exact cl_cons (by decide) cl_nil
    · exact cl_nil
theorem cl_band {m b : Int} (h : magP m b) : cl (bandF b) := by
  unfold bandF
  split
  · exact cl_nil
  · rename_i hb
    have h2 : ltP b := by
      rcases h with ⟨_, h⟩ | ⟨_, _, h | h⟩
      · exact absurd h hb
      · exact absurd h hb
      · exact h
    have e : ((UInt8.ofNat b.toNat).toNat : Int) = b := by
      unfold ltP at h2
      rw [UInt8.toNat_ofNat']
      omega
    unfold ltP at h2
    exact cl_cons (cl_one (by omega) (by omega)) cl_nil
theorem fields_cl {o : Ob} {T : ByteArray} (ok : okO o) (hT : TextIs o.t 6 T 0) : ∀ s ∈ fieldL o T, cl s.data.toList := by
  obtain ⟨ot, on, os, ow, or0, or1, od0, od1, og0, og1, om⟩ := ok
  intro s hs
  unfold fieldL at hs
  simp only [List.mem_cons, List.not_mem_nil, or_false] at hs
  rcases hs with rfl | rfl | rfl | rfl | rfl | rfl | rfl | rfl
  · exact cl_name on
  · exact cl_word ow
  · exact cl_text hT
  · exact cl_deg _ _
  · exact cl_deg _ _
  · exact cl_itoa (by omega)
  · exact cl_mag _
  · exact cl_band om

/-! ### Tables -/
/-! ### What is printed is read back -/
end Vp
end Go.Proofs.YtaghilgfldaaiaaGreatDoor
/-
  The walks of the reference's texts of angles at the digits of a line: digitsOf, sexagesimal, RaText, DecText.
-/
namespace Go.Proofs.YtaghilgfldaaiaaGreatDoor
namespace Ow
open Go.RowKit Lw Go.Proofs.YtaghilgfldaaiaaGreatDoor.Ap Go.Proofs.YtaghilgfldaaiaaGreatDoor.Op Go.Proofs.YtaghilgfldaaiaaGreatDoor.Mp Go.Proofs.YtaghilgfldaaiaaGreatDoor.Mw Go.Proofs.YtaghilgfldaaiaaGreatDoor.At

theorem ten_mono {k : Nat} (h : k ≤ 12) : 10 ^ k ≤ 1000000000000 := Nat.pow_le_pow_right (n := 10) (by omega) h
set_option maxRecDepth 100000 in
set_option maxHeartbeats 2000000 in
theorem digs15_any (n k : Nat) (w : World) (hn : n < 10 ^ k) (hk : k ≤ 12) :
    Calls Tryz.prog 92 #[.int .i64 n, .int .i64 k] w fun e w' => e = .returned (.string ⟨(decL n k).toArray⟩) ∧ w = w' := by
  have n9 : n ≤ 1000000000000 := by have := ten_mono hk; omega
  go_enter Tryz.func92, Tryz.ntmps92
  go_wp2
  go_loop [0, 6] (fun v s => ∃ j u : Nat, ∃ S : ByteArray, j ≤ k ∧ s = .string S ∧ v = .int .i64 u ∧ u ≤ 1000000000000 ∧ Hid (u = n / 10 ^ j ∧ S = ⟨(decL n j).toArray⟩) ∧ S.size = j ∧ (0 < u → j < k)) (fun _ s => k - lenOfV s)
  case atStart => exact ⟨0, n, ⟨#[]⟩, Nat.zero_le _, rfl, rfl, n9, Lib.hid ⟨by simp, rfl⟩, rfl, fun h => by
    rcases Nat.eq_zero_or_pos k with g | g
    · subst g; simp at hn; omega
    · exact g⟩
  case round =>
    obtain ⟨j, u, S, hj, rfl, rfl, hu, D, hS, hlt⟩ := hrel
    by_cases lt : j < k
    · by_cases hz : (0 : Int) < (u : Int)
      · obtain ⟨m, hm⟩ : ∃ m, m = u % 10 := ⟨_, rfl⟩
        obtain ⟨u', hu'⟩ : ∃ u', u' = u / 10 := ⟨_, rfl⟩
        have r1 : (u : Int) % 10 = (m : Int) := by omega
        have r2 : (u : Int) / 10 = (u' : Int) := by omega
        have m0 : m < 10 := by omega
        have de := dig_ext m m0
        have D2 := Lib.hid (show u' = n / 10 ^ (j + 1) ∧ (⟨#[dg m]⟩ ++ S : ByteArray) = ⟨(decL n (j + 1)).toArray⟩ from ⟨by rw [hu', D.out.1, Nat.div_div_eq_div_mul, Nat.pow_succ], by rw [D.out.2, str_cons, dec_cons, hm, D.out.1]⟩)
        have sz : (⟨#[dg m]⟩ ++ S : ByteArray).size = j + 1 := by rw [ByteArray.size_append, hS]; show 1 + j = _; omega
        have u0 : u' ≤ 1000000000000 := by omega
        have L2 : 0 < u' → j + 1 < k := fun h => by
          rcases Nat.lt_or_ge (j + 1) k with g | g
          · exact g
          · have e : j + 1 = k := by omega
            have := D2.out.1
            rw [e, Nat.div_eq_of_lt hn] at this
            omega
        have i1 : (m : Int) ≤ 9 := by omega
        have i0 : 0 ≤ (m : Int) := by omega
        clear hm hu' m0 hlt
        go_wp2
        go_round
        case rel => exact ⟨j + 1, u', _, by omega, rfl, by go_num, u0, D2, sz, L2⟩
        case measure => simp only [lenOfV, sz, hS]; omega
      · obtain rfl : u = 0 := by omega
        have de := dig_ext 0 (by omega)
        have de2 : (⟨#[48, 49, 50, 51, 52, 53, 54, 55, 56, 57]⟩ : ByteArray).extract 0 1 = ⟨#[dg 0]⟩ := de
        have D2 := Lib.hid (show 0 = n / 10 ^ (j + 1) ∧ (⟨#[dg 0]⟩ ++ S : ByteArray) = ⟨(decL n (j + 1)).toArray⟩ from ⟨by rw [Nat.pow_succ, ← Nat.div_div_eq_div_mul, ← D.out.1], by rw [D.out.2, str_cons, dec_cons, ← D.out.1]⟩)
        have sz : (⟨#[dg 0]⟩ ++ S : ByteArray).size = j + 1 := by rw [ByteArray.size_append, hS]; show 1 + j = _; omega
        have sj : (S.size : Int) < (k : Int) := by omega
        clear hlt hz
        go_wp2
        go_round
        case rel => exact ⟨j + 1, 0, _, by omega, rfl, by first | rfl | go_num, by omega, D2, sz, fun h => absurd h (Nat.lt_irrefl 0)⟩
        case measure => simp only [lenOfV, sz, hS]; omega
    · obtain rfl : j = k := by omega
      have u0 : u = 0 := by
        rcases Nat.eq_zero_or_pos u with g | g
        · exact g
        · have := hlt g; omega
      subst u0
      have E := Lib.hid D.out.2
      clear D hlt
      go_wp2
      go_ret
      exact ⟨by rw [E.out]; rfl, rfl⟩
end Ow
end Go.Proofs.YtaghilgfldaaiaaGreatDoor
/-
  The walks of the reference's digits: digitsOf and decimal, with at least so many.
-/
namespace Go.Proofs.YtaghilgfldaaiaaGreatDoor
namespace Vw
open Go.RowKit Lw Go.Proofs.YtaghilgfldaaiaaGreatDoor.Ap Go.Proofs.YtaghilgfldaaiaaGreatDoor.Vp Go.Proofs.YtaghilgfldaaiaaGreatDoor.Op Go.Proofs.YtaghilgfldaaiaaGreatDoor.Ow Go.Proofs.YtaghilgfldaaiaaGreatDoor.Mp Go.Proofs.YtaghilgfldaaiaaGreatDoor.Mw Go.Proofs.YtaghilgfldaaiaaGreatDoor.At

set_option maxRecDepth 100000 in
set_option maxHeartbeats 2000000 in
theorem digsG_any (n k m : Nat) (w : World) (hn : n < 10 ^ m) (hk : k ≤ m) (h3 : m = k ∨ 10 ^ (m - 1) ≤ n) (hm : m ≤ 12) :
    Calls Tryz.prog 92 #[.int .i64 n, .int .i64 k] w fun e w' => e = .returned (.string ⟨(decL n m).toArray⟩) ∧ w = w' := by
  have n9 : n ≤ 1000000000000 := by have := ten_mono hm; omega
  have k9 : (k : Int) ≤ 12 := by omega
  have H3 := Lib.hid h3
  have HN := Lib.hid hn
  clear h3 hn
  go_enter Tryz.func92, Tryz.ntmps92
  go_wp2
  go_loop [0, 6] (fun v s => ∃ j u : Nat, ∃ S : ByteArray, j ≤ m ∧ s = .string S ∧ v = .int .i64 u ∧ u ≤ 1000000000000 ∧ Hid (u = n / 10 ^ j ∧ S = ⟨(decL n j).toArray⟩) ∧ S.size = j) (fun _ s => m - lenOfV s)
  case atStart => exact ⟨0, n, ⟨#[]⟩, Nat.zero_le _, rfl, rfl, n9, Lib.hid ⟨by simp, rfl⟩, rfl⟩
  case round =>
    obtain ⟨j, u, S, hj, rfl, rfl, hu, D, hS⟩ := hrel
    by_cases hz : (0 : Int) < (u : Int)
    · have lt : j < m := by
        rcases Nat.lt_or_ge j m with g | g
        · exact g
        · have e := D.out.1
          have h := HN.out
          rw [show j = m by omega, Nat.div_eq_of_lt h] at e
          omega
      obtain ⟨d, hd⟩ : ∃ d, d = u % 10 := ⟨_, rfl⟩
      obtain ⟨u', hu'⟩ : ∃ u', u' = u / 10 := ⟨_, rfl⟩
      have r1 : (u : Int) % 10 = (d : Int) := by omega
      have r2 : (u : Int) / 10 = (u' : Int) := by omega
      have m0 : d < 10 := by omega
      have de := dig_ext d m0
      have D2 := Lib.hid (show u' = n / 10 ^ (j + 1) ∧ (⟨#[dg d]⟩ ++ S : ByteArray) = ⟨(decL n (j + 1)).toArray⟩ from ⟨by rw [hu', D.out.1, Nat.div_div_eq_div_mul, Nat.pow_succ], by rw [D.out.2, str_cons, dec_cons, hd, D.out.1]⟩)
      have sz : (⟨#[dg d]⟩ ++ S : ByteArray).size = j + 1 := by rw [ByteArray.size_append, hS]; show 1 + j = _; omega
      have u0 : u' ≤ 1000000000000 := by omega
      have i1 : (d : Int) ≤ 9 := by omega
      have i0 : 0 ≤ (d : Int) := by omega
      clear hd hu' m0
      go_wp2
      go_round
      case rel => exact ⟨j + 1, u', _, by omega, rfl, by go_num, u0, D2, sz⟩
      case measure => simp only [lenOfV, sz, hS]; omega
    · obtain rfl : u = 0 := by omega
      by_cases lt : j < k
      · have de := dig_ext 0 (by omega)
        have de2 : (⟨#[48, 49, 50, 51, 52, 53, 54, 55, 56, 57]⟩ : ByteArray).extract 0 1 = ⟨#[dg 0]⟩ := de
        have D2 := Lib.hid (show 0 = n / 10 ^ (j + 1) ∧ (⟨#[dg 0]⟩ ++ S : ByteArray) = ⟨(decL n (j + 1)).toArray⟩ from ⟨by rw [Nat.pow_succ, ← Nat.div_div_eq_div_mul, ← D.out.1], by rw [D.out.2, str_cons, dec_cons, ← D.out.1]⟩)
        have sz : (⟨#[dg 0]⟩ ++ S : ByteArray).size = j + 1 := by rw [ByteArray.size_append, hS]; show 1 + j = _; omega
        have sj : (S.size : Int) < (k : Int) := by omega
        clear hz
        go_wp2
        go_round
        case rel => exact ⟨j + 1, 0, _, by omega, rfl, by first | rfl | go_num, by omega, D2, sz⟩
        case measure => simp only [lenOfV, sz, hS]; omega
      · have e : j = m := by
          rcases H3.out with g | g
          · omega
          · rcases Nat.lt_or_ge j m with q | q
            · have e := D.out.1
              have p : 10 ^ j ≤ 10 ^ (m - 1) := Nat.pow_le_pow_right (by omega) (by omega)
              have := Nat.div_pos (Nat.le_trans p g) (Nat.pow_pos (n := j) (show 0 < 10 by omega))
              omega
            · omega
        have E := Lib.hid (show S = ⟨(decL n m).toArray⟩ by rw [← e]; exact D.out.2)
        have sj : ¬ (S.size : Int) < (k : Int) := by omega
        clear D e
        go_wp2
        go_ret
        exact ⟨by rw [E.out]; rfl, rfl⟩
set_option maxRecDepth 100000 in
set_option maxHeartbeats 2000000 in
theorem decG_any (n k m : Nat) (w : World) (hn : n < 10 ^ m) (hk : k ≤ m) (h3 : m = k ∨ 10 ^ (m - 1) ≤ n) (hm : m ≤ 12) :
    Calls Tryz.prog 45 #[.int .i64 n, .int .i64 k] w fun e w' => e = .returned (.string ⟨(decL n m).toArray⟩) ∧ w = w' := by
  have n9 : n ≤ 1000000000000 := by have := ten_mono hm; omega
  have k9 : (k : Int) ≤ 12 := by omega
  have H3 := Lib.hid h3
  have HN := Lib.hid hn
  clear h3 hn
  go_enter Tryz.func45, Tryz.ntmps45
  go_wp2
  go_loop [0, 5] (fun v s => ∃ j u : Nat, ∃ S : ByteArray, j ≤ m ∧ s = .string S ∧ v = .int .i64 u ∧ u ≤ 1000000000000 ∧ Hid (u = n / 10 ^ j ∧ S = ⟨(decL n j).toArray⟩) ∧ S.size = j) (fun _ s => m - lenOfV s)
  case atStart => exact ⟨0, n, ⟨#[]⟩, Nat.zero_le _, rfl, rfl, n9, Lib.hid ⟨by simp, rfl⟩, rfl⟩
  case round =>
    obtain ⟨j, u, S, hj, rfl, rfl, hu, D, hS⟩ := hrel
    by_cases hz : (0 : Int) < (u : Int)
    · have lt : j < m := by
        rcases Nat.lt_or_ge j m with g | g
        · exact g
        · have e := D.out.1
          have h := HN.out
          rw [show j = m by omega, Nat.div_eq_of_lt h] at e
          omega
      obtain ⟨d, hd⟩ : ∃ d, d = u % 10 := ⟨_, rfl⟩
      obtain ⟨u', hu'⟩ : ∃ u', u' = u / 10 := ⟨_, rfl⟩
      have r1 : (u : Int) % 10 = (d : Int) := by omega
      have r2 : (u : Int) / 10 = (u' : Int) := by omega
      have m0 : d < 10 := by omega
      have de := dig_ext d m0
      have D2 := Lib.hid (show u' = n / 10 ^ (j + 1) ∧ (⟨#[dg d]⟩ ++ S : ByteArray) = ⟨(decL n (j + 1)).toArray⟩ from ⟨by rw [hu', D.out.1, Nat.div_div_eq_div_mul, Nat.pow_succ], by rw [D.out.2, str_cons, dec_cons, hd, D.out.1]⟩)
      have sz : (⟨#[dg d]⟩ ++ S : ByteArray).size = j + 1 := by rw [ByteArray.size_append, hS]; show 1 + j = _; omega
      have u0 : u' ≤ 1000000000000 := by omega
      have i1 : (d : Int) ≤ 9 := by omega
      have i0 : 0 ≤ (d : Int) := by omega
      clear hd hu' m0
      go_wp2
      go_round
      case rel => exact ⟨j + 1, u', _, by omega, rfl, by go_num, u0, D2, sz⟩
      case measure => simp only [lenOfV, sz, hS]; omega
    · obtain rfl : u = 0 := by omega
      by_cases lt : j < k
      · have de := dig_ext 0 (by omega)
        have de2 : (⟨#[48, 49, 50, 51, 52, 53, 54, 55, 56, 57]⟩ : ByteArray).extract 0 1 = ⟨#[dg 0]⟩ := de
        have D2 := Lib.hid (show 0 = n / 10 ^ (j + 1) ∧ (⟨#[dg 0]⟩ ++ S : ByteArray) = ⟨(decL n (j + 1)).toArray⟩ from ⟨by rw [Nat.pow_succ, ← Nat.div_div_eq_div_mul, ← D.out.1], by rw [D.out.2, str_cons, dec_cons, ← D.out.1]⟩)
        have sz : (⟨#[dg 0]⟩ ++ S : ByteArray).size = j + 1 := by rw [ByteArray.size_append, hS]; show 1 + j = _; omega
        have sj : (S.size : Int) < (k : Int) := by omega
        clear hz
        go_wp2
        go_round
        case rel => exact ⟨j + 1, 0, _, by omega, rfl, by first | rfl | go_num, by omega, D2, sz⟩
        case measure => simp only [lenOfV, sz, hS]; omega
      · have e : j = m := by
          rcases H3.out with g | g
          · omega
          · rcases Nat.lt_or_ge j m with q | q
            · have e := D.out.1
              have p : 10 ^ j ≤ 10 ^ (m - 1) := Nat.pow_le_pow_right (by omega) (by omega)
              have := Nat.div_pos (Nat.le_trans p g) (Nat.pow_pos (n := j) (show 0 < 10 by omega))
              omega
            · omega
        have E := Lib.hid (show S = ⟨(decL n m).toArray⟩ by rw [← e]; exact D.out.2)
        have sj : ¬ (S.size : Int) < (k : Int) := by omega
        clear D e
        go_wp2
        go_ret
        exact ⟨by rw [E.out]; rfl, rfl⟩
theorem digs1_any (n : Nat) (w : World) (hn : n < 10 ^ 12) : Calls Tryz.prog 92 #[.int .i64 n, .int .i64 1] w fun e w' => e = .returned (.string (stL (Lib.itoa n))) ∧ w = w' := by
  obtain ⟨m, a, b, c⟩ := len_ex 11 n hn
  have := digsG_any n 1 (m + 1) w b (by omega) (by rcases c with c | c; exact Or.inl (by omega); exact Or.inr c) (by omega)
  rw [← dec_dd m n b c, ← itoa_pos] at this
  exact this
theorem dec1_any (n : Nat) (w : World) (hn : n < 10 ^ 12) : Calls Tryz.prog 45 #[.int .i64 n, .int .i64 1] w fun e w' => e = .returned (.string (stL (Lib.itoa n))) ∧ w = w' := by
  obtain ⟨m, a, b, c⟩ := len_ex 11 n hn
  have := decG_any n 1 (m + 1) w b (by omega) (by rcases c with c | c; exact Or.inl (by omega); exact Or.inr c) (by omega)
  rw [← dec_dd m n b c, ← itoa_pos] at this
  exact this
end Vw
end Go.Proofs.YtaghilgfldaaiaaGreatDoor
/-
  The reference's text of degrees with nine digits.
-/
namespace Go.Proofs.YtaghilgfldaaiaaGreatDoor
namespace Vw
open Go.RowKit Lw Go.Proofs.YtaghilgfldaaiaaGreatDoor.Ap Go.Proofs.YtaghilgfldaaiaaGreatDoor.Vp Go.Proofs.YtaghilgfldaaiaaGreatDoor.Op Go.Proofs.YtaghilgfldaaiaaGreatDoor.Ow

set_option maxRecDepth 100000 in
set_option maxHeartbeats 8000000 in
theorem rdeg9_neg (a : Int) (w : World) (h0 : -1296000000000 ≤ a) (h1 : a ≤ 1296000000000) (g1 : a < 0) (g2 : 0 < unN a.natAbs) :
    Calls Tryz.prog 44 #[.int .i64 a, .int .i64 9] w fun e w' => e = .returned (.tuple #[.string (stL (Gt.degL a 9)), .int .i64 0]) ∧ Below w.heap.size w w' := by
  obtain ⟨m, em⟩ : ∃ m : Nat, a.natAbs = m := ⟨_, rfl⟩
  try rw [em] at g2
  have mb : m ≤ 1296000000000 := by omega
  have eN : Gt.degN m 9 = unN m := if_pos (by omega)
  have nb := un_le mb
  have K1 : Hid (a < 0 → 0 < unN m → Gt.degL a 9 = 45 :: Gt.degB (unN m) 9) := Lib.hid fun g1 g2 => by unfold Gt.degL; rw [em, eN, if_pos ⟨g1, g2⟩]
  have K2 : Hid (¬ (a < 0 ∧ 0 < unN m) → Gt.degL a 9 = Gt.degB (unN m) 9) := Lib.hid fun g => by unfold Gt.degL; rw [em, eN, if_neg g]
  have NT : Hid (∀ w : World, Calls Tryz.prog 90 #[.int .i64 9] w fun e w' => e = .returned (.int .i64 1000000000) ∧ w = w') := Lib.hid (fun w => Gp.rten_any 9 w (by omega))
  have NC : Hid (∀ w : World, Calls Tryz.prog 91 #[.int .i64 1000000000] w fun e w' => e = .returned (.int .i64 200000000) ∧ Below w.heap.size w w') := Lib.hid (fun w => by
    have := Gp.common_any 1000000000 w (by omega) (by omega)
    rw [show ((Nat.gcd 1000000000 3600000000 : Nat) : Int) = 200000000 by decide +kernel] at this
    exact this)
  have RD : Hid (∀ w : World, Calls Tryz.prog 89 #[.int .i64 ((m : Int) * 5), .int .i64 18] w fun e w' => e = .returned (.int .i64 (unN m : Int)) ∧ ∃ k, w' = w.drewN k) := Lib.hid fun w => by
    have := Gp.rrounded_any (m * 5) 18 w (by omega) (by omega) (by omega)
    unfold unN
    rw [Gt.rndN_eq]
    have e : ((m * 5 : Nat) : Int) = (m : Int) * 5 := by omega
    rw [e] at this
    exact this
  have B0 : ∀ n, Gt.degB n 9 = Lib.itoa ((n / 1000000000 : Nat) : Int) ++ 46 :: Gt.padL ((n % 1000000000 : Nat) : Int) 9 := fun _ => rfl
  have neg : a < 0 → -a = (m : Int) := fun h => by omega
  have pos : ¬ a < 0 → a = (m : Int) := fun h => by omega
  generalize unN m = n at *
  have B := Lib.hid (B0 n)
  clear B0 em eN
  have D1 := Lib.hid (fun w => digs1_any (n / 1000000000) w (by omega))
  have D2 := Lib.hid (fun w => digs15_any (n % 1000000000) 9 w (Nat.mod_lt _ (by omega)) (by omega))
  have P := Lib.hid (pad_dec (n % 1000000000) 9 (by omega) (Nat.mod_lt _ (by omega)))
  have t1 : (n : Int).tdiv 1000000000 = ((n / 1000000000 : Nat) : Int) := rfl
  have t2 : (n : Int).tmod 1000000000 = ((n % 1000000000 : Nat) : Int) := rfl
  have j1 : (n : Int) / 1000000000 = ((n / 1000000000 : Nat) : Int) := rfl
  have j2 : (n : Int) % 1000000000 = ((n % 1000000000 : Nat) : Int) := rfl
  have s9 : n / 1000000000 ≤ 360 := by omega
  have r9 : n % 1000000000 ≤ 1000000000 := by omega
  have l1 := Lib.itoa_length_le ((n / 1000000000 : Nat) : Int) (by omega) (by omega)
  generalize n / 1000000000 = s at *
  generalize n % 1000000000 = r at *
  rw [P.out] at B
  have l2 := At.decL_len 9 r
  clear P
  obtain ⟨L, hL⟩ : ∃ L, Lib.itoa (s : Int) = L := ⟨_, rfl⟩
  obtain ⟨q, hq⟩ : ∃ q, At.decL r 9 = q := ⟨_, rfl⟩
  rw [hL] at B D1 l1
  rw [hq] at B D2 l2
  clear hL hq
  have z1 : (stL L).size = L.length := stL_size L
  have z2 : (⟨q.toArray⟩ : ByteArray).size = q.length := stL_size q
  have S0 : stL L ++ (⟨#[46]⟩ : ByteArray) ++ (⟨q.toArray⟩ : ByteArray) = stL (L ++ 46 :: q) := by
    apply ByteArray.ext
    simp [ByteArray.data_append, stL]
  have S1 : (⟨#[45]⟩ : ByteArray) ++ stL (L ++ 46 :: q) = stL (45 :: (L ++ 46 :: q)) := by
    apply ByteArray.ext
    simp [ByteArray.data_append, stL]
  have W5 := Lib.hid (show IntKind.i64.wrap 5 = 5 by decide)
  have W18 := Lib.hid (show IntKind.i64.wrap 18 = 18 by decide)
  have WM := Lib.hid (show IntKind.i64.wrap ((m : Int) * 5) = (m : Int) * 5 from IntWalk.i64_in _ (by omega))
  have z3 : (stL (L ++ 46 :: q)).size = L.length + 10 := by rw [stL_size, List.length_append, List.length_cons, l2]
  have n1 : ¬ a < -1296000000000 := by omega
  have n2 : ¬ (1296000000000 : Int) < a := by omega
  have d1 : decide (a < -1296000000000) = false := decide_eq_false n1
  have d2 : decide (1296000000000 < a) = false := decide_eq_false n2
  have u1 : (1000000000 : Int).tdiv 200000000 = 5 := rfl
  have u2 : (3600000000 : Int).tdiv 200000000 = 18 := rfl
  have g3 : (0 : Int) < n := by omega
  have ng := neg g1
  have K := Lib.hid ((K1.out g1 g2).trans (congrArg _ B.out))
  clear K1 K2 g2 neg pos B
  go_enter Tryz.func44, Tryz.ntmps44
  go_upto_region 6 with fail
  refine wp_region_held_drew (S := fun wx => Below w.heap.size w wx) (by kernel_rfl) (Below.refl _ _).drew (fun hHeld => ?_)
  refine wpAnyH_take (i := 0) (oi := ?oi1_0x1) (v := ?v1_0x1) ?hi1_0x1 (by kernel_rfl) (by kernel_rfl) (by kernel_rfl) ?hq1_0x1 ?hy1_0x1 hHeld ?rest1_0x1
  case hi1_0x1 => ((try simp only [List.getElem?_toArray, List.getElem?_cons_succ, List.getElem?_cons_zero]); (try rfl))
  case hq1_0x1 => exact fun _ _ _ h => h
  case hy1_0x1 => exact Or.inl ⟨by rfl, by intro w hSw; clear hSw; go_simp; try with_reducible rfl⟩
  try simp only [Act.put, List.setIfInBounds_toArray, List.set_cons_zero, List.set_cons_succ]
  refine wpAnyH_take (i := 1) (oi := ?oi1_1x2) (v := ?v1_1x2) ?hi1_1x2 (by kernel_rfl) (by kernel_rfl) (by kernel_rfl) ?hq1_1x2 ?hy1_1x2 hHeld ?rest1_1x2
  case hi1_1x2 => ((try simp only [List.getElem?_toArray, List.getElem?_cons_succ, List.getElem?_cons_zero]); (try rfl))
  case hq1_1x2 => exact fun _ _ _ h => h
  case hy1_1x2 => exact Or.inl ⟨by rfl, by intro w hSw; clear hSw; go_simp; try with_reducible rfl⟩
  try simp only [Act.put, List.setIfInBounds_toArray, List.set_cons_zero, List.set_cons_succ]
  refine wpAnyH_take (i := 3) (oi := ?oi1_3x3) (v := ?v1_3x3) ?hi1_3x3 (by kernel_rfl) (by kernel_rfl) (by kernel_rfl) ?hq1_3x3 ?hy1_3x3 hHeld ?rest1_3x3
  case hi1_3x3 => ((try simp only [List.getElem?_toArray, List.getElem?_cons_succ, List.getElem?_cons_zero]); (try rfl))
  case hq1_3x3 => exact fun _ _ _ h => h
  case hy1_3x3 => exact Or.inl ⟨by rfl, by intro w hSw; clear hSw; go_simp; try with_reducible rfl⟩
  try simp only [Act.put, List.setIfInBounds_toArray, List.set_cons_zero, List.set_cons_succ]
  refine wpAnyH_take (i := 8) (oi := ?oi1_8x4) (v := ?v1_8x4) ?hi1_8x4 (by kernel_rfl) (by kernel_rfl) (by kernel_rfl) ?hq1_8x4 ?hy1_8x4 hHeld ?rest1_8x4
  case hi1_8x4 => ((try simp only [List.getElem?_toArray, List.getElem?_cons_succ, List.getElem?_cons_zero]); (try rfl))
  case hq1_8x4 => exact fun _ _ _ h => h
  case hy1_8x4 => exact Or.inl ⟨by rfl, by intro w hSw; clear hSw; go_simp; try with_reducible rfl⟩
  try simp only [Act.put, List.setIfInBounds_toArray, List.set_cons_zero, List.set_cons_succ]
  refine wpAnyH_ready (rs := [2]) (by kernel_rfl) (by simp) ?_
  refine AllReadyH.cons rfl (fun K' hK => ?_) AllReadyH.nil
  have H1 := Lib.hid hHeld
  clear hHeld
  go_simp
  refine (NT.out _).mono ?_
  rintro e wx ⟨rfl, rfl⟩
  replace H1 := Lib.hid (H1.out)
  refine hK.out _ _ H1.out (fun hHeld => ?_)
  clear hK H1
  try simp only [Act.put, List.setIfInBounds_toArray, List.set_cons_zero, List.set_cons_succ]
  refine wpAnyH_ready (rs := [4]) (by kernel_rfl) (by simp) ?_
  refine AllReadyH.cons rfl (fun K' hK => ?_) AllReadyH.nil
  have H1 := Lib.hid hHeld
  clear hHeld
  go_simp
  refine (NT.out _).mono ?_
  rintro e wx ⟨rfl, rfl⟩
  replace H1 := Lib.hid (H1.out)
  refine hK.out _ _ H1.out (fun hHeld => ?_)
  clear hK H1
  try simp only [Act.put, List.setIfInBounds_toArray, List.set_cons_zero, List.set_cons_succ]
  refine wpAnyH_ready (rs := [5]) (by kernel_rfl) (by simp) ?_
  refine AllReadyH.cons rfl (fun K' hK => ?_) AllReadyH.nil
  have H1 := Lib.hid hHeld
  clear hHeld
  go_simp
  refine (NC.out _).mono ?_
  rintro e wx ⟨rfl, hb⟩
  replace H1 := Lib.hid (below_then H1.out hb)
  refine hK.out _ _ H1.out (fun hHeld => ?_)
  clear hK H1
  try simp only [Act.put, List.setIfInBounds_toArray, List.set_cons_zero, List.set_cons_succ]
  refine wpAnyH_take (i := 6) (oi := ?oi1_6x5) (v := ?v1_6x5) ?hi1_6x5 (by kernel_rfl) (by kernel_rfl) (by kernel_rfl) ?hq1_6x5 ?hy1_6x5 hHeld ?rest1_6x5
  case hi1_6x5 => ((try simp only [List.getElem?_toArray, List.getElem?_cons_succ, List.getElem?_cons_zero]); (try rfl))
  case hq1_6x5 => exact fun _ _ _ h => h
  case hy1_6x5 => exact Or.inl ⟨by rfl, by intro w hSw; clear hSw; go_simp; try with_reducible rfl⟩
  try simp only [Act.put, List.setIfInBounds_toArray, List.set_cons_zero, List.set_cons_succ]
  refine wpAnyH_take (i := 7) (oi := ?oi1_7x6) (v := ?v1_7x6) ?hi1_7x6 (by kernel_rfl) (by kernel_rfl) (by kernel_rfl) ?hq1_7x6 ?hy1_7x6 hHeld ?rest1_7x6
  case hi1_7x6 => ((try simp only [List.getElem?_toArray, List.getElem?_cons_succ, List.getElem?_cons_zero]); (try rfl))
  case hq1_7x6 => exact fun _ _ _ h => h
  case hy1_7x6 => exact Or.inl ⟨by rfl, by intro w hSw; clear hSw; go_simp; try with_reducible rfl⟩
  try simp only [Act.put, List.setIfInBounds_toArray, List.set_cons_zero, List.set_cons_succ]
  refine wpAnyH_ready (rs := [9]) (by kernel_rfl) (by simp) ?_
  refine AllReadyH.cons rfl (fun K' hK => ?_) AllReadyH.nil
  have H1 := Lib.hid hHeld
  clear hHeld
  go_simp
  refine (NT.out _).mono ?_
  rintro e wx ⟨rfl, rfl⟩
  replace H1 := Lib.hid (H1.out)
  refine hK.out _ _ H1.out (fun hHeld => ?_)
  clear hK H1
  try simp only [Act.put, List.setIfInBounds_toArray, List.set_cons_zero, List.set_cons_succ]
  refine wpAnyH_ready (rs := [10]) (by kernel_rfl) (by simp) ?_
  refine AllReadyH.cons rfl (fun K' hK => ?_) AllReadyH.nil
  have H1 := Lib.hid hHeld
  clear hHeld
  go_simp
  refine (NC.out _).mono ?_
  rintro e wx ⟨rfl, hb⟩
  replace H1 := Lib.hid (below_then H1.out hb)
  refine hK.out _ _ H1.out (fun hHeld => ?_)
  clear hK H1
  try simp only [Act.put, List.setIfInBounds_toArray, List.set_cons_zero, List.set_cons_succ]
  refine wpAnyH_take (i := 11) (oi := ?oi1_11x7) (v := ?v1_11x7) ?hi1_11x7 (by kernel_rfl) (by kernel_rfl) (by kernel_rfl) ?hq1_11x7 ?hy1_11x7 hHeld ?rest1_11x7
  case hi1_11x7 => ((try simp only [List.getElem?_toArray, List.getElem?_cons_succ, List.getElem?_cons_zero]); (try rfl))
  case hq1_11x7 => exact fun _ _ _ h => h
  case hy1_11x7 => exact Or.inl ⟨by rfl, by intro w hSw; clear hSw; go_simp; try with_reducible rfl⟩
  try simp only [Act.put, List.setIfInBounds_toArray, List.set_cons_zero, List.set_cons_succ]
  refine wpAnyH_ready (rs := [12]) (by kernel_rfl) (by simp) ?_
  refine AllReadyH.cons rfl (fun K' hK => ?_) AllReadyH.nil
  have H1 := Lib.hid hHeld
  clear hHeld
  go_simp
  rw [W5.out, W18.out, WM.out]
  refine (RD.out _).mono ?_
  rintro e wx ⟨rfl, kk, rfl⟩
  replace H1 := Lib.hid (Lw.drewN_below2 H1.out kk)
  refine hK.out _ _ H1.out (fun hHeld => ?_)
  clear hK H1
  try simp only [Act.put, List.setIfInBounds_toArray, List.set_cons_zero, List.set_cons_succ]
  refine wpAnyH_take (i := 13) (oi := ?oi1_13x8) (v := ?v1_13x8) ?hi1_13x8 (by kernel_rfl) (by kernel_rfl) (by kernel_rfl) ?hq1_13x8 ?hy1_13x8 hHeld ?rest1_13x8
  case hi1_13x8 => ((try simp only [List.getElem?_toArray, List.getElem?_cons_succ, List.getElem?_cons_zero]); (try rfl))
  case hq1_13x8 => exact fun _ _ _ h => h
  case hy1_13x8 => exact Or.inl ⟨by rfl, by intro w hSw; clear hSw; go_simp; try with_reducible rfl⟩
  try simp only [Act.put, List.setIfInBounds_toArray, List.set_cons_zero, List.set_cons_succ]
  refine wpAnyH_done (by kernel_rfl) ?_ _
  have HB := Lib.hid hHeld
  clear hHeld
  go_wp2_with (go_at_call 90; refine (NT.out _).mono ?_; rintro e w' ⟨rfl, rfl⟩)
  refine (D1.out _).mono ?_
  rintro e w' ⟨rfl, rfl⟩
  go_wp2_with (go_at_call 90; refine (NT.out _).mono ?_; rintro e w' ⟨rfl, rfl⟩)
  refine (D2.out _).mono ?_
  rintro e w' ⟨rfl, rfl⟩
  go_wp2_with fail
  go_ret2
  exact ⟨by first | (rw [K.out]; rfl) | (rw [K.out, ← S1, ← S0]; rfl), HB.out⟩

set_option maxRecDepth 100000 in
set_option maxHeartbeats 8000000 in
theorem rdeg9_zero (a : Int) (w : World) (h0 : -1296000000000 ≤ a) (h1 : a ≤ 1296000000000) (g1 : a < 0) (g2 : unN a.natAbs = 0) :
    Calls Tryz.prog 44 #[.int .i64 a, .int .i64 9] w fun e w' => e = .returned (.tuple #[.string (stL (Gt.degL a 9)), .int .i64 0]) ∧ Below w.heap.size w w' := by
  obtain ⟨m, em⟩ : ∃ m : Nat, a.natAbs = m := ⟨_, rfl⟩
  try rw [em] at g2
  have mb : m ≤ 1296000000000 := by omega
  have eN : Gt.degN m 9 = unN m := if_pos (by omega)
  have nb := un_le mb
  have K1 : Hid (a < 0 → 0 < unN m → Gt.degL a 9 = 45 :: Gt.degB (unN m) 9) := Lib.hid fun g1 g2 => by unfold Gt.degL; rw [em, eN, if_pos ⟨g1, g2⟩]
  have K2 : Hid (¬ (a < 0 ∧ 0 < unN m) → Gt.degL a 9 = Gt.degB (unN m) 9) := Lib.hid fun g => by unfold Gt.degL; rw [em, eN, if_neg g]
  have NT : Hid (∀ w : World, Calls Tryz.prog 90 #[.int .i64 9] w fun e w' => e = .returned (.int .i64 1000000000) ∧ w = w') := Lib.hid (fun w => Gp.rten_any 9 w (by omega))
  have NC : Hid (∀ w : World, Calls Tryz.prog 91 #[.int .i64 1000000000] w fun e w' => e = .returned (.int .i64 200000000) ∧ Below w.heap.size w w') := Lib.hid (fun w => by
    have := Gp.common_any 1000000000 w (by omega) (by omega)
    rw [show ((Nat.gcd 1000000000 3600000000 : Nat) : Int) = 200000000 by decide +kernel] at this
    exact this)
  have RD : Hid (∀ w : World, Calls Tryz.prog 89 #[.int .i64 ((m : Int) * 5), .int .i64 18] w fun e w' => e = .returned (.int .i64 (unN m : Int)) ∧ ∃ k, w' = w.drewN k) := Lib.hid fun w => by
    have := Gp.rrounded_any (m * 5) 18 w (by omega) (by omega) (by omega)
    unfold unN
    rw [Gt.rndN_eq]
    have e : ((m * 5 : Nat) : Int) = (m : Int) * 5 := by omega
    rw [e] at this
    exact this
  have B0 : ∀ n, Gt.degB n 9 = Lib.itoa ((n / 1000000000 : Nat) : Int) ++ 46 :: Gt.padL ((n % 1000000000 : Nat) : Int) 9 := fun _ => rfl
  have neg : a < 0 → -a = (m : Int) := fun h => by omega
  have pos : ¬ a < 0 → a = (m : Int) := fun h => by omega
  generalize unN m = n at *
  have B := Lib.hid (B0 n)
  clear B0 em eN
  have D1 := Lib.hid (fun w => digs1_any (n / 1000000000) w (by omega))
  have D2 := Lib.hid (fun w => digs15_any (n % 1000000000) 9 w (Nat.mod_lt _ (by omega)) (by omega))
  have P := Lib.hid (pad_dec (n % 1000000000) 9 (by omega) (Nat.mod_lt _ (by omega)))
  have t1 : (n : Int).tdiv 1000000000 = ((n / 1000000000 : Nat) : Int) := rfl
  have t2 : (n : Int).tmod 1000000000 = ((n % 1000000000 : Nat) : Int) := rfl
  have j1 : (n : Int) / 1000000000 = ((n / 1000000000 : Nat) : Int) := rfl
  have j2 : (n : Int) % 1000000000 = ((n % 1000000000 : Nat) : Int) := rfl
  have s9 : n / 1000000000 ≤ 360 := by omega
  have r9 : n % 1000000000 ≤ 1000000000 := by omega
  have l1 := Lib.itoa_length_le ((n / 1000000000 : Nat) : Int) (by omega) (by omega)
  generalize n / 1000000000 = s at *
  generalize n % 1000000000 = r at *
  rw [P.out] at B
  have l2 := At.decL_len 9 r
  clear P
  obtain ⟨L, hL⟩ : ∃ L, Lib.itoa (s : Int) = L := ⟨_, rfl⟩
  obtain ⟨q, hq⟩ : ∃ q, At.decL r 9 = q := ⟨_, rfl⟩
  rw [hL] at B D1 l1
  rw [hq] at B D2 l2
  clear hL hq
  have z1 : (stL L).size = L.length := stL_size L
  have z2 : (⟨q.toArray⟩ : ByteArray).size = q.length := stL_size q
  have S0 : stL L ++ (⟨#[46]⟩ : ByteArray) ++ (⟨q.toArray⟩ : ByteArray) = stL (L ++ 46 :: q) := by
    apply ByteArray.ext
    simp [ByteArray.data_append, stL]
  have S1 : (⟨#[45]⟩ : ByteArray) ++ stL (L ++ 46 :: q) = stL (45 :: (L ++ 46 :: q)) := by
    apply ByteArray.ext
    simp [ByteArray.data_append, stL]
  have W5 := Lib.hid (show IntKind.i64.wrap 5 = 5 by decide)
  have W18 := Lib.hid (show IntKind.i64.wrap 18 = 18 by decide)
  have WM := Lib.hid (show IntKind.i64.wrap ((m : Int) * 5) = (m : Int) * 5 from IntWalk.i64_in _ (by omega))
  have z3 : (stL (L ++ 46 :: q)).size = L.length + 10 := by rw [stL_size, List.length_append, List.length_cons, l2]
  have n1 : ¬ a < -1296000000000 := by omega
  have n2 : ¬ (1296000000000 : Int) < a := by omega
  have d1 : decide (a < -1296000000000) = false := decide_eq_false n1
  have d2 : decide (1296000000000 < a) = false := decide_eq_false n2
  have u1 : (1000000000 : Int).tdiv 200000000 = 5 := rfl
  have u2 : (3600000000 : Int).tdiv 200000000 = 18 := rfl
  have g3 : ¬ (0 : Int) < n := by omega
  have ng := neg g1
  have K := Lib.hid ((K2.out (fun h => by omega)).trans B.out)
  clear K1 K2 g2 neg pos B
  go_enter Tryz.func44, Tryz.ntmps44
  go_upto_region 6 with fail
  refine wp_region_held_drew (S := fun wx => Below w.heap.size w wx) (by kernel_rfl) (Below.refl _ _).drew (fun hHeld => ?_)
  refine wpAnyH_take (i := 0) (oi := ?oi2_0x1) (v := ?v2_0x1) ?hi2_0x1 (by kernel_rfl) (by kernel_rfl) (by kernel_rfl) ?hq2_0x1 ?hy2_0x1 hHeld ?rest2_0x1
  case hi2_0x1 => ((try simp only [List.getElem?_toArray, List.getElem?_cons_succ, List.getElem?_cons_zero]); (try rfl))
  case hq2_0x1 => exact fun _ _ _ h => h
  case hy2_0x1 => exact Or.inl ⟨by rfl, by intro w hSw; clear hSw; go_simp; try with_reducible rfl⟩
  try simp only [Act.put, List.setIfInBounds_toArray, List.set_cons_zero, List.set_cons_succ]
  refine wpAnyH_take (i := 1) (oi := ?oi2_1x2) (v := ?v2_1x2) ?hi2_1x2 (by kernel_rfl) (by kernel_rfl) (by kernel_rfl) ?hq2_1x2 ?hy2_1x2 hHeld ?rest2_1x2
  case hi2_1x2 => ((try simp only [List.getElem?_toArray, List.getElem?_cons_succ, List.getElem?_cons_zero]); (try rfl))
  case hq2_1x2 => exact fun _ _ _ h => h
  case hy2_1x2 => exact Or.inl ⟨by rfl, by intro w hSw; clear hSw; go_simp; try with_reducible rfl⟩
  try simp only [Act.put, List.setIfInBounds_toArray, List.set_cons_zero, List.set_cons_succ]
  refine wpAnyH_take (i := 3) (oi := ?oi2_3x3) (v := ?v2_3x3) ?hi2_3x3 (by kernel_rfl) (by kernel_rfl) (by kernel_rfl) ?hq2_3x3 ?hy2_3x3 hHeld ?rest2_3x3
  case hi2_3x3 => ((try simp only [List.getElem?_toArray, List.getElem?_cons_succ, List.getElem?_cons_zero]); (try rfl))
  case hq2_3x3 => exact fun _ _ _ h => h
  case hy2_3x3 => exact Or.inl ⟨by rfl, by intro w hSw; clear hSw; go_simp; try with_reducible rfl⟩
  try simp only [Act.put, List.setIfInBounds_toArray, List.set_cons_zero, List.set_cons_succ]
  refine wpAnyH_take (i := 8) (oi := ?oi2_8x4) (v := ?v2_8x4) ?hi2_8x4 (by kernel_rfl) (by kernel_rfl) (by kernel_rfl) ?hq2_8x4 ?hy2_8x4 hHeld ?rest2_8x4
  case hi2_8x4 => ((try simp only [List.getElem?_toArray, List.getElem?_cons_succ, List.getElem?_cons_zero]); (try rfl))
  case hq2_8x4 => exact fun _ _ _ h => h
  case hy2_8x4 => exact Or.inl ⟨by rfl, by intro w hSw; clear hSw; go_simp; try with_reducible rfl⟩
  try simp only [Act.put, List.setIfInBounds_toArray, List.set_cons_zero, List.set_cons_succ]
  refine wpAnyH_ready (rs := [2]) (by kernel_rfl) (by simp) ?_
  refine AllReadyH.cons rfl (fun K' hK => ?_) AllReadyH.nil
  have H1 := Lib.hid hHeld
  clear hHeld
  go_simp
  refine (NT.out _).mono ?_
  rintro e wx ⟨rfl, rfl⟩
  replace H1 := Lib.hid (H1.out)
  refine hK.out _ _ H1.out (fun hHeld => ?_)
  clear hK H1
  try simp only [Act.put, List.setIfInBounds_toArray, List.set_cons_zero, List.set_cons_succ]
  refine wpAnyH_ready (rs := [4]) (by kernel_rfl) (by simp) ?_
  refine AllReadyH.cons rfl (fun K' hK => ?_) AllReadyH.nil
  have H1 := Lib.hid hHeld
  clear hHeld
  go_simp
  refine (NT.out _).mono ?_
  rintro e wx ⟨rfl, rfl⟩
  replace H1 := Lib.hid (H1.out)
  refine hK.out _ _ H1.out (fun hHeld => ?_)
  clear hK H1
  try simp only [Act.put, List.setIfInBounds_toArray, List.set_cons_zero, List.set_cons_succ]
  refine wpAnyH_ready (rs := [5]) (by kernel_rfl) (by simp) ?_
  refine AllReadyH.cons rfl (fun K' hK => ?_) AllReadyH.nil
  have H1 := Lib.hid hHeld
  clear hHeld
  go_simp
  refine (NC.out _).mono ?_
  rintro e wx ⟨rfl, hb⟩
  replace H1 := Lib.hid (below_then H1.out hb)
  refine hK.out _ _ H1.out (fun hHeld => ?_)
  clear hK H1
  try simp only [Act.put, List.setIfInBounds_toArray, List.set_cons_zero, List.set_cons_succ]
  refine wpAnyH_take (i := 6) (oi := ?oi2_6x5) (v := ?v2_6x5) ?hi2_6x5 (by kernel_rfl) (by kernel_rfl) (by kernel_rfl) ?hq2_6x5 ?hy2_6x5 hHeld ?rest2_6x5
  case hi2_6x5 => ((try simp only [List.getElem?_toArray, List.getElem?_cons_succ, List.getElem?_cons_zero]); (try rfl))
  case hq2_6x5 => exact fun _ _ _ h => h
  case hy2_6x5 => exact Or.inl ⟨by rfl, by intro w hSw; clear hSw; go_simp; try with_reducible rfl⟩
  try simp only [Act.put, List.setIfInBounds_toArray, List.set_cons_zero, List.set_cons_succ]
  refine wpAnyH_take (i := 7) (oi := ?oi2_7x6) (v := ?v2_7x6) ?hi2_7x6 (by kernel_rfl) (by kernel_rfl) (by kernel_rfl) ?hq2_7x6 ?hy2_7x6 hHeld ?rest2_7x6
  case hi2_7x6 => ((try simp only [List.getElem?_toArray, List.getElem?_cons_succ, List.getElem?_cons_zero]); (try rfl))
  case hq2_7x6 => exact fun _ _ _ h => h
  case hy2_7x6 => exact Or.inl ⟨by rfl, by intro w hSw; clear hSw; go_simp; try with_reducible rfl⟩
  try simp only [Act.put, List.setIfInBounds_toArray, List.set_cons_zero, List.set_cons_succ]
  refine wpAnyH_ready (rs := [9]) (by kernel_rfl) (by simp) ?_
  refine AllReadyH.cons rfl (fun K' hK => ?_) AllReadyH.nil
  have H1 := Lib.hid hHeld
  clear hHeld
  go_simp
  refine (NT.out _).mono ?_
  rintro e wx ⟨rfl, rfl⟩
  replace H1 := Lib.hid (H1.out)
  refine hK.out _ _ H1.out (fun hHeld => ?_)
  clear hK H1
  try simp only [Act.put, List.setIfInBounds_toArray, List.set_cons_zero, List.set_cons_succ]
  refine wpAnyH_ready (rs := [10]) (by kernel_rfl) (by simp) ?_
  refine AllReadyH.cons rfl (fun K' hK => ?_) AllReadyH.nil
  have H1 := Lib.hid hHeld
  clear hHeld
  go_simp
  refine (NC.out _).mono ?_
  rintro e wx ⟨rfl, hb⟩
  replace H1 := Lib.hid (below_then H1.out hb)
  refine hK.out _ _ H1.out (fun hHeld => ?_)
  clear hK H1
  try simp only [Act.put, List.setIfInBounds_toArray, List.set_cons_zero, List.set_cons_succ]
  refine wpAnyH_take (i := 11) (oi := ?oi2_11x7) (v := ?v2_11x7) ?hi2_11x7 (by kernel_rfl) (by kernel_rfl) (by kernel_rfl) ?hq2_11x7 ?hy2_11x7 hHeld ?rest2_11x7
  case hi2_11x7 => ((try simp only [List.getElem?_toArray, List.getElem?_cons_succ, List.getElem?_cons_zero]); (try rfl))
  case hq2_11x7 => exact fun _ _ _ h => h
  case hy2_11x7 => exact Or.inl ⟨by rfl, by intro w hSw; clear hSw; go_simp; try with_reducible rfl⟩
  try simp only [Act.put, List.setIfInBounds_toArray, List.set_cons_zero, List.set_cons_succ]
  refine wpAnyH_ready (rs := [12]) (by kernel_rfl) (by simp) ?_
  refine AllReadyH.cons rfl (fun K' hK => ?_) AllReadyH.nil
  have H1 := Lib.hid hHeld
  clear hHeld
  go_simp
  rw [W5.out, W18.out, WM.out]
  refine (RD.out _).mono ?_
  rintro e wx ⟨rfl, kk, rfl⟩
  replace H1 := Lib.hid (Lw.drewN_below2 H1.out kk)
  refine hK.out _ _ H1.out (fun hHeld => ?_)
  clear hK H1
  try simp only [Act.put, List.setIfInBounds_toArray, List.set_cons_zero, List.set_cons_succ]
  refine wpAnyH_take (i := 13) (oi := ?oi2_13x8) (v := ?v2_13x8) ?hi2_13x8 (by kernel_rfl) (by kernel_rfl) (by kernel_rfl) ?hq2_13x8 ?hy2_13x8 hHeld ?rest2_13x8
  case hi2_13x8 => ((try simp only [List.getElem?_toArray, List.getElem?_cons_succ, List.getElem?_cons_zero]); (try rfl))
  case hq2_13x8 => exact fun _ _ _ h => h
  case hy2_13x8 => exact Or.inl ⟨by rfl, by intro w hSw; clear hSw; go_simp; try with_reducible rfl⟩
  try simp only [Act.put, List.setIfInBounds_toArray, List.set_cons_zero, List.set_cons_succ]
  refine wpAnyH_done (by kernel_rfl) ?_ _
  have HB := Lib.hid hHeld
  clear hHeld
  go_wp2_with (go_at_call 90; refine (NT.out _).mono ?_; rintro e w' ⟨rfl, rfl⟩)
  refine (D1.out _).mono ?_
  rintro e w' ⟨rfl, rfl⟩
  go_wp2_with (go_at_call 90; refine (NT.out _).mono ?_; rintro e w' ⟨rfl, rfl⟩)
  refine (D2.out _).mono ?_
  rintro e w' ⟨rfl, rfl⟩
  go_wp2_with fail
  go_ret2
  exact ⟨by first | (rw [K.out]; rfl) | (rw [K.out, ← S0]; rfl), HB.out⟩

set_option maxRecDepth 100000 in
set_option maxHeartbeats 8000000 in
theorem rdeg9_pos (a : Int) (w : World) (h0 : -1296000000000 ≤ a) (h1 : a ≤ 1296000000000) (g1 : ¬ a < 0) :
    Calls Tryz.prog 44 #[.int .i64 a, .int .i64 9] w fun e w' => e = .returned (.tuple #[.string (stL (Gt.degL a 9)), .int .i64 0]) ∧ Below w.heap.size w w' := by
  obtain ⟨m, em⟩ : ∃ m : Nat, a.natAbs = m := ⟨_, rfl⟩
  try rw [em] at g2
  have mb : m ≤ 1296000000000 := by omega
  have eN : Gt.degN m 9 = unN m := if_pos (by omega)
  have nb := un_le mb
  have K1 : Hid (a < 0 → 0 < unN m → Gt.degL a 9 = 45 :: Gt.degB (unN m) 9) := Lib.hid fun g1 g2 => by unfold Gt.degL; rw [em, eN, if_pos ⟨g1, g2⟩]
  have K2 : Hid (¬ (a < 0 ∧ 0 < unN m) → Gt.degL a 9 = Gt.degB (unN m) 9) := Lib.hid fun g => by unfold Gt.degL; rw [em, eN, if_neg g]
  have NT : Hid (∀ w : World, Calls Tryz.prog 90 #[.int .i64 9] w fun e w' => e = .returned (.int .i64 1000000000) ∧ w = w') := Lib.hid (fun w => Gp.rten_any 9 w (by omega))
  have NC : Hid (∀ w : World, Calls Tryz.prog 91 #[.int .i64 1000000000] w fun e w' => e = .returned (.int .i64 200000000) ∧ Below w.heap.size w w') := Lib.hid (fun w => by
    have := Gp.common_any 1000000000 w (by omega) (by omega)
    rw [show ((Nat.gcd 1000000000 3600000000 : Nat) : Int) = 200000000 by decide +kernel] at this
    exact this)
  have RD : Hid (∀ w : World, Calls Tryz.prog 89 #[.int .i64 ((m : Int) * 5), .int .i64 18] w fun e w' => e = .returned (.int .i64 (unN m : Int)) ∧ ∃ k, w' = w.drewN k) := Lib.hid fun w => by
    have := Gp.rrounded_any (m * 5) 18 w (by omega) (by omega) (by omega)
    unfold unN
    rw [Gt.rndN_eq]
    have e : ((m * 5 : Nat) : Int) = (m : Int) * 5 := by omega
    rw [e] at this
    exact this
  have B0 : ∀ n, Gt.degB n 9 = Lib.itoa ((n / 1000000000 : Nat) : Int) ++ 46 :: Gt.padL ((n % 1000000000 : Nat) : Int) 9 := fun _ => rfl
  have neg : a < 0 → -a = (m : Int) := fun h => by omega
  have pos : ¬ a < 0 → a = (m : Int) := fun h => by omega
  generalize unN m = n at *
  have B := Lib.hid (B0 n)
  clear B0 em eN
  have D1 := Lib.hid (fun w => digs1_any (n / 1000000000) w (by omega))
  have D2 := Lib.hid (fun w => digs15_any (n % 1000000000) 9 w (Nat.mod_lt _ (by omega)) (by omega))
  have P := Lib.hid (pad_dec (n % 1000000000) 9 (by omega) (Nat.mod_lt _ (by omega)))
  have t1 : (n : Int).tdiv 1000000000 = ((n / 1000000000 : Nat) : Int) := rfl
  have t2 : (n : Int).tmod 1000000000 = ((n % 1000000000 : Nat) : Int) := rfl
  have j1 : (n : Int) / 1000000000 = ((n / 1000000000 : Nat) : Int) := rfl
  have j2 : (n : Int) % 1000000000 = ((n % 1000000000 : Nat) : Int) := rfl
  have s9 : n / 1000000000 ≤ 360 := by omega
  have r9 : n % 1000000000 ≤ 1000000000 := by omega
  have l1 := Lib.itoa_length_le ((n / 1000000000 : Nat) : Int) (by omega) (by omega)
  generalize n / 1000000000 = s at *
  generalize n % 1000000000 = r at *
  rw [P.out] at B
  have l2 := At.decL_len 9 r
  clear P
  obtain ⟨L, hL⟩ : ∃ L, Lib.itoa (s : Int) = L := ⟨_, rfl⟩
  obtain ⟨q, hq⟩ : ∃ q, At.decL r 9 = q := ⟨_, rfl⟩
  rw [hL] at B D1 l1
  rw [hq] at B D2 l2
  clear hL hq
  have z1 : (stL L).size = L.length := stL_size L
  have z2 : (⟨q.toArray⟩ : ByteArray).size = q.length := stL_size q
  have S0 : stL L ++ (⟨#[46]⟩ : ByteArray) ++ (⟨q.toArray⟩ : ByteArray) = stL (L ++ 46 :: q) := by
    apply ByteArray.ext
    simp [ByteArray.data_append, stL]
  have S1 : (⟨#[45]⟩ : ByteArray) ++ stL (L ++ 46 :: q) = stL (45 :: (L ++ 46 :: q)) := by
    apply ByteArray.ext
    simp [ByteArray.data_append, stL]
  have W5 := Lib.hid (show IntKind.i64.wrap 5 = 5 by decide)
  have W18 := Lib.hid (show IntKind.i64.wrap 18 = 18 by decide)
  have WM := Lib.hid (show IntKind.i64.wrap ((m : Int) * 5) = (m : Int) * 5 from IntWalk.i64_in _ (by omega))
  have z3 : (stL (L ++ 46 :: q)).size = L.length + 10 := by rw [stL_size, List.length_append, List.length_cons, l2]
  have n1 : ¬ a < -1296000000000 := by omega
  have n2 : ¬ (1296000000000 : Int) < a := by omega
  have d1 : decide (a < -1296000000000) = false := decide_eq_false n1
  have d2 : decide (1296000000000 < a) = false := decide_eq_false n2
  have u1 : (1000000000 : Int).tdiv 200000000 = 5 := rfl
  have u2 : (3600000000 : Int).tdiv 200000000 = 18 := rfl
  have ng := pos g1
  have K := Lib.hid ((K2.out (fun h => g1 h.1)).trans B.out)
  rw [ng] at K
  clear K1 K2 neg pos B
  go_enter Tryz.func44, Tryz.ntmps44
  go_upto_region 6 with fail
  refine wp_region_held_drew (S := fun wx => Below w.heap.size w wx) (by kernel_rfl) (Below.refl _ _).drew (fun hHeld => ?_)
  refine wpAnyH_take (i := 0) (oi := ?oi3_0x1) (v := ?v3_0x1) ?hi3_0x1 (by kernel_rfl) (by kernel_rfl) (by kernel_rfl) ?hq3_0x1 ?hy3_0x1 hHeld ?rest3_0x1
  case hi3_0x1 => ((try simp only [List.getElem?_toArray, List.getElem?_cons_succ, List.getElem?_cons_zero]); (try rfl))
  case hq3_0x1 => exact fun _ _ _ h => h
  case hy3_0x1 => exact Or.inl ⟨by rfl, by intro w hSw; clear hSw; go_simp; try with_reducible rfl⟩
  try simp only [Act.put, List.setIfInBounds_toArray, List.set_cons_zero, List.set_cons_succ]
  refine wpAnyH_take (i := 1) (oi := ?oi3_1x2) (v := ?v3_1x2) ?hi3_1x2 (by kernel_rfl) (by kernel_rfl) (by kernel_rfl) ?hq3_1x2 ?hy3_1x2 hHeld ?rest3_1x2
  case hi3_1x2 => ((try simp only [List.getElem?_toArray, List.getElem?_cons_succ, List.getElem?_cons_zero]); (try rfl))
  case hq3_1x2 => exact fun _ _ _ h => h
  case hy3_1x2 => exact Or.inl ⟨by rfl, by intro w hSw; clear hSw; go_simp; try with_reducible rfl⟩
  try simp only [Act.put, List.setIfInBounds_toArray, List.set_cons_zero, List.set_cons_succ]
  refine wpAnyH_take (i := 3) (oi := ?oi3_3x3) (v := ?v3_3x3) ?hi3_3x3 (by kernel_rfl) (by kernel_rfl) (by kernel_rfl) ?hq3_3x3 ?hy3_3x3 hHeld ?rest3_3x3
  case hi3_3x3 => ((try simp only [List.getElem?_toArray, List.getElem?_cons_succ, List.getElem?_cons_zero]); (try rfl))
  case hq3_3x3 => exact fun _ _ _ h => h
  case hy3_3x3 => exact Or.inl ⟨by rfl, by intro w hSw; clear hSw; go_simp; try with_reducible rfl⟩
  try simp only [Act.put, List.setIfInBounds_toArray, List.set_cons_zero, List.set_cons_succ]
  refine wpAnyH_take (i := 8) (oi := ?oi3_8x4) (v := ?v3_8x4) ?hi3_8x4 (by kernel_rfl) (by kernel_rfl) (by kernel_rfl) ?hq3_8x4 ?hy3_8x4 hHeld ?rest3_8x4
  case hi3_8x4 => ((try simp only [List.getElem?_toArray, List.getElem?_cons_succ, List.getElem?_cons_zero]); (try rfl))
  case hq3_8x4 => exact fun _ _ _ h => h
  case hy3_8x4 => exact Or.inl ⟨by rfl, by intro w hSw; clear hSw; go_simp; try with_reducible rfl⟩
  try simp only [Act.put, List.setIfInBounds_toArray, List.set_cons_zero, List.set_cons_succ]
  refine wpAnyH_ready (rs := [2]) (by kernel_rfl) (by simp) ?_
  refine AllReadyH.cons rfl (fun K' hK => ?_) AllReadyH.nil
  have H1 := Lib.hid hHeld
  clear hHeld
  go_simp
  refine (NT.out _).mono ?_
  rintro e wx ⟨rfl, rfl⟩
  replace H1 := Lib.hid (H1.out)
  refine hK.out _ _ H1.out (fun hHeld => ?_)
  clear hK H1
  try simp only [Act.put, List.setIfInBounds_toArray, List.set_cons_zero, List.set_cons_succ]
  refine wpAnyH_ready (rs := [4]) (by kernel_rfl) (by simp) ?_
  refine AllReadyH.cons rfl (fun K' hK => ?_) AllReadyH.nil
  have H1 := Lib.hid hHeld
  clear hHeld
  go_simp
  refine (NT.out _).mono ?_
  rintro e wx ⟨rfl, rfl⟩
  replace H1 := Lib.hid (H1.out)
  refine hK.out _ _ H1.out (fun hHeld => ?_)
  clear hK H1
  try simp only [Act.put, List.setIfInBounds_toArray, List.set_cons_zero, List.set_cons_succ]
  refine wpAnyH_ready (rs := [5]) (by kernel_rfl) (by simp) ?_
  refine AllReadyH.cons rfl (fun K' hK => ?_) AllReadyH.nil
  have H1 := Lib.hid hHeld
  clear hHeld
  go_simp
  refine (NC.out _).mono ?_
  rintro e wx ⟨rfl, hb⟩
  replace H1 := Lib.hid (below_then H1.out hb)
  refine hK.out _ _ H1.out (fun hHeld => ?_)
  clear hK H1
  try simp only [Act.put, List.setIfInBounds_toArray, List.set_cons_zero, List.set_cons_succ]
  refine wpAnyH_take (i := 6) (oi := ?oi3_6x5) (v := ?v3_6x5) ?hi3_6x5 (by kernel_rfl) (by kernel_rfl) (by kernel_rfl) ?hq3_6x5 ?hy3_6x5 hHeld ?rest3_6x5
  case hi3_6x5 => ((try simp only [List.getElem?_toArray, List.getElem?_cons_succ, List.getElem?_cons_zero]); (try rfl))
  case hq3_6x5 => exact fun _ _ _ h => h
  case hy3_6x5 => exact Or.inl ⟨by rfl, by intro w hSw; clear hSw; go_simp; try with_reducible rfl⟩
  try simp only [Act.put, List.setIfInBounds_toArray, List.set_cons_zero, List.set_cons_succ]
  refine wpAnyH_take (i := 7) (oi := ?oi3_7x6) (v := ?v3_7x6) ?hi3_7x6 (by kernel_rfl) (by kernel_rfl) (by kernel_rfl) ?hq3_7x6 ?hy3_7x6 hHeld ?rest3_7x6
  case hi3_7x6 => ((try simp only [List.getElem?_toArray, List.getElem?_cons_succ, List.getElem?_cons_zero]); (try rfl))
  case hq3_7x6 => exact fun _ _ _ h => h
  case hy3_7x6 => exact Or.inl ⟨by rfl, by intro w hSw; clear hSw; go_simp; try with_reducible rfl⟩
  try simp only [Act.put, List.setIfInBounds_toArray, List.set_cons_zero, List.set_cons_succ]
  refine wpAnyH_ready (rs := [9]) (by kernel_rfl) (by simp) ?_
  refine AllReadyH.cons rfl (fun K' hK => ?_) AllReadyH.nil
  have H1 := Lib.hid hHeld
  clear hHeld
  go_simp
  refine (NT.out _).mono ?_
  rintro e wx ⟨rfl, rfl⟩
  replace H1 := Lib.hid (H1.out)
  refine hK.out _ _ H1.out (fun hHeld => ?_)
  clear hK H1
  try simp only [Act.put, List.setIfInBounds_toArray, List.set_cons_zero, List.set_cons_succ]
  refine wpAnyH_ready (rs := [10]) (by kernel_rfl) (by simp) ?_
  refine AllReadyH.cons rfl (fun K' hK => ?_) AllReadyH.nil
  have H1 := Lib.hid hHeld
  clear hHeld
  go_simp
  refine (NC.out _).mono ?_
  rintro e wx ⟨rfl, hb⟩
  replace H1 := Lib.hid (below_then H1.out hb)
  refine hK.out _ _ H1.out (fun hHeld => ?_)
  clear hK H1
  try simp only [Act.put, List.setIfInBounds_toArray, List.set_cons_zero, List.set_cons_succ]
  refine wpAnyH_take (i := 11) (oi := ?oi3_11x7) (v := ?v3_11x7) ?hi3_11x7 (by kernel_rfl) (by kernel_rfl) (by kernel_rfl) ?hq3_11x7 ?hy3_11x7 hHeld ?rest3_11x7
  case hi3_11x7 => ((try simp only [List.getElem?_toArray, List.getElem?_cons_succ, List.getElem?_cons_zero]); (try rfl))
  case hq3_11x7 => exact fun _ _ _ h => h
  case hy3_11x7 => exact Or.inl ⟨by rfl, by intro w hSw; clear hSw; go_simp; try with_reducible rfl⟩
  try simp only [Act.put, List.setIfInBounds_toArray, List.set_cons_zero, List.set_cons_succ]
  refine wpAnyH_ready (rs := [12]) (by kernel_rfl) (by simp) ?_
  refine AllReadyH.cons rfl (fun K' hK => ?_) AllReadyH.nil
  have H1 := Lib.hid hHeld
  clear hHeld
  go_simp
  rw [W5.out, W18.out, WM.out]
  refine (RD.out _).mono ?_
  rintro e wx ⟨rfl, kk, rfl⟩
  replace H1 := Lib.hid (Lw.drewN_below2 H1.out kk)
  refine hK.out _ _ H1.out (fun hHeld => ?_)
  clear hK H1
  try simp only [Act.put, List.setIfInBounds_toArray, List.set_cons_zero, List.set_cons_succ]
  refine wpAnyH_take (i := 13) (oi := ?oi3_13x8) (v := ?v3_13x8) ?hi3_13x8 (by kernel_rfl) (by kernel_rfl) (by kernel_rfl) ?hq3_13x8 ?hy3_13x8 hHeld ?rest3_13x8
  case hi3_13x8 => ((try simp only [List.getElem?_toArray, List.getElem?_cons_succ, List.getElem?_cons_zero]); (try rfl))
  case hq3_13x8 => exact fun _ _ _ h => h
  case hy3_13x8 => exact Or.inl ⟨by rfl, by intro w hSw; clear hSw; go_simp; try with_reducible rfl⟩
  try simp only [Act.put, List.setIfInBounds_toArray, List.set_cons_zero, List.set_cons_succ]
  refine wpAnyH_done (by kernel_rfl) ?_ _
  have HB := Lib.hid hHeld
  clear hHeld
  go_wp2_with (go_at_call 90; refine (NT.out _).mono ?_; rintro e w' ⟨rfl, rfl⟩)
  refine (D1.out _).mono ?_
  rintro e w' ⟨rfl, rfl⟩
  go_wp2_with (go_at_call 90; refine (NT.out _).mono ?_; rintro e w' ⟨rfl, rfl⟩)
  refine (D2.out _).mono ?_
  rintro e w' ⟨rfl, rfl⟩
  go_wp2_with fail
  go_ret2
  exact ⟨by first | (rw [K.out]; rfl) | (rw [K.out, ← S0]; rfl), HB.out⟩

theorem rdeg9_any (a : Int) (w : World) (h0 : -1296000000000 ≤ a) (h1 : a ≤ 1296000000000) :
    Calls Tryz.prog 44 #[.int .i64 a, .int .i64 9] w fun e w' => e = .returned (.tuple #[.string (stL (Gt.degL a 9)), .int .i64 0]) ∧ Below w.heap.size w w' := by
  by_cases g : a < 0
  · by_cases n : 0 < unN a.natAbs
    · exact rdeg9_neg a w h0 h1 g n
    · exact rdeg9_zero a w h0 h1 g (by omega)
  · exact rdeg9_pos a w h0 h1 g
end Vw
end Go.Proofs.YtaghilgfldaaiaaGreatDoor
/-
  The walk of line of the reference of observations.
-/
namespace Go.Proofs.YtaghilgfldaaiaaGreatDoor
namespace Ow
open Go.RowKit Lw Go.Proofs.YtaghilgfldaaiaaGreatDoor.Ap Go.Proofs.YtaghilgfldaaiaaGreatDoor.Op Go.Proofs.YtaghilgfldaaiaaGreatDoor.Mp Go.Proofs.YtaghilgfldaaiaaGreatDoor.Mw Go.Proofs.YtaghilgfldaaiaaGreatDoor.At

theorem one_u8 (u : UInt8) (W : World) (b : Nat) (h : W.cell? ⟨b, 0, none⟩ = some (.int .u8 (u.toNat : Int))) : (convert 82 9 (.slice (some ⟨b, 0, none⟩) 1 1)).run Tryz.prog W = .ok (.string ⟨#[u]⟩) W :=
  run_convert_bytes_back (P := Tryz.prog) W 82 9 5 ⟨b, 0, none⟩ 1 [u] Tryz.underlying82 Tryz.underlying5 Tryz.underlying9 (fun j hj => by
    have hj : j < 1 := hj
    obtain rfl : j = 0 := by omega
    rw [Addr.add_mid, h]
    rfl)
end Ow
end Go.Proofs.YtaghilgfldaaiaaGreatDoor
/-
  The walk of the reference's Fields.
-/
namespace Go.Proofs.YtaghilgfldaaiaaGreatDoor
namespace Vw
open Go.RowKit Lw Go.Proofs.YtaghilgfldaaiaaGreatDoor.Ap Go.Proofs.YtaghilgfldaaiaaGreatDoor.Vp Go.Proofs.YtaghilgfldaaiaaGreatDoor.Op Go.Proofs.YtaghilgfldaaiaaGreatDoor.Ow Go.Proofs.YtaghilgfldaaiaaGreatDoor.Mp Go.Proofs.YtaghilgfldaaiaaGreatDoor.Mw Go.Proofs.YtaghilgfldaaiaaGreatDoor.At

theorem gx_next {w0 w : World} {o : Ob} {l : Array Value} {ty : TypeId} (h : GX w0 o w) : GX w0 o (w.alloc (.cells l ty)) := h.call ((Below.refl _ _).alloc (Nat.le_refl _) _)
def RFieldsPost (o : Ob) (w : World) (e : Ending) (w' : World) : Prop := ∃ (T : ByteArray) (b : Nat), TextIs o.t 6 T 0 ∧ e = .returned (.slice (some ⟨b, 0, none⟩) 8 8) ∧ w.heap.size ≤ b ∧ Rw w' b (strC (fieldL o T)) ∧ Below w.heap.size w w'
theorem mag_str {m : Int} {n : Nat} (hn : m.natAbs = n) (h9 : ¬ m = 9999) (hm : ¬ m < 0) : stL (Lib.itoa ((n / 100 : Nat) : Int)) ++ (⟨#[46]⟩ : ByteArray) ++ (⟨(decL (n % 100) 2).toArray⟩ : ByteArray) = stL (Vp.magF m) := by
  have e : Vp.magF m = Lib.itoa ((n / 100 : Nat) : Int) ++ (46 :: decL (n % 100) 2) := by
    unfold Vp.magF
    rw [if_neg h9, magB_list, if_neg hm, hn, List.nil_append, decL_two]
    rw [show n % 100 / 10 % 10 = n / 10 % 10 by omega, show n % 100 % 10 = n % 10 by omega]
  rw [e]
  apply ByteArray.ext
  simp [ByteArray.data_append, stL]
theorem mag_str2 {m : Int} {n : Nat} (hn : m.natAbs = n) (h9 : ¬ m = 9999) (hm : m < 0) : (⟨#[45]⟩ : ByteArray) ++ (stL (Lib.itoa ((n / 100 : Nat) : Int)) ++ (⟨#[46]⟩ : ByteArray) ++ (⟨(decL (n % 100) 2).toArray⟩ : ByteArray)) = stL (Vp.magF m) := by
  have e : Vp.magF m = 45 :: (Lib.itoa ((n / 100 : Nat) : Int) ++ (46 :: decL (n % 100) 2)) := by
    unfold Vp.magF
    rw [if_neg h9, magB_list, if_pos hm, hn, decL_two]
    rw [show n % 100 / 10 % 10 = n / 10 % 10 by omega, show n % 100 % 10 = n % 10 by omega]
    rfl
  rw [e]
  apply ByteArray.ext
  simp [ByteArray.data_append, stL]
theorem band_str {b : Int} {u : UInt8} (hb : ¬ b = 32) (hu : u = UInt8.ofNat b.toNat) : (⟨#[u]⟩ : ByteArray) = stL (bandF b) := by
  unfold bandF
  rw [if_neg hb, hu]
  rfl
set_option maxRecDepth 100000 in
set_option maxHeartbeats 16000000 in
theorem rfields_any (o : Ob) (w : World) (t0 : -9223372036854775808 ≤ o.t) (t1 : o.t ≤ 9223372036854775807) (ok : okO o) : Calls Tryz.prog 18 #[obsV o] w (RFieldsPost o w) := by
  have X0 := Lib.hid (GX.new w o)
  have OK := Lib.hid ok
  obtain ⟨ot, on, os, ow, or0, or1, od0, od1, og0, og1, om⟩ := ok
  have OM := Lib.hid om
  have TX := Lib.hid (fun w' => At.rtext_any o.t 6 w' t0 t1)
  have D1 := Lib.hid (fun w' => rdeg9_any o.ra w' (by omega) (by omega))
  have D2 := Lib.hid (fun w' => rdeg9_any o.dec w' (by omega) (by omega))
  obtain ⟨sn, hs⟩ := Int.eq_ofNat_of_zero_le (show 0 ≤ o.sg by omega)
  have SG := Lib.hid (fun w' => dec1_any sn w' (by omega))
  rw [← hs] at SG
  clear ot on os ow or0 or1 od0 od1 og0 og1 om t0 t1 hs
  go_enter Tryz.func18, Tryz.ntmps18
  have q := X0.out.bx.cell (j := 2) (v := _) rfl
  go_wp2_with fail
  clear q
  refine (TX.out _).mono ?_
  rintro e w2 ⟨T, c, rfl, hT, hb⟩
  obtain rfl : c = 0 := by
    have ot := OK.out.1
    unfold timeP at ot
    rcases hT with ⟨h, _, _⟩ | ⟨_, _, h, _, _⟩ | ⟨_, _, _, _, _, _, _, _, _, _, _, h⟩
    · omega
    · omega
    · exact h
  have HTX := Lib.hid hT
  have X2 := Lib.hid (X0.out.call hb)
  clear hb X0 TX hT
  have q := X2.out.bx.cell (j := 3) (v := _) rfl
  go_wp2_with fail
  clear q
  refine (D1.out _).mono ?_
  rintro e w3 ⟨rfl, hb⟩
  have X3 := Lib.hid (X2.out.call hb)
  clear hb X2 D1
  have q := X3.out.bx.cell (j := 4) (v := _) rfl
  go_wp2_with fail
  clear q
  refine (D2.out _).mono ?_
  rintro e w4 ⟨rfl, hb⟩
  have X4 := Lib.hid (X3.out.call hb)
  clear hb X3 D2
  have q := X4.out.bx.cell (j := 6) (v := _) rfl
  go_upto_if 32 with fail
  go_cut [9] (fun v wx => v = .string (stL (Vp.magF o.mag)) ∧ GX w o wx)
  case first =>
    by_cases h9 : o.mag = 9999
    · have e0 : (⟨#[]⟩ : ByteArray) = stL (Vp.magF o.mag) := by unfold Vp.magF; rw [if_pos h9]; rfl
      have E := Lib.hid e0
      have c9 : (o.mag == 9999) = true := beq_iff_eq.2 h9
      clear e0
      go_wp2_with fail
      go_meet
      exact ⟨by rw [← E.out], X4.out⟩
    · have mb := Ow.mag_bd OM.out h9
      have c9 : (o.mag == 9999) = false := beq_eq_false_iff_ne.2 h9
      obtain ⟨n, hn⟩ : ∃ n, o.mag.natAbs = n := ⟨_, rfl⟩
      have em : max o.mag (-o.mag) = (n : Int) := by omega
      have nb : n ≤ 3000 := by omega
      have S1 := Lib.hid (fun h => mag_str hn h9 h)
      have S2 := Lib.hid (fun h => mag_str2 hn h9 h)
      have i1 : ((n / 100 : Nat) : Int) = (n : Int) / 100 := by omega
      have i2 : ((n % 100 : Nat) : Int) = (n : Int) % 100 := by omega
      have I1 := Lib.hid (fun w => dec1_any (n / 100) w (by omega))
      have I2 := Lib.hid (fun w => decG_any (n % 100) 2 2 w (Nat.mod_lt _ (by omega)) (Nat.le_refl _) (Or.inl rfl) (by omega))
      have l1 := Lib.itoa_length_le ((n / 100 : Nat) : Int) (by omega) (by omega)
      have l2 := At.decL_len 2 (n % 100)
      rw [i1] at I1
      rw [i2] at I2
      obtain ⟨L, hL⟩ : ∃ L, stL (Lib.itoa ((n / 100 : Nat) : Int)) = L := ⟨_, rfl⟩
      obtain ⟨D, hD⟩ : ∃ D : ByteArray, (⟨(decL (n % 100) 2).toArray⟩ : ByteArray) = D := ⟨_, rfl⟩
      have zL : L.size ≤ 21 := by rw [← hL, stL_size]; exact l1
      have zD : D.size = 2 := by rw [← hD]; exact (stL_size _).trans l2
      rw [i1] at hL
      rw [hL] at I1
      rw [hD] at I2
      rw [i1, hL, hD] at S1 S2
      obtain ⟨A1, x1⟩ : ∃ S, S = L ++ (⟨#[46]⟩ : ByteArray) := ⟨_, rfl⟩
      have z1 : A1.size = L.size + 1 := by rw [x1, ByteArray.size_append]; rfl
      have a1 := add_fact x1 (by show L.size + 1 ≤ _; omega)
      obtain ⟨A2, x2⟩ : ∃ S, S = A1 ++ D := ⟨_, rfl⟩
      have z2 : A2.size = L.size + 3 := by rw [x2, ByteArray.size_append, z1, zD]
      have a2 := add_fact x2 (by omega)
      rw [← x1, ← x2] at S1 S2
      clear i1 i2 hL hD x1 x2 l1 l2 hn
      by_cases hm : o.mag < 0
      · have a3 := add_fact (S2.out hm).symm (by show 1 + A2.size ≤ _; omega)
        clear S1 S2
        go_wp2_with fail
        refine (I1.out _).mono ?_
        rintro e w5 ⟨rfl, rfl⟩
        go_wp2_with fail
        refine (I2.out _).mono ?_
        rintro e w5 ⟨rfl, rfl⟩
        go_wp2_with fail
        go_meet
        exact ⟨rfl, X4.out⟩
      · have E := Lib.hid (S1.out hm)
        clear S1 S2
        go_wp2_with fail
        refine (I1.out _).mono ?_
        rintro e w5 ⟨rfl, rfl⟩
        go_wp2_with fail
        refine (I2.out _).mono ?_
        rintro e w5 ⟨rfl, rfl⟩
        go_wp2_with fail
        go_meet
        exact ⟨by rw [← E.out], X4.out⟩
  case rest =>
    obtain ⟨rfl, X5⟩ := hcut
    have X5 := Lib.hid X5
    clear q X4
    have q := X5.out.bx.cell (j := 7) (v := _) rfl
    go_upto_if 54 with fail
    go_cut [10] (fun v wx => v = .string (stL (bandF o.band)) ∧ GX w o wx)
    case first =>
      by_cases hb : o.band = 32
      · have e0 : (⟨#[]⟩ : ByteArray) = stL (bandF o.band) := by unfold bandF; rw [if_pos hb]; rfl
        have E := Lib.hid e0
        have c9 : (o.band == 32) = true := beq_iff_eq.2 hb
        clear e0
        go_wp2_with fail
        go_meet
        exact ⟨by rw [← E.out], X5.out⟩
      · obtain ⟨b0, b1, b2⟩ := Ow.band_u8 OM.out
        obtain ⟨u, hu⟩ : ∃ u : UInt8, u = UInt8.ofNat o.band.toNat := ⟨_, rfl⟩
        have eu : o.band = (u.toNat : Int) := by rw [hu, UInt8.toNat_ofNat', Nat.mod_eq_of_lt (show o.band.toNat < 2 ^ 8 by omega)]; omega
        have E := Lib.hid (band_str hb hu)
        have hcv := one_u8 u
        rw [eu] at q
        have c9 : ((u.toNat : Int) == 32) = false := beq_eq_false_iff_ne.2 (by omega)
        clear b0 b1 b2 hu hb
        go_wp2_with fail
        go_meet
        exact ⟨by rw [← E.out], X5.out.call ((Below.refl _ _).alloc (Nat.le_refl _) _)⟩
    case rest =>
      obtain ⟨rfl, X6⟩ := hcut
      have X6 := Lib.hid X6
      clear q X5
      go_upto_region 12 with fail
      refine wp_region_held_drew (S := fun wx => GX w o wx) (by kernel_rfl) (X6.out.call (Below.refl _ _).drew) (fun hHeld => ?_)
      clear X6
      refine wpAnyH_take (i := 0) (oi := ?oi0x1) (v := ?v0x1) ?hi0x1 (by kernel_rfl) (by kernel_rfl) (by kernel_rfl) ?hq0x1 ?hy0x1 hHeld ?rest0x1
      case hi0x1 => ((try simp only [List.getElem?_toArray, List.getElem?_cons_succ, List.getElem?_cons_zero]); (try rfl))
      case hq0x1 => exact fun _ _ _ h => h
      case hy0x1 => exact Or.inl ⟨by rfl, by intro w hSw; clear hSw; go_simp; try with_reducible rfl⟩
      try simp only [Act.put, List.setIfInBounds_toArray, List.set_cons_zero, List.set_cons_succ]
      refine wpAnyH_take (i := 1) (oi := ?oi1x2) (v := ?v1x2) ?hi1x2 (by kernel_rfl) (by kernel_rfl) (by kernel_rfl) ?hq1x2 ?hy1x2 hHeld ?rest1x2
      case hi1x2 => ((try simp only [List.getElem?_toArray, List.getElem?_cons_succ, List.getElem?_cons_zero]); (try rfl))
      case hq1x2 => exact fun _ _ _ h => h
      case hy1x2 => exact Or.inl ⟨by rfl, by intro w hSw; have q := hSw.bx.cell (j := 0) (v := _) rfl; clear hSw; go_simp; try with_reducible rfl⟩
      try simp only [Act.put, List.setIfInBounds_toArray, List.set_cons_zero, List.set_cons_succ]
      refine wpAnyH_take (i := 2) (oi := ?oi2x3) (v := ?v2x3) ?hi2x3 (by kernel_rfl) (by kernel_rfl) (by kernel_rfl) ?hq2x3 ?hy2x3 hHeld ?rest2x3
      case hi2x3 => ((try simp only [List.getElem?_toArray, List.getElem?_cons_succ, List.getElem?_cons_zero]); (try rfl))
      case hq2x3 => exact fun _ _ _ h => h
      case hy2x3 => exact Or.inl ⟨by rfl, by intro w hSw; clear hSw; go_simp; try with_reducible rfl⟩
      try simp only [Act.put, List.setIfInBounds_toArray, List.set_cons_zero, List.set_cons_succ]
      refine wpAnyH_take (i := 3) (oi := ?oi3x4) (v := ?v3x4) ?hi3x4 (by kernel_rfl) (by kernel_rfl) (by kernel_rfl) ?hq3x4 ?hy3x4 hHeld ?rest3x4
      case hi3x4 => ((try simp only [List.getElem?_toArray, List.getElem?_cons_succ, List.getElem?_cons_zero]); (try rfl))
      case hq3x4 => exact fun _ _ _ h => h
      case hy3x4 => exact Or.inl ⟨by rfl, by intro w hSw; have q := hSw.bx.cell (j := 1) (v := _) rfl; clear hSw; go_simp; try with_reducible rfl⟩
      try simp only [Act.put, List.setIfInBounds_toArray, List.set_cons_zero, List.set_cons_succ]
      refine wpAnyH_take (i := 4) (oi := ?oi4x5) (v := ?v4x5) ?hi4x5 (by kernel_rfl) (by kernel_rfl) (by kernel_rfl) ?hq4x5 ?hy4x5 hHeld ?rest4x5
      case hi4x5 => ((try simp only [List.getElem?_toArray, List.getElem?_cons_succ, List.getElem?_cons_zero]); (try rfl))
      case hq4x5 => exact fun _ _ _ h => h
      case hy4x5 => exact Or.inl ⟨by rfl, by intro w hSw; clear hSw; go_simp; try with_reducible rfl⟩
      try simp only [Act.put, List.setIfInBounds_toArray, List.set_cons_zero, List.set_cons_succ]
      refine wpAnyH_take (i := 5) (oi := ?oi5x6) (v := ?v5x6) ?hi5x6 (by kernel_rfl) (by kernel_rfl) (by kernel_rfl) ?hq5x6 ?hy5x6 hHeld ?rest5x6
      case hi5x6 => ((try simp only [List.getElem?_toArray, List.getElem?_cons_succ, List.getElem?_cons_zero]); (try rfl))
      case hq5x6 => exact fun _ _ _ h => h
      case hy5x6 => exact Or.inl ⟨by rfl, by intro w hSw; clear hSw; go_simp; try with_reducible rfl⟩
      try simp only [Act.put, List.setIfInBounds_toArray, List.set_cons_zero, List.set_cons_succ]
      refine wpAnyH_take (i := 6) (oi := ?oi6x7) (v := ?v6x7) ?hi6x7 (by kernel_rfl) (by kernel_rfl) (by kernel_rfl) ?hq6x7 ?hy6x7 hHeld ?rest6x7
      case hi6x7 => ((try simp only [List.getElem?_toArray, List.getElem?_cons_succ, List.getElem?_cons_zero]); (try rfl))
      case hq6x7 => exact fun _ _ _ h => h
      case hy6x7 => exact Or.inl ⟨by rfl, by intro w hSw; clear hSw; go_simp; try with_reducible rfl⟩
      try simp only [Act.put, List.setIfInBounds_toArray, List.set_cons_zero, List.set_cons_succ]
      refine wpAnyH_take (i := 7) (oi := ?oi7x8) (v := ?v7x8) ?hi7x8 (by kernel_rfl) (by kernel_rfl) (by kernel_rfl) ?hq7x8 ?hy7x8 hHeld ?rest7x8
      case hi7x8 => ((try simp only [List.getElem?_toArray, List.getElem?_cons_succ, List.getElem?_cons_zero]); (try rfl))
      case hq7x8 => exact fun _ _ _ h => h
      case hy7x8 => exact Or.inl ⟨by rfl, by intro w hSw; clear hSw; go_simp; try with_reducible rfl⟩
      try simp only [Act.put, List.setIfInBounds_toArray, List.set_cons_zero, List.set_cons_succ]
      refine wpAnyH_take (i := 8) (oi := ?oi8x9) (v := ?v8x9) ?hi8x9 (by kernel_rfl) (by kernel_rfl) (by kernel_rfl) ?hq8x9 ?hy8x9 hHeld ?rest8x9
      case hi8x9 => ((try simp only [List.getElem?_toArray, List.getElem?_cons_succ, List.getElem?_cons_zero]); (try rfl))
      case hq8x9 => exact fun _ _ _ h => h
      case hy8x9 => exact Or.inl ⟨by rfl, by intro w hSw; have q := hSw.bx.cell (j := 5) (v := _) rfl; clear hSw; go_simp; try with_reducible rfl⟩
      try simp only [Act.put, List.setIfInBounds_toArray, List.set_cons_zero, List.set_cons_succ]
      refine wpAnyH_take (i := 10) (oi := ?oi10x10) (v := ?v10x10) ?hi10x10 (by kernel_rfl) (by kernel_rfl) (by kernel_rfl) ?hq10x10 ?hy10x10 hHeld ?rest10x10
      case hi10x10 => ((try simp only [List.getElem?_toArray, List.getElem?_cons_succ, List.getElem?_cons_zero]); (try rfl))
      case hq10x10 => exact fun _ _ _ h => h
      case hy10x10 => exact Or.inl ⟨by rfl, by intro w hSw; clear hSw; go_simp; try with_reducible rfl⟩
      try simp only [Act.put, List.setIfInBounds_toArray, List.set_cons_zero, List.set_cons_succ]
      refine wpAnyH_take (i := 11) (oi := ?oi11x11) (v := ?v11x11) ?hi11x11 (by kernel_rfl) (by kernel_rfl) (by kernel_rfl) ?hq11x11 ?hy11x11 hHeld ?rest11x11
      case hi11x11 => ((try simp only [List.getElem?_toArray, List.getElem?_cons_succ, List.getElem?_cons_zero]); (try rfl))
      case hq11x11 => exact fun _ _ _ h => h
      case hy11x11 => exact Or.inl ⟨by rfl, by intro w hSw; clear hSw; go_simp; try with_reducible rfl⟩
      try simp only [Act.put, List.setIfInBounds_toArray, List.set_cons_zero, List.set_cons_succ]
      refine wpAnyH_ready (rs := [9]) (by kernel_rfl) (by simp) ?_
      refine AllReadyH.cons rfl (fun K' hK => ?_) AllReadyH.nil
      have H1 := Lib.hid hHeld
      clear hHeld
      go_simp
      refine (SG.out _).mono ?_
      rintro e wx ⟨rfl, rfl⟩
      refine hK.out _ _ H1.out (fun hHeld => ?_)
      clear hK H1
      try simp only [Act.put, List.setIfInBounds_toArray, List.set_cons_zero, List.set_cons_succ]
      refine wpAnyH_ready (rs := [12]) (by kernel_rfl) (by simp) ?_
      refine AllReadyH.cons rfl (fun K' hK => ?_) AllReadyH.nil
      have H1 := Lib.hid hHeld
      clear hHeld
      go_simp
      refine hK.out _ _ (gx_next H1.out) (fun hHeld => ?_)
      clear hK
      try simp only [Act.put, List.setIfInBounds_toArray, List.set_cons_zero, List.set_cons_succ]
      refine wpAnyH_take (i := 13) (oi := ?oi13x12) (v := ?v13x12) ?hi13x12 (by kernel_rfl) (by kernel_rfl) (by kernel_rfl) ?hq13x12 ?hy13x12 hHeld ?rest13x12
      case hi13x12 => ((try simp only [List.getElem?_toArray, List.getElem?_cons_succ, List.getElem?_cons_zero]); (try rfl))
      case hq13x12 => exact fun _ _ _ h => h
      case hy13x12 => exact Or.inl ⟨by rfl, by intro w hSw; clear hSw; go_simp; try with_reducible rfl⟩
      try simp only [Act.put, List.setIfInBounds_toArray, List.set_cons_zero, List.set_cons_succ]
      refine wpAnyH_done (by kernel_rfl) ?_ _
      have XF := Lib.hid hHeld
      clear hHeld
      go_wp2_with fail
      go_ret
      exact ⟨T, _, HTX.out, rfl, H1.out.below.size, (Rw.new wc (strC (fieldL o T)) 9).call (Below.refl _ _).drew, XF.out.below⟩
end Vw
end Go.Proofs.YtaghilgfldaaiaaGreatDoor
/-
  The walk of magnitude of the reference of observations.
-/
namespace Go.Proofs.YtaghilgfldaaiaaGreatDoor
namespace Ow
open Go.RowKit Lw Go.Proofs.YtaghilgfldaaiaaGreatDoor.Ap Go.Proofs.YtaghilgfldaaiaaGreatDoor.Op Go.Proofs.YtaghilgfldaaiaaGreatDoor.Mp Go.Proofs.YtaghilgfldaaiaaGreatDoor.Mw Go.Proofs.YtaghilgfldaaiaaGreatDoor.At

/-- Five bytes as a string. -/
theorem five_str (a b c d e : UInt8) : ∃ F : ByteArray, F = ⟨#[a, b, c, d, e]⟩ ∧ F.size = 5 ∧ (∀ h : 0 < F.size, ((F[0]'h).toNat : Int) = a.toNat) ∧ (∀ h : 1 < F.size, ((F[1]'h).toNat : Int) = b.toNat) ∧ (∀ h : 2 < F.size, ((F[2]'h).toNat : Int) = c.toNat) ∧ (∀ h : 3 < F.size, ((F[3]'h).toNat : Int) = d.toNat) ∧ (∀ h : 4 < F.size, ((F[4]'h).toNat : Int) = e.toNat) :=
  ⟨_, rfl, rfl, fun _ => rfl, fun _ => rfl, fun _ => rfl, fun _ => rfl, fun _ => rfl⟩
end Ow
end Go.Proofs.YtaghilgfldaaiaaGreatDoor
/-
  append of an observation to a slice that the call owns.
-/
namespace Go.Proofs.YtaghilgfldaaiaaGreatDoor
namespace Ow
open Go.RowKit Lw Go.Proofs.YtaghilgfldaaiaaGreatDoor.Ap Go.Proofs.YtaghilgfldaaiaaGreatDoor.Op Go.Proofs.YtaghilgfldaaiaaGreatDoor.Mp Go.Proofs.YtaghilgfldaaiaaGreatDoor.Mw Go.Proofs.YtaghilgfldaaiaaGreatDoor.At

theorem flatO_len (l : List Ob) : (flatO l).length = l.length * 8 := by
  induction l with
  | nil => rfl
  | cons a l ih => simp only [flatO, List.flatMap_cons, List.length_append, List.length_cons] at ih ⊢; rw [ih]; simp only [obsC, List.length_cons, List.length_nil]; omega
end Ow
end Go.Proofs.YtaghilgfldaaiaaGreatDoor
/-
  Plain law of tables: columns in any order; columns that are not there; no walk here.
-/
namespace Go.Proofs.YtaghilgfldaaiaaGreatDoor
namespace Vp
open Go.RowKit Lw Go.Proofs.YtaghilgfldaaiaaGreatDoor.Ap Go.Proofs.YtaghilgfldaaiaaGreatDoor.Op Go.Proofs.YtaghilgfldaaiaaGreatDoor.Mp Go.Proofs.YtaghilgfldaaiaaGreatDoor.Mw Go.Proofs.YtaghilgfldaaiaaGreatDoor.At

/-- What the reader of a column changes. -/
def Upd (k : Nat) (f : Ob → Ob) : Prop := (k = 0 ∧ ∃ v, f = fun o => { o with name := v }) ∨ (k = 1 ∧ ∃ v, f = fun o => { o with site := v }) ∨ (k = 2 ∧ ∃ v, f = fun o => { o with t := v }) ∨ (k = 3 ∧ ∃ v, f = fun o => { o with ra := v }) ∨
  (k = 4 ∧ ∃ v, f = fun o => { o with dec := v }) ∨ (k = 5 ∧ ∃ v, f = fun o => { o with sg := v }) ∨ (k = 6 ∧ ∃ v, f = fun o => { o with mag := v }) ∨ (k = 7 ∧ ∃ v, f = fun o => { o with band := v }) ∨ f = fun o => o
theorem upd_comm {j k : Nat} {f g : Ob → Ob} (h : Upd j f) (h' : Upd k g) (ne : j ≠ k) (o : Ob) : f (g o) = g (f o) := by
  rcases h with ⟨rfl, v, rfl⟩ | ⟨rfl, v, rfl⟩ | ⟨rfl, v, rfl⟩ | ⟨rfl, v, rfl⟩ | ⟨rfl, v, rfl⟩ | ⟨rfl, v, rfl⟩ | ⟨rfl, v, rfl⟩ | ⟨rfl, v, rfl⟩ | rfl <;>
    rcases h' with ⟨rfl, u, rfl⟩ | ⟨rfl, u, rfl⟩ | ⟨rfl, u, rfl⟩ | ⟨rfl, u, rfl⟩ | ⟨rfl, u, rfl⟩ | ⟨rfl, u, rfl⟩ | ⟨rfl, u, rfl⟩ | ⟨rfl, u, rfl⟩ | rfl <;> first | rfl | exact absurd rfl ne
theorem readF_upd {k : Nat} (hk : k ≤ 7) (s : ByteArray) : (∀ o, readF k s o = none) ∨ ∃ f, Upd k f ∧ ∀ o, readF k s o = some (f o) := by
  match k, hk with
  | 0, _ => exact Or.inr ⟨_, Or.inl ⟨rfl, s, rfl⟩, fun _ => rfl⟩
  | 1, _ => exact Or.inr ⟨_, Or.inr (Or.inl ⟨rfl, s, rfl⟩), fun _ => rfl⟩
  | 2, _ =>
    cases h : timeR s with
    | none => exact Or.inl fun o => by show (timeR s).map _ = _; rw [h]; rfl
    | some v => exact Or.inr ⟨_, Or.inr (Or.inr (Or.inl ⟨rfl, v, rfl⟩)), fun o => by show (timeR s).map _ = _; rw [h]; rfl⟩
  | 3, _ =>
    cases h : degR s with
    | none => exact Or.inl fun o => by show (degR s).bind _ = _; rw [h]; rfl
    | some v =>
      by_cases g : 0 ≤ v
      · exact Or.inr ⟨_, Or.inr (Or.inr (Or.inr (Or.inl ⟨rfl, v % turnI, rfl⟩))), fun o => by
          show (degR s).bind _ = _; rw [h]
          show (if 0 ≤ v then _ else none) = _
          rw [if_pos g]⟩
      · exact Or.inl fun o => by
          show (degR s).bind _ = _; rw [h]
          show (if 0 ≤ v then _ else none) = _
          rw [if_neg g]
  | 4, _ =>
    cases h : degR s with
    | none => exact Or.inl fun o => by show (degR s).map _ = _; rw [h]; rfl
    | some v => exact Or.inr ⟨_, Or.inr (Or.inr (Or.inr (Or.inr (Or.inl ⟨rfl, v, rfl⟩)))), fun o => by show (degR s).map _ = _; rw [h]; rfl⟩
  | 5, _ =>
    by_cases z : s.size = 0
    · exact Or.inr ⟨_, Or.inr (Or.inr (Or.inr (Or.inr (Or.inr (Or.inr (Or.inr (Or.inr rfl))))))), fun o => by show (if s.size = 0 then _ else _) = _; rw [if_pos z]⟩
    cases h : sigR s.data.toList with
    | none => exact Or.inl fun o => by show (if s.size = 0 then _ else (sigR s.data.toList).map _) = _; rw [if_neg z, h]; rfl
    | some v => exact Or.inr ⟨_, Or.inr (Or.inr (Or.inr (Or.inr (Or.inr (Or.inl ⟨rfl, v, rfl⟩))))), fun o => by show (if s.size = 0 then _ else (sigR s.data.toList).map _) = _; rw [if_neg z, h]; rfl⟩
  | 6, _ =>
    by_cases z : s.size = 0
    · exact Or.inr ⟨_, Or.inr (Or.inr (Or.inr (Or.inr (Or.inr (Or.inr (Or.inr (Or.inr rfl))))))), fun o => by show (if s.size = 0 then _ else _) = _; rw [if_pos z]⟩
    cases h : magR s.data.toList with
    | none => exact Or.inl fun o => by show (if s.size = 0 then _ else (magR s.data.toList).map _) = _; rw [if_neg z, h]; rfl
    | some v => exact Or.inr ⟨_, Or.inr (Or.inr (Or.inr (Or.inr (Or.inr (Or.inr (Or.inl ⟨rfl, v, rfl⟩)))))), fun o => by show (if s.size = 0 then _ else (magR s.data.toList).map _) = _; rw [if_neg z, h]; rfl⟩
  | 7, _ =>
    by_cases z : s.size = 0
    · exact Or.inr ⟨_, Or.inr (Or.inr (Or.inr (Or.inr (Or.inr (Or.inr (Or.inr (Or.inr rfl))))))), fun o => by show (if s.size = 0 then _ else _) = _; rw [if_pos z]⟩
    by_cases z1 : s.size = 1
    · exact Or.inr ⟨_, Or.inr (Or.inr (Or.inr (Or.inr (Or.inr (Or.inr (Or.inr (Or.inl ⟨rfl, bt s 0, rfl⟩))))))), fun o => by show (if s.size = 0 then _ else if s.size = 1 then _ else _) = _; rw [if_neg z, if_pos z1]⟩
    · exact Or.inl fun o => by show (if s.size = 0 then _ else if s.size = 1 then _ else _) = _; rw [if_neg z, if_neg z1]
theorem foldR_perm {l m : List (Nat × ByteArray)} (h : l.Perm m) (nd : l.Pairwise fun p q => p.1 ≠ q.1) (le : ∀ p ∈ l, p.1 ≤ 7) : ∀ o, foldR l o = foldR m o := by
  induction h with
  | nil => exact fun _ => rfl
  | cons p _ ih =>
    intro o
    rw [foldR_cons, foldR_cons]
    congr 1
    exact funext (ih (List.pairwise_cons.1 nd).2 fun q hq => le q (List.mem_cons_of_mem _ hq))
  | swap p q l =>
    intro o
    have ne : q.1 ≠ p.1 := (List.pairwise_cons.1 nd).1 p (List.mem_cons_self ..)
    have h1 := le q (List.mem_cons_self ..)
    have h2 := le p (List.mem_cons_of_mem _ (List.mem_cons_self ..))
    have e : (readF q.1 q.2 o).bind (readF p.1 p.2) = (readF p.1 p.2 o).bind (readF q.1 q.2) := by
      rcases readF_upd h1 q.2 with n1 | ⟨f, u1, s1⟩ <;> rcases readF_upd h2 p.2 with n2 | ⟨g, u2, s2⟩
      · rw [n1, n2]; rfl
      · rw [n1, s2]; exact (n1 _).symm
      · rw [s1, n2]; exact n2 _
      · rw [s1, s2]
        show readF p.1 p.2 (f o) = readF q.1 q.2 (g o)
        rw [s1, s2, upd_comm u2 u1 (Ne.symm ne)]
    rw [foldR_cons, foldR_cons]
    have a : ∀ x y : Nat × ByteArray, (readF x.1 x.2 o).bind (foldR (y :: l)) = ((readF x.1 x.2 o).bind (readF y.1 y.2)).bind (foldR l) := fun x y => by
      cases readF x.1 x.2 o with
      | none => rfl
      | some v => exact foldR_cons y l v
    rw [a q p, a p q, e]
  | trans h1 _ ih1 ih2 =>
    intro o
    rw [ih1 nd le o]
    exact ih2 ((h1.pairwise_iff (fun h => Ne.symm h)).1 nd) (fun p hp => le p (h1.mem_iff.2 hp)) o
/-- Two elements exchanged. -/
def swp {α : Type} (l : List α) (a b : Nat) (ha : a < l.length) (hb : b < l.length) : List α := (l.set a l[b]).set b l[a]
theorem swp_perm {α : Type} (l : List α) (a b : Nat) (ha : a < l.length) (hb : b < l.length) : (swp l a b ha hb).Perm l := List.set_set_perm ha hb
theorem swp_len {α : Type} (l : List α) (a b : Nat) (ha : a < l.length) (hb : b < l.length) : (swp l a b ha hb).length = l.length := by unfold swp; rw [List.length_set, List.length_set]
theorem swp_map {α β : Type} (f : α → β) (l : List α) (a b : Nat) (ha : a < l.length) (hb : b < l.length) : (swp l a b ha hb).map f = swp (l.map f) a b (by rw [List.length_map]; exact ha) (by rw [List.length_map]; exact hb) := by
  unfold swp
  rw [List.map_set, List.map_set, List.getElem_map, List.getElem_map]
theorem zip_back {α β : Type} : ∀ l : List (α × β), (l.map Prod.fst).zip (l.map Prod.snd) = l
  | [] => rfl
  | p :: l => by
    rw [List.map_cons, List.map_cons, List.zip_cons_cons, zip_back l]
def ord8 : List Nat := [0, 1, 2, 3, 4, 5, 6, 7]
theorem swp_fold {F : List ByteArray} (hF : F.length = 8) {r : Ob} (h : foldR (ord8.zip F) baseO = some r) (a b : Nat) (ha : a < 8) (hb : b < 8) : foldR ((swp ord8 a b ha hb).zip (swp F a b (by omega) (by omega))) baseO = some r := by
  match F, hF with
  | [x0, x1, x2, x3, x4, x5, x6, x7], hF =>
    have zl : (ord8.zip [x0, x1, x2, x3, x4, x5, x6, x7]).length = 8 := rfl
    have e1 := swp_map Prod.fst (ord8.zip [x0, x1, x2, x3, x4, x5, x6, x7]) a b (by omega) (by omega)
    have e2 := swp_map Prod.snd (ord8.zip [x0, x1, x2, x3, x4, x5, x6, x7]) a b (by omega) (by omega)
    have f1 : (swp ord8 a b ha hb) = (swp (ord8.zip [x0, x1, x2, x3, x4, x5, x6, x7]) a b (by omega) (by omega)).map Prod.fst := e1.symm
    have f2 : (swp [x0, x1, x2, x3, x4, x5, x6, x7] a b (by omega) (by omega)) = (swp (ord8.zip [x0, x1, x2, x3, x4, x5, x6, x7]) a b (by omega) (by omega)).map Prod.snd := e2.symm
    rw [f1, f2, zip_back, ← h]
    refine (foldR_perm (swp_perm _ a b _ _).symm ?_ ?_ baseO).symm
    · show [(0, x0), (1, x1), (2, x2), (3, x3), (4, x4), (5, x5), (6, x6), (7, x7)].Pairwise _
      simp
    · show ∀ p ∈ [(0, x0), (1, x1), (2, x2), (3, x3), (4, x4), (5, x5), (6, x6), (7, x7)], p.1 ≤ 7
      simp
/-! ### The text of a table whose columns are exchanged -/
def joinK (sep : List UInt8) (l : List ByteArray) : Nat → List UInt8
  | 0 => []
  | k + 1 => (joinK sep l k ++ (if 0 < k then sep else [])) ++ (l.getD k ByteArray.empty).data.toList
theorem joinK_bar : ∀ {l : List ByteArray}, l.length = 8 → joinK [124] l 8 = joinC 124 (l.map (·.data.toList))
  | [x0, x1, x2, x3, x4, x5, x6, x7], _ => by simp [joinK, joinC_cons, joinC_one]
theorem heads : ∀ a, ∀ ha : a < 8, ∀ b, ∀ hb : b < 8, headR (joinK [32, 124, 32] (swp colB a b ha hb) 8) = some (swp ord8 a b ha hb) ∧ (joinK [32, 124, 32] (swp colB a b ha hb) 8).head? ≠ some 35 ∧ (10 : UInt8) ∉ joinK [32, 124, 32] (swp colB a b ha hb) 8 ∧ (joinK [32, 124, 32] (swp colB a b ha hb) 8).length ≤ 100 := by decide +kernel
theorem two_lines {h r : List UInt8} (h1 : (10 : UInt8) ∉ h) (h2 : (10 : UInt8) ∉ r) : pieces 10 (h ++ 10 :: r) = [h, r] := by
  have := pieces_join 10 [h, r] (by simp) (by
    intro p hp
    simp only [List.mem_cons, List.not_mem_nil, or_false] at hp
    rcases hp with rfl | rfl
    · exact h1
    · exact h2)
  rw [joinC_cons, joinC_one] at this
  exact this
/-- A table of a header and a row. -/
theorem table_is {s : ByteArray} {h r : List UInt8} {ord : List Nat} {q : Ob} (hs : s.data.toList = (h ++ 10 :: r) ++ [10]) (h1 : (10 : UInt8) ∉ h) (h2 : (10 : UInt8) ∉ r) (h3 : h.head? ≠ some 35) (h4 : headR h = some ord) (h5 : rowX ord r = some q) : ParseTIs s [] [q] 0 := by
  refine Or.inl ⟨_, hs, ?_, by simp, by simp, rfl⟩
  rw [two_lines h1 h2]
  unfold tabR
  rw [noteR, if_neg h3]
  show (headR h).bind _ = _
  rw [h4]
  show (rowsR ord [r]).map _ = _
  rw [rowsR, h5]
  rfl
theorem table_small {s : ByteArray} {h r : List UInt8} (hs : s.data.toList = (h ++ 10 :: r) ++ [10]) (h1 : (10 : UInt8) ∉ h) (h2 : (10 : UInt8) ∉ r) (h3 : h.head? ≠ some 35) (h4 : ∀ p ∈ pieces 124 r, p.length ≤ 100) : SmallC s := by
  intro body n x R hb hn y hy p hp
  rw [hs] at hb
  have e := (List.append_inj' hb rfl).1
  rw [← e, two_lines h1 h2, noteR, if_neg h3] at hn
  injection hn with hn
  injection hn with _ hn
  injection hn with _ hn
  subst hn
  rw [List.mem_singleton.1 hy] at hp
  exact h4 p hp
theorem fields_row {F : List ByteArray} (ne : F ≠ []) (h : ∀ s ∈ F, cl s.data.toList) : pieces 124 (joinC 124 (F.map (·.data.toList))) = F.map (·.data.toList) ∧ (10 : UInt8) ∉ joinC 124 (F.map (·.data.toList)) := by
  constructor
  · refine pieces_join 124 _ (by simpa using ne) fun p hp => ?_
    obtain ⟨s, hs, rfl⟩ := List.mem_map.1 hp
    exact fun g => ((h s hs) 124 g).2 rfl
  · have j : ∀ l : List (List UInt8), (∀ p ∈ l, 10 ∉ p) → 10 ∉ joinC 124 l := by
      intro l
      induction l with
      | nil => intro _ g; cases g
      | cons a l ih =>
        intro hl g
        cases l with
        | nil => rw [joinC_one] at g; exact hl a (List.mem_cons_self ..) g
        | cons b l =>
          rw [joinC_cons] at g
          rcases List.mem_append.1 g with g | g
          · exact hl a (List.mem_cons_self ..) g
          · rcases List.mem_cons.1 g with g | g
            · exact absurd g (by decide)
            · exact ih (fun p hp => hl p (List.mem_cons_of_mem _ hp)) g
    refine j _ fun p hp => ?_
    obtain ⟨s, hs, rfl⟩ := List.mem_map.1 hp
    exact fun g => ((h s hs) 10 g).1 rfl
theorem swp_table {o : Ob} {T s : ByteArray} (ok : okO o) (hT : TextIs o.t 6 T 0) {a b : Nat} (ha : a < 8) (hb : b < 8) (hs : s.data.toList = (joinK [32, 124, 32] (swp colB a b ha hb) 8 ++ 10 :: joinK [124] (swp (fieldL o T) a b ha hb) 8) ++ [10]) :
    ParseTIs s [] [roundP o] 0 ∧ SmallC s := by
  obtain ⟨h1, h2, h3, _⟩ := heads a ha b hb
  have len : (swp (fieldL o T) a b ha hb).length = 8 := swp_len ..
  have pm := swp_perm (fieldL o T) a b ha hb
  have c := fields_row (F := swp (fieldL o T) a b ha hb) (fun e => by rw [e] at len; cases len) (fun s hs => fields_cl ok hT s (pm.mem_iff.1 hs))
  rw [joinK_bar len] at hs
  refine ⟨table_is hs h3 c.2 h2 h1 ?_, table_small hs h3 c.2 h2 fun p hp => ?_⟩
  · unfold rowX
    rw [c.1, List.map_map]
    have t : (swp (fieldL o T) a b ha hb).map (fun s => Vw.trimS (stL s.data.toList)) = swp (fieldL o T) a b ha hb := by
      conv => rhs; rw [← List.map_id (swp (fieldL o T) a b ha hb)]
      refine List.map_congr_left fun s hs => ?_
      have m := pm.mem_iff.1 hs
      have e := fields_trim ok hT
      obtain ⟨i, hi, rfl⟩ := List.getElem_of_mem m
      have := List.getElem_of_eq e (i := i) (by rw [List.length_map]; exact hi)
      rw [List.getElem_map] at this
      exact this
    show rowR _ ((swp (fieldL o T) a b ha hb).map (fun s => Vw.trimS (stL s.data.toList))) = _
    rw [t]
    unfold rowR
    rw [if_pos (by rw [len]; exact swp_len ord8 a b ha hb), swp_fold (F := fieldL o T) rfl (fold_fields ok hT) a b ha hb]
    exact if_pos (round_ok ok)
  · rw [c.1] at hp
    obtain ⟨f, hf, rfl⟩ := List.mem_map.1 hp
    exact field_size ok hT f (pm.mem_iff.1 hf)
/-! ### The columns that must be there alone -/
theorem fold_five {o : Ob} {T : ByteArray} (ok : okO o) (hT : TextIs o.t 6 T 0) : foldR ([0, 1, 2, 3, 4].zip ((fieldL o T).take 5)) baseO = some { roundP o with sg := 1000000, mag := 9999, band := 32 } := by
  obtain ⟨ot, on, os, ow, or0, or1, od0, od1, og0, og1, om⟩ := ok
  have r2 := (rd_time hT).1
  have r3 := rd_deg (a := o.ra) (by omega) (by omega)
  have p3 := (dg_turn or0 (by omega)).1
  have r4 := rd_deg (a := o.dec) (by omega) (by omega)
  have e3 : readF 3 (stL (Gt.degL o.ra 9)) { { { baseO with name := o.name } with site := o.site } with t := o.t } = some { { { { baseO with name := o.name } with site := o.site } with t := o.t } with ra := dgR o.ra % turnI } := by
    show ((degR (stL (Gt.degL o.ra 9))).bind fun a => if 0 ≤ a then some { { { { baseO with name := o.name } with site := o.site } with t := o.t } with ra := a % turnI } else none) = _
    rw [r3]
    show (if 0 ≤ dgR o.ra then _ else none) = _
    rw [if_pos p3]
  show foldR [(0, o.name), (1, o.site), (2, T), (3, stL (Gt.degL o.ra 9)), (4, stL (Gt.degL o.dec 9))] baseO = _
  rw [foldR_cons]
  show foldR _ { baseO with name := o.name } = _
  rw [foldR_cons]
  show foldR _ { { baseO with name := o.name } with site := o.site } = _
  rw [foldR_cons]
  show ((timeR T).map fun t => { { { baseO with name := o.name } with site := o.site } with t := t }).bind _ = _
  rw [r2]
  show foldR _ { { { baseO with name := o.name } with site := o.site } with t := o.t } = _
  rw [foldR_cons, e3]
  show foldR _ { { { { baseO with name := o.name } with site := o.site } with t := o.t } with ra := dgR o.ra % turnI } = _
  rw [foldR_cons]
  show ((degR (stL (Gt.degL o.dec 9))).map fun a => { { { { { baseO with name := o.name } with site := o.site } with t := o.t } with ra := dgR o.ra % turnI } with dec := a }).bind _ = _
  rw [r4]
  rfl
def headF : List UInt8 := [110, 97, 109, 101, 124, 115, 116, 110, 124, 111, 98, 115, 84, 105, 109, 101, 124, 114, 97, 124, 100, 101, 99]
theorem headF_is : headR headF = some [0, 1, 2, 3, 4] ∧ headF.head? ≠ some 35 ∧ (10 : UInt8) ∉ headF := by decide +kernel
theorem five_ok {o : Ob} (ok : okO o) : okO { roundP o with sg := 1000000, mag := 9999, band := 32 } := by
  obtain ⟨ot, on, os, ow, or0, or1, od0, od1, og0, og1, om⟩ := round_ok ok
  exact ⟨ot, on, os, ow, or0, or1, od0, od1, (by decide : (1 : Int) ≤ 1000000), (by decide : (1000000 : Int) ≤ 10000000000), Or.inl ⟨rfl, rfl⟩⟩
theorem five_table {o : Ob} {T s : ByteArray} (ok : okO o) (hT : TextIs o.t 6 T 0) (hs : s.data.toList = (headF ++ 10 :: joinC 124 (((fieldL o T).take 5).map (·.data.toList))) ++ [10]) :
    ParseTIs s [] [{ roundP o with sg := 1000000, mag := 9999, band := 32 }] 0 ∧ SmallC s := by
  obtain ⟨h1, h2, h3⟩ := headF_is
  have sub : ∀ x ∈ (fieldL o T).take 5, x ∈ fieldL o T := fun x hx => List.mem_of_mem_take hx
  have c := fields_row (F := (fieldL o T).take 5) (fun e => by cases e) (fun s hs => fields_cl ok hT s (sub s hs))
  refine ⟨table_is hs h3 c.2 h2 h1 ?_, table_small hs h3 c.2 h2 fun p hp => ?_⟩
  · unfold rowX
    rw [c.1, List.map_map]
    have t : ((fieldL o T).take 5).map (fun s => Vw.trimS (stL s.data.toList)) = (fieldL o T).take 5 := by
      have e := fields_trim ok hT
      have e2 : ((fieldL o T).map Vw.trimS).take 5 = (fieldL o T).take 5 := by rw [e]
      rw [← List.map_take] at e2
      exact e2
    show rowR _ (((fieldL o T).take 5).map (fun s => Vw.trimS (stL s.data.toList))) = _
    rw [t]
    unfold rowR
    rw [if_pos (by rfl), fold_five ok hT]
    exact if_pos (five_ok ok)
  · rw [c.1] at hp
    obtain ⟨f, hf, rfl⟩ := List.mem_map.1 hp
    exact field_size ok hT f (sub f hf)
end Vp
end Go.Proofs.YtaghilgfldaaiaaGreatDoor
