/-
  Lemmas and walks, texts joined: OMgW, MRDay, MTDAny, OPrint, PRa, OParse.
-/
import Derived.Laws.DeepBits32
import Derived.RegionTactic
import Derived.BigRegion
import Derived.Test.YtgodhaphbgllhaaGreatDoorOa06
import Derived.Test.YtgodhaphbgllhaaGreatDoorOa03
import Derived.Test.YtgodhaphbgllhaaGreatDoorOa05
set_option linter.unusedSimpArgs false
set_option linter.unusedVariables false
/-
  The walk of magnitude of package obs.
-/
namespace Go.Proofs.YtgodhaphbgllhaaGreatDoor
namespace Ow
open Go.RowKit Lw Go.Proofs.YtgodhaphbgllhaaGreatDoor.Ap Go.Proofs.YtgodhaphbgllhaaGreatDoor.Op Go.Proofs.YtgodhaphbgllhaaGreatDoor.Mp Go.Proofs.YtgodhaphbgllhaaGreatDoor.Mw Go.Proofs.YtgodhaphbgllhaaGreatDoor.At

def MagPost (s : ByteArray) (w : World) (e : Ending) (w' : World) : Prop := ∃ (m : Int) (b : Bool), e = .returned (.tuple #[.int .i64 m, .bool b]) ∧ MagA s m b ∧ Below w.heap.size w w'
theorem mag_parts {a b c d e : UInt8} (h : ptS ⟨#[a, b, c, d, e]⟩ = 2) : hdP ⟨#[a, b, c, d, e]⟩ = ⟨#[a, b]⟩ ∧ tlP ⟨#[a, b, c, d, e]⟩ = ⟨#[d, e]⟩ ∧ decide (ptS ⟨#[a, b, c, d, e]⟩ < (⟨#[a, b, c, d, e]⟩ : ByteArray).size) = true := by
  have z : (⟨#[a, b, c, d, e]⟩ : ByteArray).size = 5 := rfl
  refine ⟨?_, ?_, decide_eq_true (by rw [h, z]; omega)⟩
  · unfold hdP
    rw [h]
    apply At.toL_inj
    rw [At.ext_L _ _ _ (by rw [z]; omega)]
    rfl
  · unfold tlP
    rw [if_pos (by rw [h, z]; omega), h, z]
    apply At.toL_inj
    rw [At.ext_L _ _ _ (by rw [z]; omega)]
    rfl
/-- Two bytes as a string. -/
theorem two_str (a b : UInt8) : ∃ F : ByteArray, F = ⟨#[a, b]⟩ ∧ F.size = 2 ∧ (∀ h : 0 < F.size, (F[0]'h).toNat = a.toNat) ∧ (∀ h : 1 < F.size, (F[1]'h).toNat = b.toNat) ∧ F.extract 1 2 = ⟨#[b]⟩ ∧ F.extract 0 1 = ⟨#[a]⟩ := by
  refine ⟨_, rfl, rfl, fun _ => rfl, fun _ => rfl, ?_, ?_⟩
  · apply At.toL_inj
    rw [At.ext_L _ _ _ (by show (2 : Nat) ≤ 2; omega)]
    rfl
  · apply At.toL_inj
    rw [At.ext_L _ _ _ (by show (1 : Nat) ≤ 2; omega)]
    rfl
theorem one_str (b : UInt8) : ∃ F : ByteArray, F = ⟨#[b]⟩ ∧ F.size = 1 := ⟨_, rfl, rfl⟩
theorem cat_str (x y : ByteArray) : ∃ T : ByteArray, x ++ y = T ∧ T.size = x.size + y.size ∧ T.data.toList = x.data.toList ++ y.data.toList := ⟨_, rfl, ByteArray.size_append, by simp⟩
set_option maxRecDepth 100000 in
set_option maxHeartbeats 16000000 in
theorem mag_w_b (a b c d e : UInt8) (w : World) (hp : ptS ⟨#[a, b, c, d, e]⟩ = 2) (hB : dgB (b.toNat : Int) = false) : Calls Tryz.prog 47 #[.string ⟨#[a, b, c, d, e]⟩] w (MagPost ⟨#[a, b, c, d, e]⟩ w) := by
  have C := Lib.hid (cut_any ⟨#[a, b, c, d, e]⟩ w (by show (5 : Nat) ≤ maxLen; unfold maxLen; decide))
  obtain ⟨p1, p2, p3⟩ := mag_parts hp
  rw [p1, p2, p3] at C
  have hc := (pt_two.1 hp).2.2
  clear p1 p2 p3 hp
  obtain ⟨F, hF, zF, eF0, eF1, xF, -⟩ := two_str a b
  obtain ⟨K, hK, zK, eK0, eK1, -, xK⟩ := two_str d e
  have i0 : (0 : Nat) < F.size := by omega
  have i1 : (1 : Nat) < F.size := by omega
  have j0 : (0 : Nat) < K.size := by omega
  have j1 : (1 : Nat) < K.size := by omega
  have eF0 := eF0 i0
  have eF1 := eF1 i1
  have eK0 := eK0 j0
  have eK1 := eK1 j1
  rw [← hF, ← hK] at C
  have ba := byte_bd a
  have bb := byte_bd b
  have bd := byte_bd d
  have be := byte_bd e
  obtain ⟨S, hS⟩ : ∃ S : ByteArray, ⟨#[a, b, c, d, e]⟩ = S := ⟨_, rfl⟩
  have N := Lib.hid (magA_no (mag_b (a := a) (b := b) (c := c) (d := d) (e := e) (of_decide_eq_false hB)))
  rw [hS] at N
  clear hF hK hc xF xK
  rw [hS] at C ⊢
  clear hS
  go_enter Tryz.func47, Tryz.ntmps47
  go_wp2_with fail
  refine C.out.mono ?_
  rintro e w1 ⟨rfl, hb⟩
  have HB := Lib.hid hb
  clear hb C
  go_wp2_with (go_at_call 101; refine (isDigit_any _ _).mono ?_; rintro e w' ⟨rfl, rfl⟩)
  go_ret2
  exact ⟨0, false, rfl, N.out, HB.out⟩
set_option maxRecDepth 100000 in
set_option maxHeartbeats 16000000 in
theorem mag_w_d (a b c d e : UInt8) (w : World) (hp : ptS ⟨#[a, b, c, d, e]⟩ = 2) (hB : dgB (b.toNat : Int) = true) (hD : dgB (d.toNat : Int) = false) : Calls Tryz.prog 47 #[.string ⟨#[a, b, c, d, e]⟩] w (MagPost ⟨#[a, b, c, d, e]⟩ w) := by
  have C := Lib.hid (cut_any ⟨#[a, b, c, d, e]⟩ w (by show (5 : Nat) ≤ maxLen; unfold maxLen; decide))
  obtain ⟨p1, p2, p3⟩ := mag_parts hp
  rw [p1, p2, p3] at C
  have hc := (pt_two.1 hp).2.2
  clear p1 p2 p3 hp
  obtain ⟨F, hF, zF, eF0, eF1, xF, -⟩ := two_str a b
  obtain ⟨K, hK, zK, eK0, eK1, -, xK⟩ := two_str d e
  have i0 : (0 : Nat) < F.size := by omega
  have i1 : (1 : Nat) < F.size := by omega
  have j0 : (0 : Nat) < K.size := by omega
  have j1 : (1 : Nat) < K.size := by omega
  have eF0 := eF0 i0
  have eF1 := eF1 i1
  have eK0 := eK0 j0
  have eK1 := eK1 j1
  rw [← hF, ← hK] at C
  have ba := byte_bd a
  have bb := byte_bd b
  have bd := byte_bd d
  have be := byte_bd e
  obtain ⟨S, hS⟩ : ∃ S : ByteArray, ⟨#[a, b, c, d, e]⟩ = S := ⟨_, rfl⟩
  have N := Lib.hid (magA_no (mag_d (a := a) (b := b) (c := c) (d := d) (e := e) (of_decide_eq_false hD)))
  rw [hS] at N
  clear hF hK hc xF xK
  rw [hS] at C ⊢
  clear hS
  go_enter Tryz.func47, Tryz.ntmps47
  go_wp2_with fail
  refine C.out.mono ?_
  rintro e w1 ⟨rfl, hb⟩
  have HB := Lib.hid hb
  clear hb C
  go_wp2_with (go_at_call 101; refine (isDigit_any _ _).mono ?_; rintro e w' ⟨rfl, rfl⟩)
  go_ret2
  exact ⟨0, false, rfl, N.out, HB.out⟩
set_option maxRecDepth 100000 in
set_option maxHeartbeats 16000000 in
theorem mag_w_m_s (a b c d e : UInt8) (w : World) (hp : ptS ⟨#[a, b, c, d, e]⟩ = 2) (hB : dgB (b.toNat : Int) = true) (hD : dgB (d.toNat : Int) = true) (hA : (a.toNat : Int) = 45) (hE : (e.toNat : Int) = 32) : Calls Tryz.prog 47 #[.string ⟨#[a, b, c, d, e]⟩] w (MagPost ⟨#[a, b, c, d, e]⟩ w) := by
  have C := Lib.hid (cut_any ⟨#[a, b, c, d, e]⟩ w (by show (5 : Nat) ≤ maxLen; unfold maxLen; decide))
  obtain ⟨p1, p2, p3⟩ := mag_parts hp
  rw [p1, p2, p3] at C
  have hc := (pt_two.1 hp).2.2
  clear p1 p2 p3 hp
  obtain ⟨F, hF, zF, eF0, eF1, xF, -⟩ := two_str a b
  obtain ⟨K, hK, zK, eK0, eK1, -, xK⟩ := two_str d e
  have i0 : (0 : Nat) < F.size := by omega
  have i1 : (1 : Nat) < F.size := by omega
  have j0 : (0 : Nat) < K.size := by omega
  have j1 : (1 : Nat) < K.size := by omega
  have eF0 := eF0 i0
  have eF1 := eF1 i1
  have eK0 := eK0 j0
  have eK1 := eK1 j1
  rw [← hF, ← hK] at C
  have ba := byte_bd a
  have bb := byte_bd b
  have bd := byte_bd d
  have be := byte_bd e
  obtain ⟨S, hS⟩ : ∃ S : ByteArray, ⟨#[a, b, c, d, e]⟩ = S := ⟨_, rfl⟩
  have R0 := mag_r1 (a := a) (b := b) (c := c) (d := d) (e := e) (z := 48) (mn := true) hc (Or.inr ⟨rfl, hE⟩) (Or.inl ⟨hA, rfl⟩)
  obtain ⟨F1, hF1, zF1⟩ := one_str b
  rw [← hF1] at xF
  obtain ⟨K1, hK1, zK1⟩ := one_str d
  rw [← hK1] at xK
  obtain ⟨Q, hQ, zQ⟩ := one_str 48
  obtain ⟨K2, hK2, zK2, lK2⟩ := cat_str K1 Q
  rw [hQ] at hK2
  have z48 : (⟨#[48]⟩ : ByteArray).size = 1 := rfl
  rw [zK1, zQ] at zK2
  obtain ⟨T, hT, zT, lT⟩ := cat_str F1 K2
  rw [lK2, hF1, hK1, hQ] at lT
  have lT2 : T.data.toList = [b, d, 48] := lT
  have R := Lib.hid R0
  rw [hS, ← lT2] at R
  clear R0 lT lT2
  have zT4 : T.size = 3 := by omega
  clear zT
  clear hF hK hc hF1 hK1 hQ lK2 zQ
  rw [hS] at C ⊢
  clear hS
  go_enter Tryz.func47, Tryz.ntmps47
  go_wp2_with fail
  refine C.out.mono ?_
  rintro e w1 ⟨rfl, hb⟩
  have HB := Lib.hid hb
  clear hb C
  go_wp2_with (go_at_call 101; refine (isDigit_any _ _).mono ?_; rintro e w' ⟨rfl, rfl⟩)
  clear hB hD ba bb bd be eF0 eF1 eK0 eK1 i0 i1 j0 j1
  go_loopw [8] (fun n w' => ∃ k : Nat, k ≤ T.size ∧ w' = w1.iter T k ∧ n = .int .i64 (numL (T.data.toList.take k)) ∧ Hid (allD (T.data.toList.take k))) (fun _ w' => T.size - w'.iterPos w1.heap.size)
  case atStart => exact ⟨0, Nat.zero_le _, rfl, rfl, Lib.hid (by intro c hc; simp at hc)⟩
  case round =>
    obtain ⟨k, hk, rfl, rfl, D⟩ := hrel
    have HB2 := Lib.hid (below_then HB.out (Gp.below_iter w1 T k))
    by_cases hlt : k < T.size
    · have hnx : ∀ ty, (Instr.next (.pointer (some ⟨w1.heap.size, 0, none⟩)) true ty).run Tryz.prog (w1.iter T k) = _ := fun ty => run_next_any w1 T k ty hlt
      have HB3 := Lib.hid (below_then HB.out (Gp.below_iter w1 T (k + 1)))
      have nb := numL_17 T k hk (by omega) D.out
      have bb := byte_bd T[k]
      rcases rune_word hlt with hr | ⟨d, r1, r2⟩
      · rw [hr] at hnx
        rcases dg_cases (T[k].toNat : Int) with ⟨d1, e1⟩ | ⟨d1, e1⟩
        · have HS := Lib.hid (show numL (T.data.toList.take (k + 1)) = 10 * numL (T.data.toList.take k) + ((T[k].toNat : Int) - 48) by rw [take_snoc T k hlt, numL_snoc])
          have D2 := Lib.hid (show allD (T.data.toList.take (k + 1)) by rw [take_snoc T k hlt]; exact allD_snoc D.out d1.1 d1.2)
          obtain ⟨d1, d2⟩ := d1
          go_wp2_with (go_at_call 101; refine (isDigit_any _ _).mono ?_; rintro e w' ⟨rfl, rfl⟩)
          go_roundw
          case rel => first | exact ⟨k + 1, by omega, rfl, val_i HS.out.symm, D2⟩ | ((repeat apply Exists.intro); exact ⟨⟨k + 1, by omega, rfl, val_i HS.out.symm, D2⟩, rfl⟩)
          case measure => simp; omega
        · have N := Lib.hid (mag_f3 R.out (fun h => d1 (h T[k] (by
            have : T[k] = T.data.toList[k]'(by simpa using hlt) := rfl
            rw [this]; exact List.getElem_mem _))))
          clear d1
          go_wp2_with (go_at_call 101; refine (isDigit_any _ _).mono ?_; rintro e w' ⟨rfl, rfl⟩)
          go_ret2
          exact ⟨0, false, rfl, N.out, by first | exact HB3.out | exact HB2.out⟩
      · have N := Lib.hid (mag_f3 R.out (fun h => d (Or.inl (h T[k] (by
            have : T[k] = T.data.toList[k]'(by simpa using hlt) := rfl
            rw [this]; exact List.getElem_mem _)))))
        have e1 : dgB ((Utf8.decode T k).1 : Int) = false := decide_eq_false fun h => by unfold dgP at h; omega
        clear d
        generalize (Utf8.decode T k).1 = r at *
        go_wp2_with (go_at_call 101; refine (isDigit_any _ _).mono ?_; rintro e w' ⟨rfl, rfl⟩)
        go_ret2
        exact ⟨0, false, rfl, N.out, by first | exact below_then HB.out (Gp.below_iter w1 T _) | exact HB3.out | exact HB2.out⟩
    · have hnx : ∀ ty, (Instr.next (.pointer (some ⟨w1.heap.size, 0, none⟩)) true ty).run Tryz.prog (w1.iter T k) = _ := fun ty => run_next_end w1 T k ty hlt
      have hT0 : allD T.data.toList := by have := D.out; rwa [take_all T k hlt] at this
      have N := Lib.hid (mag_f1 R.out hT0)
      have nb := numL_17 T k hk (by omega) D.out
      rw [take_all T k hlt] at nb ⊢
      generalize numL T.data.toList = n at *
      clear hT0 D
      go_wp2_with fail
      go_ret2
      exact ⟨_, _, rfl, N.out, HB2.out⟩
set_option maxRecDepth 100000 in
set_option maxHeartbeats 16000000 in
theorem mag_w_m_n (a b c d e : UInt8) (w : World) (hp : ptS ⟨#[a, b, c, d, e]⟩ = 2) (hB : dgB (b.toNat : Int) = true) (hD : dgB (d.toNat : Int) = true) (hA : (a.toNat : Int) = 45) (hE : ¬ (e.toNat : Int) = 32) : Calls Tryz.prog 47 #[.string ⟨#[a, b, c, d, e]⟩] w (MagPost ⟨#[a, b, c, d, e]⟩ w) := by
  have C := Lib.hid (cut_any ⟨#[a, b, c, d, e]⟩ w (by show (5 : Nat) ≤ maxLen; unfold maxLen; decide))
  obtain ⟨p1, p2, p3⟩ := mag_parts hp
  rw [p1, p2, p3] at C
  have hc := (pt_two.1 hp).2.2
  clear p1 p2 p3 hp
  obtain ⟨F, hF, zF, eF0, eF1, xF, -⟩ := two_str a b
  obtain ⟨K, hK, zK, eK0, eK1, -, xK⟩ := two_str d e
  have i0 : (0 : Nat) < F.size := by omega
  have i1 : (1 : Nat) < F.size := by omega
  have j0 : (0 : Nat) < K.size := by omega
  have j1 : (1 : Nat) < K.size := by omega
  have eF0 := eF0 i0
  have eF1 := eF1 i1
  have eK0 := eK0 j0
  have eK1 := eK1 j1
  rw [← hF, ← hK] at C
  have ba := byte_bd a
  have bb := byte_bd b
  have bd := byte_bd d
  have be := byte_bd e
  obtain ⟨S, hS⟩ : ∃ S : ByteArray, ⟨#[a, b, c, d, e]⟩ = S := ⟨_, rfl⟩
  have R0 := mag_r1 (a := a) (b := b) (c := c) (d := d) (e := e) (z := e) (mn := true) hc (Or.inl ⟨rfl, hE⟩) (Or.inl ⟨hA, rfl⟩)
  obtain ⟨F1, hF1, zF1⟩ := one_str b
  rw [← hF1] at xF
  obtain ⟨T, hT, zT, lT⟩ := cat_str F1 K
  rw [hF1, hK] at lT
  have lT2 : T.data.toList = [b, d, e] := lT
  have R := Lib.hid R0
  rw [hS, ← lT2] at R
  clear R0 lT lT2
  have zT4 : T.size = 3 := by omega
  clear zT
  have m0 : ((e.toNat : Int) == 32) = false := beq_eq_false_iff_ne.2 hE
  clear hF hK hc hF1 xK
  rw [hS] at C ⊢
  clear hS
  go_enter Tryz.func47, Tryz.ntmps47
  go_wp2_with fail
  refine C.out.mono ?_
  rintro e w1 ⟨rfl, hb⟩
  have HB := Lib.hid hb
  clear hb C
  go_wp2_with (go_at_call 101; refine (isDigit_any _ _).mono ?_; rintro e w' ⟨rfl, rfl⟩)
  clear hB hD ba bb bd be eF0 eF1 eK0 eK1 i0 i1 j0 j1
  go_loopw [8] (fun n w' => ∃ k : Nat, k ≤ T.size ∧ w' = w1.iter T k ∧ n = .int .i64 (numL (T.data.toList.take k)) ∧ Hid (allD (T.data.toList.take k))) (fun _ w' => T.size - w'.iterPos w1.heap.size)
  case atStart => exact ⟨0, Nat.zero_le _, rfl, rfl, Lib.hid (by intro c hc; simp at hc)⟩
  case round =>
    obtain ⟨k, hk, rfl, rfl, D⟩ := hrel
    have HB2 := Lib.hid (below_then HB.out (Gp.below_iter w1 T k))
    by_cases hlt : k < T.size
    · have hnx : ∀ ty, (Instr.next (.pointer (some ⟨w1.heap.size, 0, none⟩)) true ty).run Tryz.prog (w1.iter T k) = _ := fun ty => run_next_any w1 T k ty hlt
      have HB3 := Lib.hid (below_then HB.out (Gp.below_iter w1 T (k + 1)))
      have nb := numL_17 T k hk (by omega) D.out
      have bb := byte_bd T[k]
      rcases rune_word hlt with hr | ⟨d, r1, r2⟩
      · rw [hr] at hnx
        rcases dg_cases (T[k].toNat : Int) with ⟨d1, e1⟩ | ⟨d1, e1⟩
        · have HS := Lib.hid (show numL (T.data.toList.take (k + 1)) = 10 * numL (T.data.toList.take k) + ((T[k].toNat : Int) - 48) by rw [take_snoc T k hlt, numL_snoc])
          have D2 := Lib.hid (show allD (T.data.toList.take (k + 1)) by rw [take_snoc T k hlt]; exact allD_snoc D.out d1.1 d1.2)
          obtain ⟨d1, d2⟩ := d1
          go_wp2_with (go_at_call 101; refine (isDigit_any _ _).mono ?_; rintro e w' ⟨rfl, rfl⟩)
          go_roundw
          case rel => first | exact ⟨k + 1, by omega, rfl, val_i HS.out.symm, D2⟩ | ((repeat apply Exists.intro); exact ⟨⟨k + 1, by omega, rfl, val_i HS.out.symm, D2⟩, rfl⟩)
          case measure => simp; omega
        · have N := Lib.hid (mag_f3 R.out (fun h => d1 (h T[k] (by
            have : T[k] = T.data.toList[k]'(by simpa using hlt) := rfl
            rw [this]; exact List.getElem_mem _))))
          clear d1
          go_wp2_with (go_at_call 101; refine (isDigit_any _ _).mono ?_; rintro e w' ⟨rfl, rfl⟩)
          go_ret2
          exact ⟨0, false, rfl, N.out, by first | exact HB3.out | exact HB2.out⟩
      · have N := Lib.hid (mag_f3 R.out (fun h => d (Or.inl (h T[k] (by
            have : T[k] = T.data.toList[k]'(by simpa using hlt) := rfl
            rw [this]; exact List.getElem_mem _)))))
        have e1 : dgB ((Utf8.decode T k).1 : Int) = false := decide_eq_false fun h => by unfold dgP at h; omega
        clear d
        generalize (Utf8.decode T k).1 = r at *
        go_wp2_with (go_at_call 101; refine (isDigit_any _ _).mono ?_; rintro e w' ⟨rfl, rfl⟩)
        go_ret2
        exact ⟨0, false, rfl, N.out, by first | exact below_then HB.out (Gp.below_iter w1 T _) | exact HB3.out | exact HB2.out⟩
    · have hnx : ∀ ty, (Instr.next (.pointer (some ⟨w1.heap.size, 0, none⟩)) true ty).run Tryz.prog (w1.iter T k) = _ := fun ty => run_next_end w1 T k ty hlt
      have hT0 : allD T.data.toList := by have := D.out; rwa [take_all T k hlt] at this
      have N := Lib.hid (mag_f1 R.out hT0)
      have nb := numL_17 T k hk (by omega) D.out
      rw [take_all T k hlt] at nb ⊢
      generalize numL T.data.toList = n at *
      clear hT0 D
      go_wp2_with fail
      go_ret2
      exact ⟨_, _, rfl, N.out, HB2.out⟩
set_option maxRecDepth 100000 in
set_option maxHeartbeats 16000000 in
theorem mag_w_s_s (a b c d e : UInt8) (w : World) (hp : ptS ⟨#[a, b, c, d, e]⟩ = 2) (hB : dgB (b.toNat : Int) = true) (hD : dgB (d.toNat : Int) = true) (hA : (a.toNat : Int) = 32) (hE : (e.toNat : Int) = 32) : Calls Tryz.prog 47 #[.string ⟨#[a, b, c, d, e]⟩] w (MagPost ⟨#[a, b, c, d, e]⟩ w) := by
  have C := Lib.hid (cut_any ⟨#[a, b, c, d, e]⟩ w (by show (5 : Nat) ≤ maxLen; unfold maxLen; decide))
  obtain ⟨p1, p2, p3⟩ := mag_parts hp
  rw [p1, p2, p3] at C
  have hc := (pt_two.1 hp).2.2
  clear p1 p2 p3 hp
  obtain ⟨F, hF, zF, eF0, eF1, xF, -⟩ := two_str a b
  obtain ⟨K, hK, zK, eK0, eK1, -, xK⟩ := two_str d e
  have i0 : (0 : Nat) < F.size := by omega
  have i1 : (1 : Nat) < F.size := by omega
  have j0 : (0 : Nat) < K.size := by omega
  have j1 : (1 : Nat) < K.size := by omega
  have eF0 := eF0 i0
  have eF1 := eF1 i1
  have eK0 := eK0 j0
  have eK1 := eK1 j1
  rw [← hF, ← hK] at C
  have ba := byte_bd a
  have bb := byte_bd b
  have bd := byte_bd d
  have be := byte_bd e
  obtain ⟨S, hS⟩ : ∃ S : ByteArray, ⟨#[a, b, c, d, e]⟩ = S := ⟨_, rfl⟩
  have R0 := mag_r1 (a := a) (b := b) (c := c) (d := d) (e := e) (z := 48) (mn := false) hc (Or.inr ⟨rfl, hE⟩) (Or.inr ⟨hA, rfl⟩)
  obtain ⟨F1, hF1, zF1⟩ := one_str b
  rw [← hF1] at xF
  obtain ⟨K1, hK1, zK1⟩ := one_str d
  rw [← hK1] at xK
  obtain ⟨Q, hQ, zQ⟩ := one_str 48
  obtain ⟨K2, hK2, zK2, lK2⟩ := cat_str K1 Q
  rw [hQ] at hK2
  have z48 : (⟨#[48]⟩ : ByteArray).size = 1 := rfl
  rw [zK1, zQ] at zK2
  obtain ⟨T, hT, zT, lT⟩ := cat_str F1 K2
  rw [lK2, hF1, hK1, hQ] at lT
  have lT2 : T.data.toList = [b, d, 48] := lT
  have R := Lib.hid R0
  rw [hS, ← lT2] at R
  clear R0 lT lT2
  have zT4 : T.size = 3 := by omega
  clear zT
  clear hF hK hc hF1 hK1 hQ lK2 zQ
  rw [hS] at C ⊢
  clear hS
  go_enter Tryz.func47, Tryz.ntmps47
  go_wp2_with fail
  refine C.out.mono ?_
  rintro e w1 ⟨rfl, hb⟩
  have HB := Lib.hid hb
  clear hb C
  go_wp2_with (go_at_call 101; refine (isDigit_any _ _).mono ?_; rintro e w' ⟨rfl, rfl⟩)
  clear hB hD ba bb bd be eF0 eF1 eK0 eK1 i0 i1 j0 j1
  go_loopw [8] (fun n w' => ∃ k : Nat, k ≤ T.size ∧ w' = w1.iter T k ∧ n = .int .i64 (numL (T.data.toList.take k)) ∧ Hid (allD (T.data.toList.take k))) (fun _ w' => T.size - w'.iterPos w1.heap.size)
  case atStart => exact ⟨0, Nat.zero_le _, rfl, rfl, Lib.hid (by intro c hc; simp at hc)⟩
  case round =>
    obtain ⟨k, hk, rfl, rfl, D⟩ := hrel
    have HB2 := Lib.hid (below_then HB.out (Gp.below_iter w1 T k))
    by_cases hlt : k < T.size
    · have hnx : ∀ ty, (Instr.next (.pointer (some ⟨w1.heap.size, 0, none⟩)) true ty).run Tryz.prog (w1.iter T k) = _ := fun ty => run_next_any w1 T k ty hlt
      have HB3 := Lib.hid (below_then HB.out (Gp.below_iter w1 T (k + 1)))
      have nb := numL_17 T k hk (by omega) D.out
      have bb := byte_bd T[k]
      rcases rune_word hlt with hr | ⟨d, r1, r2⟩
      · rw [hr] at hnx
        rcases dg_cases (T[k].toNat : Int) with ⟨d1, e1⟩ | ⟨d1, e1⟩
        · have HS := Lib.hid (show numL (T.data.toList.take (k + 1)) = 10 * numL (T.data.toList.take k) + ((T[k].toNat : Int) - 48) by rw [take_snoc T k hlt, numL_snoc])
          have D2 := Lib.hid (show allD (T.data.toList.take (k + 1)) by rw [take_snoc T k hlt]; exact allD_snoc D.out d1.1 d1.2)
          obtain ⟨d1, d2⟩ := d1
          go_wp2_with (go_at_call 101; refine (isDigit_any _ _).mono ?_; rintro e w' ⟨rfl, rfl⟩)
          go_roundw
          case rel => first | exact ⟨k + 1, by omega, rfl, val_i HS.out.symm, D2⟩ | ((repeat apply Exists.intro); exact ⟨⟨k + 1, by omega, rfl, val_i HS.out.symm, D2⟩, rfl⟩)
          case measure => simp; omega
        · have N := Lib.hid (mag_f3 R.out (fun h => d1 (h T[k] (by
            have : T[k] = T.data.toList[k]'(by simpa using hlt) := rfl
            rw [this]; exact List.getElem_mem _))))
          clear d1
          go_wp2_with (go_at_call 101; refine (isDigit_any _ _).mono ?_; rintro e w' ⟨rfl, rfl⟩)
          go_ret2
          exact ⟨0, false, rfl, N.out, by first | exact HB3.out | exact HB2.out⟩
      · have N := Lib.hid (mag_f3 R.out (fun h => d (Or.inl (h T[k] (by
            have : T[k] = T.data.toList[k]'(by simpa using hlt) := rfl
            rw [this]; exact List.getElem_mem _)))))
        have e1 : dgB ((Utf8.decode T k).1 : Int) = false := decide_eq_false fun h => by unfold dgP at h; omega
        clear d
        generalize (Utf8.decode T k).1 = r at *
        go_wp2_with (go_at_call 101; refine (isDigit_any _ _).mono ?_; rintro e w' ⟨rfl, rfl⟩)
        go_ret2
        exact ⟨0, false, rfl, N.out, by first | exact below_then HB.out (Gp.below_iter w1 T _) | exact HB3.out | exact HB2.out⟩
    · have hnx : ∀ ty, (Instr.next (.pointer (some ⟨w1.heap.size, 0, none⟩)) true ty).run Tryz.prog (w1.iter T k) = _ := fun ty => run_next_end w1 T k ty hlt
      have hT0 : allD T.data.toList := by have := D.out; rwa [take_all T k hlt] at this
      have N := Lib.hid (mag_f2 R.out hT0)
      have nb := numL_17 T k hk (by omega) D.out
      rw [take_all T k hlt] at nb ⊢
      generalize numL T.data.toList = n at *
      clear hT0 D
      go_wp2_with fail
      go_ret2
      exact ⟨_, _, rfl, N.out, HB2.out⟩
set_option maxRecDepth 100000 in
set_option maxHeartbeats 16000000 in
theorem mag_w_s_n (a b c d e : UInt8) (w : World) (hp : ptS ⟨#[a, b, c, d, e]⟩ = 2) (hB : dgB (b.toNat : Int) = true) (hD : dgB (d.toNat : Int) = true) (hA : (a.toNat : Int) = 32) (hE : ¬ (e.toNat : Int) = 32) : Calls Tryz.prog 47 #[.string ⟨#[a, b, c, d, e]⟩] w (MagPost ⟨#[a, b, c, d, e]⟩ w) := by
  have C := Lib.hid (cut_any ⟨#[a, b, c, d, e]⟩ w (by show (5 : Nat) ≤ maxLen; unfold maxLen; decide))
  obtain ⟨p1, p2, p3⟩ := mag_parts hp
  rw [p1, p2, p3] at C
  have hc := (pt_two.1 hp).2.2
  clear p1 p2 p3 hp
  obtain ⟨F, hF, zF, eF0, eF1, xF, -⟩ := two_str a b
  obtain ⟨K, hK, zK, eK0, eK1, -, xK⟩ := two_str d e
  have i0 : (0 : Nat) < F.size := by omega
  have i1 : (1 : Nat) < F.size := by omega
  have j0 : (0 : Nat) < K.size := by omega
  have j1 : (1 : Nat) < K.size := by omega
  have eF0 := eF0 i0
  have eF1 := eF1 i1
  have eK0 := eK0 j0
  have eK1 := eK1 j1
  rw [← hF, ← hK] at C
  have ba := byte_bd a
  have bb := byte_bd b
  have bd := byte_bd d
  have be := byte_bd e
  obtain ⟨S, hS⟩ : ∃ S : ByteArray, ⟨#[a, b, c, d, e]⟩ = S := ⟨_, rfl⟩
  have R0 := mag_r1 (a := a) (b := b) (c := c) (d := d) (e := e) (z := e) (mn := false) hc (Or.inl ⟨rfl, hE⟩) (Or.inr ⟨hA, rfl⟩)
  obtain ⟨F1, hF1, zF1⟩ := one_str b
  rw [← hF1] at xF
  obtain ⟨T, hT, zT, lT⟩ := cat_str F1 K
  rw [hF1, hK] at lT
  have lT2 : T.data.toList = [b, d, e] := lT
  have R := Lib.hid R0
  rw [hS, ← lT2] at R
  clear R0 lT lT2
  have zT4 : T.size = 3 := by omega
  clear zT
  have m0 : ((e.toNat : Int) == 32) = false := beq_eq_false_iff_ne.2 hE
  clear hF hK hc hF1 xK
  rw [hS] at C ⊢
  clear hS
  go_enter Tryz.func47, Tryz.ntmps47
  go_wp2_with fail
  refine C.out.mono ?_
  rintro e w1 ⟨rfl, hb⟩
  have HB := Lib.hid hb
  clear hb C
  go_wp2_with (go_at_call 101; refine (isDigit_any _ _).mono ?_; rintro e w' ⟨rfl, rfl⟩)
  clear hB hD ba bb bd be eF0 eF1 eK0 eK1 i0 i1 j0 j1
  go_loopw [8] (fun n w' => ∃ k : Nat, k ≤ T.size ∧ w' = w1.iter T k ∧ n = .int .i64 (numL (T.data.toList.take k)) ∧ Hid (allD (T.data.toList.take k))) (fun _ w' => T.size - w'.iterPos w1.heap.size)
  case atStart => exact ⟨0, Nat.zero_le _, rfl, rfl, Lib.hid (by intro c hc; simp at hc)⟩
  case round =>
    obtain ⟨k, hk, rfl, rfl, D⟩ := hrel
    have HB2 := Lib.hid (below_then HB.out (Gp.below_iter w1 T k))
    by_cases hlt : k < T.size
    · have hnx : ∀ ty, (Instr.next (.pointer (some ⟨w1.heap.size, 0, none⟩)) true ty).run Tryz.prog (w1.iter T k) = _ := fun ty => run_next_any w1 T k ty hlt
      have HB3 := Lib.hid (below_then HB.out (Gp.below_iter w1 T (k + 1)))
      have nb := numL_17 T k hk (by omega) D.out
      have bb := byte_bd T[k]
      rcases rune_word hlt with hr | ⟨d, r1, r2⟩
      · rw [hr] at hnx
        rcases dg_cases (T[k].toNat : Int) with ⟨d1, e1⟩ | ⟨d1, e1⟩
        · have HS := Lib.hid (show numL (T.data.toList.take (k + 1)) = 10 * numL (T.data.toList.take k) + ((T[k].toNat : Int) - 48) by rw [take_snoc T k hlt, numL_snoc])
          have D2 := Lib.hid (show allD (T.data.toList.take (k + 1)) by rw [take_snoc T k hlt]; exact allD_snoc D.out d1.1 d1.2)
          obtain ⟨d1, d2⟩ := d1
          go_wp2_with (go_at_call 101; refine (isDigit_any _ _).mono ?_; rintro e w' ⟨rfl, rfl⟩)
          go_roundw
          case rel => first | exact ⟨k + 1, by omega, rfl, val_i HS.out.symm, D2⟩ | ((repeat apply Exists.intro); exact ⟨⟨k + 1, by omega, rfl, val_i HS.out.symm, D2⟩, rfl⟩)
          case measure => simp; omega
        · have N := Lib.hid (mag_f3 R.out (fun h => d1 (h T[k] (by
            have : T[k] = T.data.toList[k]'(by simpa using hlt) := rfl
            rw [this]; exact List.getElem_mem _))))
          clear d1
          go_wp2_with (go_at_call 101; refine (isDigit_any _ _).mono ?_; rintro e w' ⟨rfl, rfl⟩)
          go_ret2
          exact ⟨0, false, rfl, N.out, by first | exact HB3.out | exact HB2.out⟩
      · have N := Lib.hid (mag_f3 R.out (fun h => d (Or.inl (h T[k] (by
            have : T[k] = T.data.toList[k]'(by simpa using hlt) := rfl
            rw [this]; exact List.getElem_mem _)))))
        have e1 : dgB ((Utf8.decode T k).1 : Int) = false := decide_eq_false fun h => by unfold dgP at h; omega
        clear d
        generalize (Utf8.decode T k).1 = r at *
        go_wp2_with (go_at_call 101; refine (isDigit_any _ _).mono ?_; rintro e w' ⟨rfl, rfl⟩)
        go_ret2
        exact ⟨0, false, rfl, N.out, by first | exact below_then HB.out (Gp.below_iter w1 T _) | exact HB3.out | exact HB2.out⟩
    · have hnx : ∀ ty, (Instr.next (.pointer (some ⟨w1.heap.size, 0, none⟩)) true ty).run Tryz.prog (w1.iter T k) = _ := fun ty => run_next_end w1 T k ty hlt
      have hT0 : allD T.data.toList := by have := D.out; rwa [take_all T k hlt] at this
      have N := Lib.hid (mag_f2 R.out hT0)
      have nb := numL_17 T k hk (by omega) D.out
      rw [take_all T k hlt] at nb ⊢
      generalize numL T.data.toList = n at *
      clear hT0 D
      go_wp2_with fail
      go_ret2
      exact ⟨_, _, rfl, N.out, HB2.out⟩
set_option maxRecDepth 100000 in
set_option maxHeartbeats 16000000 in
theorem mag_w_o_s (a b c d e : UInt8) (w : World) (hp : ptS ⟨#[a, b, c, d, e]⟩ = 2) (hB : dgB (b.toNat : Int) = true) (hD : dgB (d.toNat : Int) = true) (n1 : ¬ (a.toNat : Int) = 45) (n2 : ¬ (a.toNat : Int) = 32) (n3 : ¬ (a.toNat : Int) = 48) (hE : (e.toNat : Int) = 32) : Calls Tryz.prog 47 #[.string ⟨#[a, b, c, d, e]⟩] w (MagPost ⟨#[a, b, c, d, e]⟩ w) := by
  have C := Lib.hid (cut_any ⟨#[a, b, c, d, e]⟩ w (by show (5 : Nat) ≤ maxLen; unfold maxLen; decide))
  obtain ⟨p1, p2, p3⟩ := mag_parts hp
  rw [p1, p2, p3] at C
  have hc := (pt_two.1 hp).2.2
  clear p1 p2 p3 hp
  obtain ⟨F, hF, zF, eF0, eF1, xF, -⟩ := two_str a b
  obtain ⟨K, hK, zK, eK0, eK1, -, xK⟩ := two_str d e
  have i0 : (0 : Nat) < F.size := by omega
  have i1 : (1 : Nat) < F.size := by omega
  have j0 : (0 : Nat) < K.size := by omega
  have j1 : (1 : Nat) < K.size := by omega
  have eF0 := eF0 i0
  have eF1 := eF1 i1
  have eK0 := eK0 j0
  have eK1 := eK1 j1
  rw [← hF, ← hK] at C
  have ba := byte_bd a
  have bb := byte_bd b
  have bd := byte_bd d
  have be := byte_bd e
  obtain ⟨S, hS⟩ : ∃ S : ByteArray, ⟨#[a, b, c, d, e]⟩ = S := ⟨_, rfl⟩
  have R0 := mag_r2 (a := a) (b := b) (c := c) (d := d) (e := e) (z := 48) hc (Or.inr ⟨rfl, hE⟩) n1 n2 n3
  obtain ⟨K1, hK1, zK1⟩ := one_str d
  rw [← hK1] at xK
  obtain ⟨Q, hQ, zQ⟩ := one_str 48
  obtain ⟨K2, hK2, zK2, lK2⟩ := cat_str K1 Q
  rw [hQ] at hK2
  have z48 : (⟨#[48]⟩ : ByteArray).size = 1 := rfl
  rw [zK1, zQ] at zK2
  obtain ⟨T, hT, zT, lT⟩ := cat_str F K2
  rw [lK2, hF, hK1, hQ] at lT
  have lT2 : T.data.toList = [a, b, d, 48] := lT
  have R := Lib.hid R0
  rw [hS, ← lT2] at R
  clear R0 lT lT2
  have zT4 : T.size = 4 := by omega
  clear zT
  have m1 : ((a.toNat : Int) == 45) = false := beq_eq_false_iff_ne.2 n1
  have m2 : ((a.toNat : Int) == 32) = false := beq_eq_false_iff_ne.2 n2
  have m3 : ((a.toNat : Int) == 48) = false := beq_eq_false_iff_ne.2 n3
  clear hF hK hc hK1 hQ lK2 zQ xF
  rw [hS] at C ⊢
  clear hS
  go_enter Tryz.func47, Tryz.ntmps47
  go_wp2_with fail
  refine C.out.mono ?_
  rintro e w1 ⟨rfl, hb⟩
  have HB := Lib.hid hb
  clear hb C
  go_wp2_with (go_at_call 101; refine (isDigit_any _ _).mono ?_; rintro e w' ⟨rfl, rfl⟩)
  clear hB hD ba bb bd be eF0 eF1 eK0 eK1 i0 i1 j0 j1
  go_loopw [8] (fun n w' => ∃ k : Nat, k ≤ T.size ∧ w' = w1.iter T k ∧ n = .int .i64 (numL (T.data.toList.take k)) ∧ Hid (allD (T.data.toList.take k))) (fun _ w' => T.size - w'.iterPos w1.heap.size)
  case atStart => exact ⟨0, Nat.zero_le _, rfl, rfl, Lib.hid (by intro c hc; simp at hc)⟩
  case round =>
    obtain ⟨k, hk, rfl, rfl, D⟩ := hrel
    have HB2 := Lib.hid (below_then HB.out (Gp.below_iter w1 T k))
    by_cases hlt : k < T.size
    · have hnx : ∀ ty, (Instr.next (.pointer (some ⟨w1.heap.size, 0, none⟩)) true ty).run Tryz.prog (w1.iter T k) = _ := fun ty => run_next_any w1 T k ty hlt
      have HB3 := Lib.hid (below_then HB.out (Gp.below_iter w1 T (k + 1)))
      have nb := numL_17 T k hk (by omega) D.out
      have bb := byte_bd T[k]
      rcases rune_word hlt with hr | ⟨d, r1, r2⟩
      · rw [hr] at hnx
        rcases dg_cases (T[k].toNat : Int) with ⟨d1, e1⟩ | ⟨d1, e1⟩
        · have HS := Lib.hid (show numL (T.data.toList.take (k + 1)) = 10 * numL (T.data.toList.take k) + ((T[k].toNat : Int) - 48) by rw [take_snoc T k hlt, numL_snoc])
          have D2 := Lib.hid (show allD (T.data.toList.take (k + 1)) by rw [take_snoc T k hlt]; exact allD_snoc D.out d1.1 d1.2)
          obtain ⟨d1, d2⟩ := d1
          go_wp2_with (go_at_call 101; refine (isDigit_any _ _).mono ?_; rintro e w' ⟨rfl, rfl⟩)
          go_roundw
          case rel => first | exact ⟨k + 1, by omega, rfl, val_i HS.out.symm, D2⟩ | ((repeat apply Exists.intro); exact ⟨⟨k + 1, by omega, rfl, val_i HS.out.symm, D2⟩, rfl⟩)
          case measure => simp; omega
        · have N := Lib.hid (mag_f3 R.out (fun h => d1 (h T[k] (by
            have : T[k] = T.data.toList[k]'(by simpa using hlt) := rfl
            rw [this]; exact List.getElem_mem _))))
          clear d1
          go_wp2_with (go_at_call 101; refine (isDigit_any _ _).mono ?_; rintro e w' ⟨rfl, rfl⟩)
          go_ret2
          exact ⟨0, false, rfl, N.out, by first | exact HB3.out | exact HB2.out⟩
      · have N := Lib.hid (mag_f3 R.out (fun h => d (Or.inl (h T[k] (by
            have : T[k] = T.data.toList[k]'(by simpa using hlt) := rfl
            rw [this]; exact List.getElem_mem _)))))
        have e1 : dgB ((Utf8.decode T k).1 : Int) = false := decide_eq_false fun h => by unfold dgP at h; omega
        clear d
        generalize (Utf8.decode T k).1 = r at *
        go_wp2_with (go_at_call 101; refine (isDigit_any _ _).mono ?_; rintro e w' ⟨rfl, rfl⟩)
        go_ret2
        exact ⟨0, false, rfl, N.out, by first | exact below_then HB.out (Gp.below_iter w1 T _) | exact HB3.out | exact HB2.out⟩
    · have hnx : ∀ ty, (Instr.next (.pointer (some ⟨w1.heap.size, 0, none⟩)) true ty).run Tryz.prog (w1.iter T k) = _ := fun ty => run_next_end w1 T k ty hlt
      have hT0 : allD T.data.toList := by have := D.out; rwa [take_all T k hlt] at this
      have N := Lib.hid (mag_f2 R.out hT0)
      have nb := numL_17 T k hk (by omega) D.out
      rw [take_all T k hlt] at nb ⊢
      generalize numL T.data.toList = n at *
      clear hT0 D
      go_wp2_with fail
      go_ret2
      exact ⟨_, _, rfl, N.out, HB2.out⟩
set_option maxRecDepth 100000 in
set_option maxHeartbeats 16000000 in
theorem mag_w_o_n (a b c d e : UInt8) (w : World) (hp : ptS ⟨#[a, b, c, d, e]⟩ = 2) (hB : dgB (b.toNat : Int) = true) (hD : dgB (d.toNat : Int) = true) (n1 : ¬ (a.toNat : Int) = 45) (n2 : ¬ (a.toNat : Int) = 32) (n3 : ¬ (a.toNat : Int) = 48) (hE : ¬ (e.toNat : Int) = 32) : Calls Tryz.prog 47 #[.string ⟨#[a, b, c, d, e]⟩] w (MagPost ⟨#[a, b, c, d, e]⟩ w) := by
  have C := Lib.hid (cut_any ⟨#[a, b, c, d, e]⟩ w (by show (5 : Nat) ≤ maxLen; unfold maxLen; decide))
  obtain ⟨p1, p2, p3⟩ := mag_parts hp
  rw [p1, p2, p3] at C
  have hc := (pt_two.1 hp).2.2
  clear p1 p2 p3 hp
  obtain ⟨F, hF, zF, eF0, eF1, xF, -⟩ := two_str a b
  obtain ⟨K, hK, zK, eK0, eK1, -, xK⟩ := two_str d e
  have i0 : (0 : Nat) < F.size := by omega
  have i1 : (1 : Nat) < F.size := by omega
  have j0 : (0 : Nat) < K.size := by omega
  have j1 : (1 : Nat) < K.size := by omega
  have eF0 := eF0 i0
  have eF1 := eF1 i1
  have eK0 := eK0 j0
  have eK1 := eK1 j1
  rw [← hF, ← hK] at C
  have ba := byte_bd a
  have bb := byte_bd b
  have bd := byte_bd d
  have be := byte_bd e
  obtain ⟨S, hS⟩ : ∃ S : ByteArray, ⟨#[a, b, c, d, e]⟩ = S := ⟨_, rfl⟩
  have R0 := mag_r2 (a := a) (b := b) (c := c) (d := d) (e := e) (z := e) hc (Or.inl ⟨rfl, hE⟩) n1 n2 n3
  obtain ⟨T, hT, zT, lT⟩ := cat_str F K
  rw [hF, hK] at lT
  have lT2 : T.data.toList = [a, b, d, e] := lT
  have R := Lib.hid R0
  rw [hS, ← lT2] at R
  clear R0 lT lT2
  have zT4 : T.size = 4 := by omega
  clear zT
  have m0 : ((e.toNat : Int) == 32) = false := beq_eq_false_iff_ne.2 hE
  have m1 : ((a.toNat : Int) == 45) = false := beq_eq_false_iff_ne.2 n1
  have m2 : ((a.toNat : Int) == 32) = false := beq_eq_false_iff_ne.2 n2
  have m3 : ((a.toNat : Int) == 48) = false := beq_eq_false_iff_ne.2 n3
  clear hF hK hc xF xK
  rw [hS] at C ⊢
  clear hS
  go_enter Tryz.func47, Tryz.ntmps47
  go_wp2_with fail
  refine C.out.mono ?_
  rintro e w1 ⟨rfl, hb⟩
  have HB := Lib.hid hb
  clear hb C
  go_wp2_with (go_at_call 101; refine (isDigit_any _ _).mono ?_; rintro e w' ⟨rfl, rfl⟩)
  clear hB hD ba bb bd be eF0 eF1 eK0 eK1 i0 i1 j0 j1
  go_loopw [8] (fun n w' => ∃ k : Nat, k ≤ T.size ∧ w' = w1.iter T k ∧ n = .int .i64 (numL (T.data.toList.take k)) ∧ Hid (allD (T.data.toList.take k))) (fun _ w' => T.size - w'.iterPos w1.heap.size)
  case atStart => exact ⟨0, Nat.zero_le _, rfl, rfl, Lib.hid (by intro c hc; simp at hc)⟩
  case round =>
    obtain ⟨k, hk, rfl, rfl, D⟩ := hrel
    have HB2 := Lib.hid (below_then HB.out (Gp.below_iter w1 T k))
    by_cases hlt : k < T.size
    · have hnx : ∀ ty, (Instr.next (.pointer (some ⟨w1.heap.size, 0, none⟩)) true ty).run Tryz.prog (w1.iter T k) = _ := fun ty => run_next_any w1 T k ty hlt
      have HB3 := Lib.hid (below_then HB.out (Gp.below_iter w1 T (k + 1)))
      have nb := numL_17 T k hk (by omega) D.out
      have bb := byte_bd T[k]
      rcases rune_word hlt with hr | ⟨d, r1, r2⟩
      · rw [hr] at hnx
        rcases dg_cases (T[k].toNat : Int) with ⟨d1, e1⟩ | ⟨d1, e1⟩
        · have HS := Lib.hid (show numL (T.data.toList.take (k + 1)) = 10 * numL (T.data.toList.take k) + ((T[k].toNat : Int) - 48) by rw [take_snoc T k hlt, numL_snoc])
          have D2 := Lib.hid (show allD (T.data.toList.take (k + 1)) by rw [take_snoc T k hlt]; exact allD_snoc D.out d1.1 d1.2)
          obtain ⟨d1, d2⟩ := d1
          go_wp2_with (go_at_call 101; refine (isDigit_any _ _).mono ?_; rintro e w' ⟨rfl, rfl⟩)
          go_roundw
          case rel => first | exact ⟨k + 1, by omega, rfl, val_i HS.out.symm, D2⟩ | ((repeat apply Exists.intro); exact ⟨⟨k + 1, by omega, rfl, val_i HS.out.symm, D2⟩, rfl⟩)
          case measure => simp; omega
        · have N := Lib.hid (mag_f3 R.out (fun h => d1 (h T[k] (by
            have : T[k] = T.data.toList[k]'(by simpa using hlt) := rfl
            rw [this]; exact List.getElem_mem _))))
          clear d1
          go_wp2_with (go_at_call 101; refine (isDigit_any _ _).mono ?_; rintro e w' ⟨rfl, rfl⟩)
          go_ret2
          exact ⟨0, false, rfl, N.out, by first | exact HB3.out | exact HB2.out⟩
      · have N := Lib.hid (mag_f3 R.out (fun h => d (Or.inl (h T[k] (by
            have : T[k] = T.data.toList[k]'(by simpa using hlt) := rfl
            rw [this]; exact List.getElem_mem _)))))
        have e1 : dgB ((Utf8.decode T k).1 : Int) = false := decide_eq_false fun h => by unfold dgP at h; omega
        clear d
        generalize (Utf8.decode T k).1 = r at *
        go_wp2_with (go_at_call 101; refine (isDigit_any _ _).mono ?_; rintro e w' ⟨rfl, rfl⟩)
        go_ret2
        exact ⟨0, false, rfl, N.out, by first | exact below_then HB.out (Gp.below_iter w1 T _) | exact HB3.out | exact HB2.out⟩
    · have hnx : ∀ ty, (Instr.next (.pointer (some ⟨w1.heap.size, 0, none⟩)) true ty).run Tryz.prog (w1.iter T k) = _ := fun ty => run_next_end w1 T k ty hlt
      have hT0 : allD T.data.toList := by have := D.out; rwa [take_all T k hlt] at this
      have N := Lib.hid (mag_f2 R.out hT0)
      have nb := numL_17 T k hk (by omega) D.out
      rw [take_all T k hlt] at nb ⊢
      generalize numL T.data.toList = n at *
      clear hT0 D
      go_wp2_with fail
      go_ret2
      exact ⟨_, _, rfl, N.out, HB2.out⟩
set_option maxRecDepth 100000 in
set_option maxHeartbeats 16000000 in
theorem mag_w_z_s (a b c d e : UInt8) (w : World) (hp : ptS ⟨#[a, b, c, d, e]⟩ = 2) (hB : dgB (b.toNat : Int) = true) (hD : dgB (d.toNat : Int) = true) (hA : (a.toNat : Int) = 48) (hE : (e.toNat : Int) = 32) : Calls Tryz.prog 47 #[.string ⟨#[a, b, c, d, e]⟩] w (MagPost ⟨#[a, b, c, d, e]⟩ w) := by
  have C := Lib.hid (cut_any ⟨#[a, b, c, d, e]⟩ w (by show (5 : Nat) ≤ maxLen; unfold maxLen; decide))
  obtain ⟨p1, p2, p3⟩ := mag_parts hp
  rw [p1, p2, p3] at C
  have hc := (pt_two.1 hp).2.2
  clear p1 p2 p3 hp
  obtain ⟨F, hF, zF, eF0, eF1, xF, -⟩ := two_str a b
  obtain ⟨K, hK, zK, eK0, eK1, -, xK⟩ := two_str d e
  have i0 : (0 : Nat) < F.size := by omega
  have i1 : (1 : Nat) < F.size := by omega
  have j0 : (0 : Nat) < K.size := by omega
  have j1 : (1 : Nat) < K.size := by omega
  have eF0 := eF0 i0
  have eF1 := eF1 i1
  have eK0 := eK0 j0
  have eK1 := eK1 j1
  rw [← hF, ← hK] at C
  have ba := byte_bd a
  have bb := byte_bd b
  have bd := byte_bd d
  have be := byte_bd e
  obtain ⟨S, hS⟩ : ∃ S : ByteArray, ⟨#[a, b, c, d, e]⟩ = S := ⟨_, rfl⟩
  have N := Lib.hid (magA_no (mag_0 (a := a) (b := b) (c := c) (d := d) (e := e) hA))
  rw [hS] at N
  obtain ⟨K1, hK1, zK1⟩ := one_str d
  rw [← hK1] at xK
  obtain ⟨Q, hQ, zQ⟩ := one_str 48
  obtain ⟨K2, hK2, zK2, lK2⟩ := cat_str K1 Q
  rw [hQ] at hK2
  have z48 : (⟨#[48]⟩ : ByteArray).size = 1 := rfl
  rw [zK1, zQ] at zK2
  clear hF hK hc hK1 hQ lK2 zQ xF
  rw [hS] at C ⊢
  clear hS
  go_enter Tryz.func47, Tryz.ntmps47
  go_wp2_with fail
  refine C.out.mono ?_
  rintro e w1 ⟨rfl, hb⟩
  have HB := Lib.hid hb
  clear hb C
  go_wp2_with (go_at_call 101; refine (isDigit_any _ _).mono ?_; rintro e w' ⟨rfl, rfl⟩)
  go_ret2
  exact ⟨0, false, rfl, N.out, HB.out⟩
set_option maxRecDepth 100000 in
set_option maxHeartbeats 16000000 in
theorem mag_w_z_n (a b c d e : UInt8) (w : World) (hp : ptS ⟨#[a, b, c, d, e]⟩ = 2) (hB : dgB (b.toNat : Int) = true) (hD : dgB (d.toNat : Int) = true) (hA : (a.toNat : Int) = 48) (hE : ¬ (e.toNat : Int) = 32) : Calls Tryz.prog 47 #[.string ⟨#[a, b, c, d, e]⟩] w (MagPost ⟨#[a, b, c, d, e]⟩ w) := by
  have C := Lib.hid (cut_any ⟨#[a, b, c, d, e]⟩ w (by show (5 : Nat) ≤ maxLen; unfold maxLen; decide))
  obtain ⟨p1, p2, p3⟩ := mag_parts hp
  rw [p1, p2, p3] at C
  have hc := (pt_two.1 hp).2.2
  clear p1 p2 p3 hp
  obtain ⟨F, hF, zF, eF0, eF1, xF, -⟩ := two_str a b
  obtain ⟨K, hK, zK, eK0, eK1, -, xK⟩ := two_str d e
  have i0 : (0 : Nat) < F.size := by omega
  have i1 : (1 : Nat) < F.size := by omega
  have j0 : (0 : Nat) < K.size := by omega
  have j1 : (1 : Nat) < K.size := by omega
  have eF0 := eF0 i0
  have eF1 := eF1 i1
  have eK0 := eK0 j0
  have eK1 := eK1 j1
  rw [← hF, ← hK] at C
  have ba := byte_bd a
  have bb := byte_bd b
  have bd := byte_bd d
  have be := byte_bd e
  obtain ⟨S, hS⟩ : ∃ S : ByteArray, ⟨#[a, b, c, d, e]⟩ = S := ⟨_, rfl⟩
  have N := Lib.hid (magA_no (mag_0 (a := a) (b := b) (c := c) (d := d) (e := e) hA))
  rw [hS] at N
  have m0 : ((e.toNat : Int) == 32) = false := beq_eq_false_iff_ne.2 hE
  clear hF hK hc xF xK
  rw [hS] at C ⊢
  clear hS
  go_enter Tryz.func47, Tryz.ntmps47
  go_wp2_with fail
  refine C.out.mono ?_
  rintro e w1 ⟨rfl, hb⟩
  have HB := Lib.hid hb
  clear hb C
  go_wp2_with (go_at_call 101; refine (isDigit_any _ _).mono ?_; rintro e w' ⟨rfl, rfl⟩)
  go_ret2
  exact ⟨0, false, rfl, N.out, HB.out⟩
set_option maxRecDepth 100000 in
set_option maxHeartbeats 16000000 in
theorem magnitude_any (s : ByteArray) (w : World) (hs : s.size = 5) : Calls Tryz.prog 47 #[.string s] w (MagPost s w) := by
  obtain ⟨a, b, c, d, e, rfl⟩ := five hs
  by_cases hp : ptS ⟨#[a, b, c, d, e]⟩ = 2
  · rcases dg_cases (b.toNat : Int) with ⟨_, hB⟩ | ⟨_, hB⟩
    · rcases dg_cases (d.toNat : Int) with ⟨_, hD⟩ | ⟨_, hD⟩
      · by_cases hE : (e.toNat : Int) = 32
        · by_cases h1 : (a.toNat : Int) = 45
          · exact mag_w_m_s a b c d e w hp hB hD h1 hE
          · by_cases h2 : (a.toNat : Int) = 32
            · exact mag_w_s_s a b c d e w hp hB hD h2 hE
            · by_cases h3 : (a.toNat : Int) = 48
              · exact mag_w_z_s a b c d e w hp hB hD h3 hE
              · exact mag_w_o_s a b c d e w hp hB hD h1 h2 h3 hE
        · by_cases h1 : (a.toNat : Int) = 45
          · exact mag_w_m_n a b c d e w hp hB hD h1 hE
          · by_cases h2 : (a.toNat : Int) = 32
            · exact mag_w_s_n a b c d e w hp hB hD h2 hE
            · by_cases h3 : (a.toNat : Int) = 48
              · exact mag_w_z_n a b c d e w hp hB hD h3 hE
              · exact mag_w_o_n a b c d e w hp hB hD h1 h2 h3 hE
      · exact mag_w_d a b c d e w hp hB hD
    · exact mag_w_b a b c d e w hp hB
  · have N := Lib.hid (magA_no (mag_pt (a := a) (b := b) (c := c) (d := d) (e := e) (fun h => hp (pt_two.2 h))))
    have C := Lib.hid (cut_any ⟨#[a, b, c, d, e]⟩ w (by show (5 : Nat) ≤ maxLen; unfold maxLen; decide))
    have z5 : (⟨#[a, b, c, d, e]⟩ : ByteArray).size = 5 := rfl
    have le := ptS_le ⟨#[a, b, c, d, e]⟩
    have zh : (hdP ⟨#[a, b, c, d, e]⟩).size = ptS ⟨#[a, b, c, d, e]⟩ := by unfold hdP; rw [ByteArray.size_extract]; omega
    obtain ⟨S, hS⟩ : ∃ S : ByteArray, ⟨#[a, b, c, d, e]⟩ = S := ⟨_, rfl⟩
    rw [hS] at C N hp z5 le zh ⊢
    clear hS
    generalize hdP S = F at *
    generalize tlP S = K at *
    generalize ptS S = q at *
    by_cases hq : q < S.size
    · rw [decide_eq_true hq] at C
      have hz : ¬ F.size = 2 := by omega
      have hz' : ¬ (F.size : Int) = 2 := by omega
      clear hp zh le hq z5
      go_enter Tryz.func47, Tryz.ntmps47
      go_wp2_with fail
      refine C.out.mono ?_
      rintro e w1 ⟨rfl, hb⟩
      go_wp2_with fail
      go_ret2
      exact ⟨0, false, rfl, N.out, hb⟩
    · rw [decide_eq_false hq] at C
      clear hp zh le hq z5
      go_enter Tryz.func47, Tryz.ntmps47
      go_wp2_with fail
      refine C.out.mono ?_
      rintro e w1 ⟨rfl, hb⟩
      go_wp2_with fail
      go_ret2
      exact ⟨0, false, rfl, N.out, hb⟩
end Ow
end Go.Proofs.YtgodhaphbgllhaaGreatDoor
/-
  The day texts of times: Day of the reference.
-/
namespace Go.Proofs.YtgodhaphbgllhaaGreatDoor
namespace At
open Go.RowKit Lw Ap Go.Proofs.YtgodhaphbgllhaaGreatDoor.Mp Go.Proofs.YtgodhaphbgllhaaGreatDoor.Mw

theorem XSr.call {w : World} {b : Nat} {a c : World} (h : XSr w b a) (hb : Below a.heap.size a c) : XSr w b c := ⟨Nat.lt_of_lt_of_le h.lt hb.size, below_then h.below hb⟩
set_option maxRecDepth 100000 in
set_option maxHeartbeats 4000000 in
theorem rsday_bad (t d : Int) (w : World) (h : d < 0 ∨ 9 < d) :
    Calls Tryz.prog 87 #[.int .i64 t, .int .i64 d] w (DayPost t d w) := by
  have N := Lib.hid (show DayIs t d ⟨#[]⟩ 2 from Or.inl ⟨h, rfl, rfl⟩)
  rcases h with h | h
  all_goals
    go_enter Tryz.func87, Tryz.ntmps87
    go_wp2_with fail
    go_ret2
    exact ⟨⟨#[]⟩, 2, rfl, N.out, Below.refl _ _⟩
set_option maxRecDepth 100000 in
set_option maxHeartbeats 4000000 in
theorem rsday_out (t : Int) (d : Nat) (w : World) (hd : d ≤ 9) (h0 : -9223372036854775808 ≤ t) (h1 : t ≤ 9223372036854775807) (h : t < bgv (-10227) 1972 1 ∨ bgv 36525 2100 1 ≤ t) :
    Calls Tryz.prog 87 #[.int .i64 t, .int .i64 d] w (DayPost t d w) := by
  have N := Lib.hid (show DayIs t d ⟨#[]⟩ 16 from Or.inr (Or.inl ⟨by omega, by omega, h, rfl, rfl⟩))
  have TU := Lib.hid (fun w' => rday_out t w' h0 h1 h)
  have i0 : ¬ (d : Int) < 0 := by omega
  have i1 : ¬ 9 < (d : Int) := by omega
  clear h
  go_enter Tryz.func87, Tryz.ntmps87
  go_wp2_with fail
  refine (TU.out _).mono ?_
  rintro e w1 ⟨rfl, hb⟩
  have B1 := Lib.hid (hb.alloc hb.size (.cells (List.toArray [.int .i64 0, .int .i64 0, .int .i64 0, .int .i64 0, .int .i64 0, .int .i64 0, .int .i64 0]) 79))
  clear hb TU
  go_wp2_with (refine wpList_store_new rfl _ (.tmp 6) (.tmp 21) rfl _ _ rfl rfl rinfo7 rfl ?_ ?_; simp [Value.oneCell'])
  go_ret2
  exact ⟨⟨#[]⟩, 16, rfl, N.out, B1.out⟩
set_option maxRecDepth 100000 in
set_option maxHeartbeats 8000000 in
theorem rsday_in (t n y m z k : Int) (d : Nat) (w : World) (hd : d ≤ 9) (h : DayOf t n y m z k) (h1 : bgv (-10227) 1972 1 ≤ t) (h2 : t < bgv 36525 2100 1) :
    Calls Tryz.prog 87 #[.int .i64 t, .int .i64 d] w (DayPost t d w) := by
  obtain ⟨Y, M, D, _, _, _, _, e1, e2, e3, -, -, -, -, b1, b2, b3, -, -, -, -⟩ := date_nat h
  obtain ⟨P, L, T, eP, eL, eT, hPL, hL, T1, T9, eQ, PQ, q1, q2, eS⟩ := part_nat h d hd
  have TI : ∀ s, s = daytS Y M D (P * T / L) d → DayIs t d s 0 := fun s hs => Or.inr (Or.inr ⟨by omega, by omega, h1, h2, n, y, m, z, k, h, by rw [Int.toNat_natCast, e1, e2, ← e1, ← e2, e3, eQ]; rw [e1, e2]; simpa using hs, rfl⟩)
  have TU := fun w' => rday_in t n y m z k w' h h1 h2
  have hw : wholeP y m (n - mo y m + 1) := ⟨h.y1, by have := h.y2; omega, h.ym.m1, h.ym.m12, by have := h.ym.lo; omega, by have := h.ym.hi; omega⟩
  have SE := fun w' => seconds_any y m (n - mo y m + 1) w' hw
  have sl : secs y m (n - mo y m + 1) * 1000000 = (L : Int) := by
    unfold secs
    rw [eS]
    split <;> rfl
  have TE : Hid (∀ w', Calls Tryz.prog 132 #[.int .i64 d] w' fun e w'' => e = .returned (.int .i64 (T : Int)) ∧ w' = w'') := Lib.hid fun w' => by rw [eT]; exact rten_any d w' (by omega)
  have PA := Lib.hid (fun w' => Dv.part_any P T L w' (by omega) (by omega) (by omega) PQ (by omega))
  have PF := Lib.hid (fun w' => show Calls Tryz.prog 130 #[.int .i64 ((P * T / L : Nat) : Int), .int .i64 d] w' (fun e w'' => e = .returned (.string (dS (P * T / L) d)) ∧ w' = w'') from rdigs_any (P * T / L) d w' (by omega) (by omega))
  rw [e3, eP] at TU
  rw [e3] at SE sl
  rw [e1, e2] at TU SE sl
  have zq := dS_size (P * T / L) d
  generalize P * T / L = q at *
  generalize P * T % L = r at *
  generalize secs (Y : Int) (M : Int) (D : Int) = sg at *
  have ws : IntKind.i64.wrap (sg * 1000000) = (L : Int) := by rw [sl]; exact IntWalk.i64_in _ (by omega)
  have PY := Lib.hid (fun w' => digs4 Y w' (by omega))
  have PM := Lib.hid (fun w' => digs2 M w' (by omega))
  have PD := Lib.hid (fun w' => digs2 D w' (by omega))
  have zY := dS_size Y 4
  have zM := dS_size M 2
  have zD := dS_size D 2
  obtain ⟨A1, x1⟩ : ∃ A, A = dS Y 4 ++ (⟨#[32]⟩ : ByteArray) := ⟨_, rfl⟩
  have z1 : A1.size = 5 := by rw [x1, ByteArray.size_append, zY]; rfl
  have a1 := add_fact x1 (by rw [zY]; show 4 + 1 ≤ _; omega)
  obtain ⟨A2, x2⟩ : ∃ A, A = A1 ++ dS M 2 := ⟨_, rfl⟩
  have z2 : A2.size = 7 := by rw [x2, ByteArray.size_append, zM, z1]
  have a2 := add_fact x2 (by rw [zM, z1]; omega)
  obtain ⟨A3, x3⟩ : ∃ A, A = A2 ++ (⟨#[32]⟩ : ByteArray) := ⟨_, rfl⟩
  have z3 : A3.size = 8 := by rw [x3, ByteArray.size_append, z2]; rfl
  have a3 := add_fact x3 (by rw [z2]; show 7 + 1 ≤ _; omega)
  obtain ⟨A4, x4⟩ : ∃ A, A = A3 ++ dS D 2 := ⟨_, rfl⟩
  have z4 : A4.size = 10 := by rw [x4, ByteArray.size_append, zD, z3]
  have a4 := add_fact x4 (by rw [zD, z3]; omega)
  have EB := Lib.hid (show dbS Y M D = A4 by unfold dbS; rw [← x1, ← x2, ← x3, ← x4])
  have TU := Lib.hid TU
  have TI := Lib.hid TI
  have SE := Lib.hid SE
  have i0 : ¬ (d : Int) < 0 := by omega
  have i1 : ¬ 9 < (d : Int) := by omega
  clear e1 e2 e3 eP eL eT eQ eS h h1 h2 PQ q1 sl hw b1 b2 b3 x1 x2 x3 x4 z1 z2 z3 zM zD hPL hL
  go_enter Tryz.func87, Tryz.ntmps87
  go_wp2_with fail
  refine (TU.out _).mono ?_
  rintro e w1 ⟨rfl, hb⟩
  have B1 := hb
  clear hb TU
  go_wp2_with (refine wpList_store_new rfl _ (.tmp 6) (.tmp 21) rfl _ _ rfl rfl rinfo7 rfl ?_ ?_; simp [Value.oneCell'])
  have r0 := rangeAt_new w1 [.int .i64 (Y : Nat), .int .i64 (M : Nat), .int .i64 (D : Nat), .int .i64 0, .int .i64 0, .int .i64 0, .int .i64 0] 79
  have X0 : XSr w w1.heap.size (w1.alloc (.cells (List.toArray [.int .i64 (Y : Nat), .int .i64 (M : Nat), .int .i64 (D : Nat), .int .i64 0, .int .i64 0, .int .i64 0, .int .i64 0]) 79)) := ⟨by simp, B1.alloc B1.size _⟩
  have q0 := r0 0 _ rfl
  have q1 := r0 1 _ rfl
  have q2' := r0 2 _ rfl
  rw [Nat.zero_add] at q0 q1 q2'
  clear r0 B1
  generalize w1.heap.size = b at *
  generalize w1.alloc (.cells (List.toArray [.int .i64 (Y : Nat), .int .i64 (M : Nat), .int .i64 (D : Nat), .int .i64 0, .int .i64 0, .int .i64 0, .int .i64 0]) 79) = W at *
  have X1 := X0.drew
  go_region_held3 (fun w' => XSr w b w' ∧ w'.cell? ⟨b, 0, none⟩ = some (.int .i64 (Y : Nat)) ∧ w'.cell? ⟨b, 1, none⟩ = some (.int .i64 (M : Nat)) ∧ w'.cell? ⟨b, 2, none⟩ = some (.int .i64 (D : Nat))) (first | go_keep | assumption) (first | (go_at_call 130; (first | (with_reducible refine (PY.out _).mono ?_) | (with_reducible refine (PM.out _).mono ?_) | (with_reducible refine (PD.out _).mono ?_)); rintro e w2 ⟨rfl, rfl⟩))
  go_split_ands
  by_cases hc : 0 < d
  · have hc' : (0 : Int) < (d : Int) := by omega
    have E := Lib.hid (show daytS Y M D q d = A4 ++ (⟨#[46]⟩ : ByteArray) ++ dS q d by unfold daytS; rw [if_pos hc, EB.out, ByteArray.append_assoc])
    have X2 : XSr w b _ := (by assumption : XSr w b _).drew
    go_wp2_with fail
    go_region_held3 (fun w' => XSr w b w' ∧ w'.cell? ⟨b, 0, none⟩ = some (.int .i64 (Y : Nat)) ∧ w'.cell? ⟨b, 1, none⟩ = some (.int .i64 (M : Nat)) ∧ w'.cell? ⟨b, 2, none⟩ = some (.int .i64 (D : Nat))) (first | go_keep | assumption) (first | (go_at_call 132; refine (TE.out _).mono ?_; rintro e w2 ⟨rfl, rfl⟩) | (go_at_call 133; go_split_ands; refine (SE.out _).mono ?_; rintro e w2 ⟨rfl, hb⟩; have hk := XSr.call (by assumption) hb; have p0 := (hb.cell (p := ⟨b, 0, none⟩) (XSr.lt (by assumption))).trans (by assumption); have p1 := (hb.cell (p := ⟨b, 1, none⟩) (XSr.lt (by assumption))).trans (by assumption); have p2 := (hb.cell (p := ⟨b, 2, none⟩) (XSr.lt (by assumption))).trans (by assumption); clear hb) | (go_at_call 131; go_split_ands; refine (PA.out _).mono ?_; rintro e w2 ⟨rfl, hb⟩; have hk := XSr.call (by assumption) hb; have p0 := (hb.cell (p := ⟨b, 0, none⟩) (XSr.lt (by assumption))).trans (by assumption); have p1 := (hb.cell (p := ⟨b, 1, none⟩) (XSr.lt (by assumption))).trans (by assumption); have p2 := (hb.cell (p := ⟨b, 2, none⟩) (XSr.lt (by assumption))).trans (by assumption); clear hb))
    go_split_ands
    go_wp2_with fail
    refine (PF.out _).mono ?_
    rintro e w' ⟨rfl, rfl⟩
    go_wp2_with fail
    go_ret2
    exact ⟨_, 0, rfl, TI.out _ E.out.symm, XSr.below (by assumption)⟩
  · have hc' : ¬ (0 : Int) < (d : Int) := by omega
    have E := Lib.hid (show daytS Y M D q d = A4 by unfold daytS; rw [if_neg hc, EB.out])
    go_wp2_with fail
    go_ret2
    exact ⟨_, 0, rfl, TI.out _ E.out.symm, XSr.below (by assumption)⟩
end At
end Go.Proofs.YtgodhaphbgllhaaGreatDoor
/-
  Text and Day of both, for any time and number of digits.
-/
namespace Go.Proofs.YtgodhaphbgllhaaGreatDoor
namespace At
open Go.RowKit Lw Ap Go.Proofs.YtgodhaphbgllhaaGreatDoor.Mp Go.Proofs.YtgodhaphbgllhaaGreatDoor.Mw

theorem sday_any (t d : Int) (w : World) (hT : Tab w) (h0 : -9223372036854775808 ≤ t) (h1 : t ≤ 9223372036854775807) :
    Calls Tryz.prog 35 #[.int .i64 t, .int .i64 d] w (DayPost t d w) := by
  by_cases hd : d < 0 ∨ 9 < d
  · exact sday_bad t d w hd
  · obtain ⟨k, rfl⟩ := Int.eq_ofNat_of_zero_le (show 0 ≤ d by omega)
    by_cases ht : t < bgv (-10227) 1972 1 ∨ bgv 36525 2100 1 ≤ t
    · exact sday_out t k w (by omega) h0 h1 ht
    · obtain ⟨n, y, m, z, j, h⟩ := day_ex t (by omega) (by omega)
      exact sday_in t n y m z j k w (by omega) hT h (by omega) (by omega)
theorem rsday_any (t d : Int) (w : World) (h0 : -9223372036854775808 ≤ t) (h1 : t ≤ 9223372036854775807) :
    Calls Tryz.prog 87 #[.int .i64 t, .int .i64 d] w (DayPost t d w) := by
  by_cases hd : d < 0 ∨ 9 < d
  · exact rsday_bad t d w hd
  · obtain ⟨k, rfl⟩ := Int.eq_ofNat_of_zero_le (show 0 ≤ d by omega)
    by_cases ht : t < bgv (-10227) 1972 1 ∨ bgv 36525 2100 1 ≤ t
    · exact rsday_out t k w (by omega) h0 h1 ht
    · obtain ⟨n, y, m, z, j, h⟩ := day_ex t (by omega) (by omega)
      exact rsday_in t n y m z j k w (by omega) h (by omega) (by omega)
end At
end Go.Proofs.YtgodhaphbgllhaaGreatDoor
/-
  The walk of Print of package obs.
-/
namespace Go.Proofs.YtgodhaphbgllhaaGreatDoor
namespace Ow
open Go.RowKit Lw Go.Proofs.YtgodhaphbgllhaaGreatDoor.Ap Go.Proofs.YtgodhaphbgllhaaGreatDoor.Op Go.Proofs.YtgodhaphbgllhaaGreatDoor.Mp Go.Proofs.YtgodhaphbgllhaaGreatDoor.Mw Go.Proofs.YtgodhaphbgllhaaGreatDoor.At

theorem info8 : (Tryz.prog.info? 23).map (·.size) = some 8 := by kernel_rfl
/-- A line of spaces as bytes, in a block of its own. -/
theorem line_new (w : World) (s : ByteArray) : ∃ (W : World) (cap : Nat), (convert 9 42 (.string s)).run Tryz.prog w = .ok (.slice (some ⟨w.heap.size, 0, none⟩) s.size cap) W ∧ w.heap.size < W.heap.size ∧ W.rangeAt w.heap.size 0 (bytesV s.data.toList) ∧ W.there w.heap.size 0 s.size ∧ Below w.heap.size w W ∧ s.size ≤ cap := by
  obtain ⟨W, cap, h1, h2, h3, h4⟩ := Ap.bytes_in w s
  refine ⟨W, cap, h1, h2.1, ?_, ?_, h3, h4⟩
  · intro i x hi
    unfold bytesV at hi
    rw [List.getElem?_map] at hi
    obtain ⟨y, hy, rfl⟩ := Option.map_eq_some_iff.1 hi
    obtain ⟨hl, hy⟩ := List.getElem?_eq_some_iff.1 hy
    have hl' : i < s.size := by rw [size_L]; exact hl
    have := h2.2 i hl'
    rw [Nat.zero_add, this, ← hy]
    rfl
  · intro j hj
    rw [Nat.zero_add]
    refine ⟨by rw [h2.2 j hj]; rfl, ?_⟩
    rw [run_bytes_of_string (P := Tryz.prog) w 9 42 5 s Tryz.underlying9 Tryz.underlying42 Tryz.underlying5] at h1
    injection h1 with _ h1
    rw [← h1]
    have hz : ∀ C, s.size ≤ (bytesRow s C).size := fun C => by
      unfold bytesRow
      rw [Array.size_append, Array.size_map]
      exact Nat.le_add_right _ _
    have := World.frozen?_alloc_mark w.drew (bytesRow s (grownCap w s.size 0 5)) 5 (bytesRow s (grownCap w s.size 0 5)).size ((bytesRow s (grownCap w s.size 0 5)).size + 1) j
    rw [show (decide ((bytesRow s (grownCap w s.size 0 5)).size ≤ j)) = false from decide_eq_false (by have := hz (grownCap w s.size 0 5); omega)] at this
    exact this
theorem PX.tab {w0 w' : World} {b g p c : Nat} {o : Ob} {L' : List UInt8} (h : PX w0 b o g p c L' w') (hT : Gt.Tab w0) : Gt.Tab w' := hT.below h.ox.below
theorem back_line {w0 w : World} {b g p c : Nat} {o : Ob} {L : List UInt8} (h : PX w0 b o g p c L w) : (convert 42 9 (.slice (some ⟨g, 0, none⟩) 80 c)).run Tryz.prog w = .ok (.string ⟨L.toArray⟩) w := by
  have := run_convert_bytes_back (P := Tryz.prog) w 42 9 5 ⟨g, 0, none⟩ c L Tryz.underlying42 Tryz.underlying5 Tryz.underlying9 (fun j hj => by
    have := h.row j (.int .u8 (L[j].toNat : Int)) (by unfold bytesV; rw [List.getElem?_map, List.getElem?_eq_getElem hj]; rfl)
    rw [Addr.add_mid]
    rw [this])
  rw [h.len] at this
  exact this
theorem wput_wput {L s : List UInt8} {k : Nat} (h : k + s.length ≤ L.length) : wput (wput L k s) k s = wput L k s := by
  unfold wput
  have e1 : (L.take k).length = k := by simp; omega
  have e2 : (L.take k ++ (s ++ L.drop (k + s.length))).take k = L.take k := by rw [List.take_append_of_le_length (by omega), List.take_of_length_le (by omega)]
  have e3 : (L.take k ++ (s ++ L.drop (k + s.length))).drop (k + s.length) = L.drop (k + s.length) := by
    rw [← List.append_assoc, List.drop_append_of_le_length (by simp; omega)]
    have : (L.take k ++ s).length = k + s.length := by simp; omega
    rw [List.drop_of_length_le (by omega), List.nil_append]
  rw [e2, e3]
/-- Before or behind one put. -/
structure PS (w0 : World) (b : Nat) (o : Ob) (g p c : Nat) (L : List UInt8) (k : Nat) (s : ByteArray) (w : World) : Prop where
  px : ∃ L0, (L0 = L ∨ L0 = wput L k s.data.toList) ∧ PX w0 b o g p c L0 w
  tab : Gt.Tab w
  len : k + s.data.toList.length ≤ L.length
theorem PS.call {w0 w w' : World} {b g p c k : Nat} {o : Ob} {L : List UInt8} {s : ByteArray} (h : PS w0 b o g p c L k s w) (hb : Below w.heap.size w w') : PS w0 b o g p c L k s w' := by
  obtain ⟨⟨L0, h1, h2⟩, h3, h4⟩ := h
  exact ⟨⟨L0, h1, h2.call hb⟩, h3.below hb, h4⟩
theorem PS.drew {w0 w : World} {b g p c k : Nat} {o : Ob} {L : List UInt8} {s : ByteArray} (h : PS w0 b o g p c L k s w) : PS w0 b o g p c L k s w.drew := h.call (Below.refl _ _).drew
theorem PS.lift {w0 w w' : World} {b g p c k : Nat} {o : Ob} {L : List UInt8} {s : ByteArray} (h : PS w0 b o g p c L k s w) (hT : Gt.Tab w0) (g' : PX w0 b o g p c (wput L k s.data.toList) w') : PS w0 b o g p c L k s w' := ⟨⟨_, Or.inr rfl, g'⟩, g'.tab hT, h.len⟩
theorem put_ps {w0 w : World} {b g p c k : Nat} {o : Ob} {L : List UInt8} {s : ByteArray} (h : PS w0 b o g p c L k s w) (h0 : 0 < s.size) (hs : k + s.size ≤ 80) (hc : 80 ≤ c) :
    Calls Tryz.prog 34 #[.int .i64 k, .string s, .pointer (some ⟨p, 0, none⟩)] w fun e w' => e = .returned (.tuple #[]) ∧ PX w0 b o g p c (wput L k s.data.toList) w' := by
  obtain ⟨⟨L0, h1, h2⟩, h3, h4⟩ := h
  have := put_any h2 k s h0 hs hc
  rcases h1 with rfl | rfl
  · exact this
  · rw [wput_wput h4] at this
    exact this
/-- The same with the cells that are read. -/
abbrev PQ (w0 : World) (b : Nat) (o : Ob) (g p c : Nat) (L : List UInt8) (k : Nat) (s : ByteArray) (w : World) : Prop := w.cell? ⟨b, 6, none⟩ = some (.int .i64 o.mag) ∧ w.cell? ⟨b, 7, none⟩ = some (.int .u8 o.band) ∧ PS w0 b o g p c L k s w
theorem PS.q {w0 w : World} {b g p c k : Nat} {o : Ob} {L : List UInt8} {s : ByteArray} (h : PS w0 b o g p c L k s w) : PQ w0 b o g p c L k s w := by
  obtain ⟨L0, h1, h2⟩ := h.px
  have a := h2.ox.row 6 _ rfl
  have b := h2.ox.row 7 _ rfl
  rw [Nat.zero_add] at a b
  exact ⟨a, b, h⟩
theorem mag_bd {m b : Int} (h : magP m b) (h9 : m ≠ 9999) : -500 ≤ m ∧ m ≤ 3000 := by
  unfold magP at h
  omega
theorem band_u8 {m b : Int} (h : magP m b) : 0 ≤ b ∧ b ≤ 255 ∧ b < 128 := by
  unfold magP ltP at h
  omega
theorem band_enc {m b : Int} (h : magP m b) : Utf8.encode b = ⟨#[UInt8.ofNat b.toNat]⟩ := by
  have hb : 0 ≤ b ∧ b < 128 := by
    unfold magP ltP at h
    omega
  unfold Utf8.encode
  have v : Utf8.valid b = true := by
    unfold Utf8.valid
    rw [decide_eq_true (show 0 ≤ b by omega), decide_eq_true (show b < 55296 by omega)]
    rfl
  simp only [v, if_true]
  rw [if_pos (by omega)]
theorem band_enc2 {m b : Int} (h : magP m b) : Utf8.encode (IntKind.i32.wrap b) = ⟨#[UInt8.ofNat b.toNat]⟩ := by
  obtain ⟨b0, b1, _⟩ := band_u8 h
  rw [wrap_i32_small b b0 (by omega), band_enc h]
set_option maxRecDepth 100000 in
set_option maxHeartbeats 16000000 in
theorem print_bad (o : Ob) (w : World) (hE : ES w) (h0 : -9223372036854775808 ≤ o.t) (h1 : o.t ≤ 9223372036854775807) (b0 : 0 ≤ o.band) (b1 : o.band ≤ 255) (n1 : o.name.size ≤ maxLen) (n2 : o.site.size ≤ maxLen) (no : ¬ okO o) :
    Calls Tryz.prog 11 #[obsV o] w fun e w' => e = .returned (.tuple #[.string ByteArray.empty, .int .i64 8]) ∧ Below w.heap.size w w' := by
  have X0 := OX.new w o
  have C := Lib.hid (fun w' (h : ES w') => check_any o w' h h0 h1 b0 b1 n1 n2)
  rw [show checkC o = 8 from if_neg no] at C
  have HE := Lib.hid (hE.below X0.below)
  have XX := Lib.hid X0
  clear X0 hE h0 h1 b0 b1 n1 n2 no
  obtain ⟨nm, st, tt, ra, dec, sg, mg, bd⟩ := o
  go_enter Tryz.func11, Tryz.ntmps11
  go_wp2_with (refine wpList_load_mid rfl _ (.tmp 1) rfl w.heap.size 0 rfl (obsC ⟨nm, st, tt, ra, dec, sg, mg, bd⟩) _ XX.out.row Tryz.underlying23 rfl info8 ?_)
  refine (C.out _ HE.out).mono ?_
  rintro e w1 ⟨rfl, hb⟩
  have X1 := Lib.hid (XX.out.call hb)
  clear hb XX C HE
  go_wp2_with fail
  go_ret2
  exact ⟨rfl, X1.out.below⟩
set_option maxRecDepth 100000 in
set_option maxHeartbeats 16000000 in
theorem print_ok (o : Ob) (w : World) (hT : Gt.Tab w) (hE : ES w) (h0 : -9223372036854775808 ≤ o.t) (h1 : o.t ≤ 9223372036854775807) (b0 : 0 ≤ o.band) (b1 : o.band ≤ 255) (n1 : o.name.size ≤ maxLen) (n2 : o.site.size ≤ maxLen) (ok : okO o) :
    Calls Tryz.prog 11 #[obsV o] w fun e w' => ∃ day, DayIs o.t 6 day 0 ∧ e = .returned (.tuple #[.string ⟨(lineL day o).toArray⟩, .int .i64 0]) ∧ Below w.heap.size w w' := by
  have PL := Lib.hid (fun day (h : DayIs o.t 6 day 0) => put_line ok h)
  have LM := Lib.hid (fun day (h : DayIs o.t 6 day 0) => mid_len ok h)
  have X0 := OX.new w o
  have C := Lib.hid (fun w' (h : ES w') => check_any o w' h h0 h1 b0 b1 n1 n2)
  rw [show checkC o = 0 from if_pos ok] at C
  have HE := Lib.hid (hE.below X0.below)
  have HT := Lib.hid (hT.below X0.below)
  have HT0 := Lib.hid hT
  have XX := Lib.hid X0
  obtain ⟨ot, on, os, ow, or0, or1, od0, od1, og0, og1, om⟩ := ok
  have NN := Lib.hid on
  have zN : 1 ≤ o.name.size ∧ o.name.size ≤ 7 := by
    rcases on with h | h
    · have := h.1; omega
    · exact ⟨h.1, h.2.1⟩
  have DY := Lib.hid (fun w' (h : At.Tab w') => sday_any o.t 6 w' h h0 h1)
  have RA := Lib.hid (fun w' (h : Gt.Tab w') => Gt.ratext_any o.ra 3 w' h (by omega) (by omega) (by omega))
  have DE := Lib.hid (fun w' (h : Gt.Tab w') => Gt.dectext_any o.dec 2 w' h od0 od1 (by omega))
  have NU := Lib.hid (fun w' (h : ES w') => isNumb_any o.name w' h n1)
  have OT := Lib.hid ot
  have OS := Lib.hid os
  have OM := Lib.hid om
  have RP := Lib.hid (fun w' => Tryz.strings_Repeat ⟨#[32]⟩ 80 w' (by omega) (by show 1 * _ ≤ _; omega))
  obtain ⟨nm, st, tt, ra, dec, sg, mg, bd⟩ := o
  simp only at *
  clear X0 hE hT b0 b1 n1 n2 on ot os ow or0 or1 od0 od1 og0 og1 om h0 h1
  go_enter Tryz.func11, Tryz.ntmps11
  go_wp2_with (refine wpList_load_mid rfl _ (.tmp 1) rfl w.heap.size 0 rfl (obsC ⟨nm, st, tt, ra, dec, sg, mg, bd⟩) _ XX.out.row Tryz.underlying23 rfl info8 ?_)
  refine (C.out _ HE.out).mono ?_
  rintro e w1 ⟨rfl, hb⟩
  have X1 := Lib.hid (XX.out.call hb)
  have HT1 := Lib.hid (HT.out.below hb)
  have HE1 := Lib.hid (HE.out.below hb)
  clear hb XX C HE HT
  go_wp2_with fail
  refine (RP.out _).mono ?_
  rintro e w2 ⟨rfl, hb⟩
  have X2 := Lib.hid (X1.out.call hb)
  have HT2 := Lib.hid (HT1.out.below hb)
  have HE2 := Lib.hid (HE1.out.below hb)
  clear hb X1 HT1 HE1 RP
  obtain ⟨S, hS⟩ : ∃ S : ByteArray, S = ⟨(Lib.repeatL (⟨#[32]⟩ : ByteArray).data.toList 80).toArray⟩ := ⟨_, rfl⟩
  rw [← hS]
  have zS : S.size = 80 := by rw [hS]; rfl
  have lS : S.data.toList = spL 80 := by rw [hS]; rfl
  clear hS
  obtain ⟨W, cap, hcv, g1, g2, g3, g4, g5⟩ := line_new w2 S
  rw [zS] at hcv g3 g5
  rw [lS] at g2
  clear zS lS
  have b4 : Below w2.heap.size w2 (W.alloc (.cells #[.slice (some ⟨w2.heap.size, 0, none⟩) 80 cap] 42)) := g4.alloc (Nat.le_of_lt g1) _
  have bW : Below W.heap.size W (W.alloc (.cells #[.slice (some ⟨w2.heap.size, 0, none⟩) 80 cap] 42)) := (Below.refl _ _).alloc (Nat.le_refl _) _
  have P3 : PX w w.heap.size ⟨nm, st, tt, ra, dec, sg, mg, bd⟩ w2.heap.size W.heap.size cap (spL 80) (W.alloc (.cells #[.slice (some ⟨w2.heap.size, 0, none⟩) 80 cap] 42)) :=
    ⟨X2.out.call b4, X2.out.lt, X2.out.below.size, g1, by simp, rangeAt_new W _ _, rfl, rangeAt_below g2 bW g1, there_below g3 bW g1⟩
  have HT3 := Lib.hid (HT2.out.below b4)
  have HE3 := Lib.hid (HE2.out.below b4)
  have q0 := P3.ox.row 0 _ rfl
  have q1 := P3.ox.row 1 _ rfl
  have q2 := P3.ox.row 2 _ rfl
  have q3 := P3.ox.row 3 _ rfl
  have q4 := P3.ox.row 4 _ rfl
  have q6 := P3.ox.row 6 _ rfl
  have q7 := P3.ox.row 7 _ rfl
  simp only [Nat.zero_add] at q0 q1 q2 q3 q4 q6 q7
  have PP3 := Lib.hid P3
  have G5 := Lib.hid g5
  clear X2 HT2 HE2 g1 g2 g3 g4 g5 b4 bW P3
  go_wp2_with fail
  refine (DY.out _ HT3.out).mono ?_
  rintro e w4 ⟨day, c, rfl, hD, hb⟩
  obtain ⟨hc0, hday⟩ : c = 0 ∧ DayIs tt 6 day 0 := by
    rcases hD with ⟨h, _⟩ | ⟨_, _, h, _⟩ | h
    · omega
    · have := OT.out; unfold timeP at this; omega
    · obtain ⟨a1, a2, a3, a4, n, y, m, z, k, a5, a6, a7⟩ := h
      exact ⟨a7, Or.inr (Or.inr ⟨a1, a2, a3, a4, n, y, m, z, k, a5, a6, rfl⟩)⟩
  subst hc0
  have HD := Lib.hid hday
  have LM1 := Lib.hid (LM.out day hday)
  have PL1 := Lib.hid (PL.out day hday)
  clear hD hday PL LM
  have PP4 := Lib.hid (PP3.out.call hb)
  have HT4 := Lib.hid (HT3.out.below hb)
  have HE4 := Lib.hid (HE3.out.below hb)
  clear hb PP3 HT3 HE3 DY q0 q1 q2 q3 q4 q6 q7
  have q0 := PP4.out.ox.row 0 _ rfl
  have q1 := PP4.out.ox.row 1 _ rfl
  have q3 := PP4.out.ox.row 3 _ rfl
  have q4 := PP4.out.ox.row 4 _ rfl
  have q6 := PP4.out.ox.row 6 _ rfl
  have q7 := PP4.out.ox.row 7 _ rfl
  simp only [Nat.zero_add] at q0 q1 q3 q4 q6 q7
  go_wp2_with fail
  refine (RA.out _ HT4.out).mono ?_
  rintro e w5 ⟨rfl, hb⟩
  have PP5 := Lib.hid (PP4.out.call hb)
  have HT5 := Lib.hid (HT4.out.below hb)
  have HE5 := Lib.hid (HE4.out.below hb)
  clear hb PP4 HT4 HE4 RA q0 q1 q3 q4 q6 q7
  have q0 := PP5.out.ox.row 0 _ rfl
  have q1 := PP5.out.ox.row 1 _ rfl
  have q3 := PP5.out.ox.row 3 _ rfl
  have q4 := PP5.out.ox.row 4 _ rfl
  have q6 := PP5.out.ox.row 6 _ rfl
  have q7 := PP5.out.ox.row 7 _ rfl
  simp only [Nat.zero_add] at q0 q1 q3 q4 q6 q7
  go_wp2_with fail
  refine (DE.out _ HT5.out).mono ?_
  rintro e w6 ⟨rfl, hb⟩
  have PP6 := Lib.hid (PP5.out.call hb)
  have HT6 := Lib.hid (HT5.out.below hb)
  have HE6 := Lib.hid (HE5.out.below hb)
  clear hb PP5 HT5 HE5 DE q0 q1 q3 q4 q6 q7
  have q0 := PP6.out.ox.row 0 _ rfl
  have q1 := PP6.out.ox.row 1 _ rfl
  have q3 := PP6.out.ox.row 3 _ rfl
  have q4 := PP6.out.ox.row 4 _ rfl
  have q6 := PP6.out.ox.row 6 _ rfl
  have q7 := PP6.out.ox.row 7 _ rfl
  simp only [Nat.zero_add] at q0 q1 q3 q4 q6 q7
  obtain ⟨M, hM⟩ : ∃ M, midL day ⟨nm, st, tt, ra, dec, sg, mg, bd⟩ = M := ⟨_, rfl⟩
  rw [hM] at LM1 PL1
  have hM2 : M = 67 :: (day.data.toList ++ (Gt.raL ra 3 ++ Gt.decL dec 2)) := hM.symm
  have lR := ra_len ra
  generalize Gt.raL ra 3 = R at *
  have lD : (Gt.decL dec 2).length = 12 := by
    have := LM1.out
    rw [hM2] at this
    have e17 := day_len17 HD.out
    simp only [List.length_cons, List.length_append, lR, e17] at this
    omega
  generalize Gt.decL dec 2 = E at *
  have zd : day.size = 17 := by rw [size_L]; exact day_len17 HD.out
  have zR : (⟨R.toArray⟩ : ByteArray).size = 12 := by rw [size_mk, lR]
  have zE : (⟨E.toArray⟩ : ByteArray).size = 12 := by rw [size_mk, lD]
  have eM : ((⟨#[67]⟩ : ByteArray) ++ day ++ ⟨R.toArray⟩ ++ ⟨E.toArray⟩) = ⟨M.toArray⟩ := by
    apply At.toL_inj
    rw [hM2]
    simp [ByteArray.data_append]
  have EM := Lib.hid eM
  have zM : (⟨M.toArray⟩ : ByteArray).size = 42 := by rw [size_mk]; exact LM1.out
  have LR := Lib.hid (And.intro lR lD)
  clear hM hM2 eM lR lD
  have NU1 := Lib.hid (fun w' (h : ES w') => NU.out w' h)
  have zs := OS.out
  clear NU
  unfold numbB at NU1
  by_cases hN : numbP nm
  · have hN1 : (if numbP nm then 0 else 5) = 0 := if_pos hN
    rw [decide_eq_true hN] at NU1
    rw [hN1] at PL1
    clear hN hN1
    go_wp2_with fail
    refine (NU1.out _ HE6.out).mono ?_
    rintro e w7 ⟨rfl, hb⟩
    have PP7 := Lib.hid (PP6.out.call hb)
    have HT7 := Lib.hid (HT6.out.below hb)
    clear hb PP6 HT6 HE6 q0 q1 q6 q7
    have q0 := PP7.out.ox.row 0 _ rfl
    have q1 := PP7.out.ox.row 1 _ rfl
    have q6 := PP7.out.ox.row 6 _ rfl
    have q7 := PP7.out.ox.row 7 _ rfl
    simp only [Nat.zero_add] at q0 q1 q6 q7
    go_wp2_with fail
    refine (put_any PP7.out 0 nm (by omega) (by omega) G5.out).mono ?_
    rintro e w8 ⟨rfl, hP⟩
    have PP8 := Lib.hid hP
    clear hP PP7 HT7 q0 q1 q6 q7
    generalize wput (spL 80) 0 nm.data.toList = L1 at *
    have q1 := PP8.out.ox.row 1 _ rfl
    have q6 := PP8.out.ox.row 6 _ rfl
    have q7 := PP8.out.ox.row 7 _ rfl
    simp only [Nat.zero_add] at q1 q6 q7
    go_wp2_with fail
    refine (put_any PP8.out 14 _ (by simp only [ByteArray.size_append, zd, zR, zE]; decide) (by simp only [ByteArray.size_append, zd, zR, zE]; decide) G5.out).mono ?_
    rintro e w9 ⟨rfl, hP⟩
    rw [EM.out, toL_mk] at hP
    have PP9 := Lib.hid hP
    clear hP PP8 q1 q6 q7 EM
    generalize wput L1 14 M = L2 at *
    have q1 := PP9.out.ox.row 1 _ rfl
    have q6 := PP9.out.ox.row 6 _ rfl
    have q7 := PP9.out.ox.row 7 _ rfl
    simp only [Nat.zero_add] at q1 q6 q7
    by_cases h9 : mg = 9999
    · rw [if_pos h9] at PL1
      subst h9
      have PL9 := Lib.hid PL1.out
      go_wp2_with fail
      refine (put_any PP9.out 77 st (by omega) (by omega) G5.out).mono ?_
      rintro e w10 ⟨rfl, hP⟩
      have BK := back_line hP
      have v0 := hP.var 0 _ rfl
      rw [Nat.zero_add] at v0
      have BB := Lib.hid hP.ox.below
      rw [PL9.out] at BK
      clear hP
      go_wp2_with fail
      go_ret2
      exact ⟨day, HD.out, rfl, BB.out⟩
    · rw [if_neg h9] at PL1
      have hmm := (mag_bd OM.out h9)
      have MT := Lib.hid (fun w' (h : Gt.Tab w') => magtext_any mg w' h (by omega) (by omega))
      have lm := magL_len (m := mg) (by omega) (by omega)
      have h92 : (mg != 9999) = true := by simpa using h9
      have EB := band_enc2 OM.out
      obtain ⟨bd0, bd1, -⟩ := band_u8 OM.out
      generalize magL mg = G at *
      generalize UInt8.ofNat bd.toNat = u at *
      have zG : (⟨G.toArray⟩ : ByteArray).size = 5 := by rw [size_mk, lm]
      have zu : (⟨#[u]⟩ : ByteArray).size = 1 := rfl
      obtain ⟨Z, hZ⟩ : ∃ Z : ByteArray, (⟨G.toArray⟩ : ByteArray) ++ ⟨#[u]⟩ = Z := ⟨_, rfl⟩
      have sa : ∀ w', (Go.Op.stringOp .add (⟨G.toArray⟩ : ByteArray) ⟨#[u]⟩).run Tryz.prog w' = .ok (.string Z) w' := fun w' => by rw [run_string_add_sum (P := Tryz.prog) (w := w') _ _ (by rw [zG, zu]; decide), hZ]
      have lZ : Z.data.toList = G ++ [u] := by rw [← hZ]; simp
      have zZ : Z.size = 6 := by rw [← hZ, ByteArray.size_append, zG, zu]
      rw [← lZ] at PL1
      have PT := Lib.hid (fun w' (h : PS w w.heap.size ⟨nm, st, tt, ra, dec, sg, mg, bd⟩ w2.heap.size W.heap.size cap L2 65 Z w') => put_ps h (by omega) (by omega) G5.out)
      have S9 : PS w w.heap.size ⟨nm, st, tt, ra, dec, sg, mg, bd⟩ w2.heap.size W.heap.size cap L2 65 Z w9 := ⟨⟨L2, Or.inl rfl, PP9.out⟩, PP9.out.tab HT0.out, by rw [← size_L, zZ, PP9.out.len]; decide⟩
      have KT := fun w' (h : PQ w w.heap.size ⟨nm, st, tt, ra, dec, sg, mg, bd⟩ w2.heap.size W.heap.size cap L2 65 Z w') => h.2.2.tab
      have KC := fun w' wx (h : PQ w w.heap.size ⟨nm, st, tt, ra, dec, sg, mg, bd⟩ w2.heap.size W.heap.size cap L2 65 Z w') (hb : Below w'.heap.size w' wx) => h.2.2.call hb
      have KP := fun w' wx (h : PQ w w.heap.size ⟨nm, st, tt, ra, dec, sg, mg, bd⟩ w2.heap.size W.heap.size cap L2 65 Z w') (hb : PX w w.heap.size ⟨nm, st, tt, ra, dec, sg, mg, bd⟩ w2.heap.size W.heap.size cap (wput L2 65 Z.data.toList) wx) => h.2.2.lift HT0.out hb
      have KS := fun w' (h : PQ w w.heap.size ⟨nm, st, tt, ra, dec, sg, mg, bd⟩ w2.heap.size W.heap.size cap L2 65 Z w') => h.2.2
      have PL2 := Lib.hid PL1.out
      clear PL1 lm hmm h9 NU1 lZ
      go_wp2_with fail
      go_region_held3 (fun w' => w'.cell? ⟨w.heap.size, 6, none⟩ = some (.int .i64 mg) ∧ w'.cell? ⟨w.heap.size, 7, none⟩ = some (.int .u8 bd) ∧ PS w w.heap.size ⟨nm, st, tt, ra, dec, sg, mg, bd⟩ w2.heap.size W.heap.size cap L2 65 Z w') (first | exact PS.q (PS.drew S9) | exact PS.q S9 | exact PS.q hk2 | exact PS.q hk | exact PS.q (by assumption)) (first | (go_at_call 39; refine (MT.out _ (KT _ (by assumption))).mono ?_; rintro e w' ⟨rfl, hb⟩; have hk := KC _ _ (by assumption) hb; clear hb) | (go_at_call 34; refine (PT.out _ (KS _ (by assumption))).mono ?_; rintro e w' ⟨rfl, hP⟩; have hk2 := KP _ _ (by assumption) hP))
      have PPa := Lib.hid hP
      clear hk hk2 hP KT KC KP KS PT MT S9 sa EB q1 q6 q7
      generalize wput L2 65 Z.data.toList = L3 at *
      have q1 := PPa.out.ox.row 1 _ rfl
      simp only [Nat.zero_add] at q1
      have PL9 := Lib.hid PL2.out
      go_wp2_with fail
      refine (put_any PPa.out 77 st (by omega) (by omega) G5.out).mono ?_
      rintro e w10 ⟨rfl, hP⟩
      have BK := back_line hP
      have v0 := hP.var 0 _ rfl
      rw [Nat.zero_add] at v0
      have BB := Lib.hid hP.ox.below
      rw [PL9.out] at BK
      clear hP
      go_wp2_with fail
      go_ret2
      exact ⟨day, HD.out, rfl, BB.out⟩
  · have hN1 : (if numbP nm then 0 else 5) = 5 := if_neg hN
    rw [decide_eq_false hN] at NU1
    rw [hN1] at PL1
    clear hN hN1
    go_wp2_with fail
    refine (NU1.out _ HE6.out).mono ?_
    rintro e w7 ⟨rfl, hb⟩
    have PP7 := Lib.hid (PP6.out.call hb)
    have HT7 := Lib.hid (HT6.out.below hb)
    clear hb PP6 HT6 HE6 q0 q1 q6 q7
    have q0 := PP7.out.ox.row 0 _ rfl
    have q1 := PP7.out.ox.row 1 _ rfl
    have q6 := PP7.out.ox.row 6 _ rfl
    have q7 := PP7.out.ox.row 7 _ rfl
    simp only [Nat.zero_add] at q0 q1 q6 q7
    go_wp2_with fail
    refine (put_any PP7.out 5 nm (by omega) (by omega) G5.out).mono ?_
    rintro e w8 ⟨rfl, hP⟩
    have PP8 := Lib.hid hP
    clear hP PP7 HT7 q0 q1 q6 q7
    generalize wput (spL 80) 5 nm.data.toList = L1 at *
    have q1 := PP8.out.ox.row 1 _ rfl
    have q6 := PP8.out.ox.row 6 _ rfl
    have q7 := PP8.out.ox.row 7 _ rfl
    simp only [Nat.zero_add] at q1 q6 q7
    go_wp2_with fail
    refine (put_any PP8.out 14 _ (by simp only [ByteArray.size_append, zd, zR, zE]; decide) (by simp only [ByteArray.size_append, zd, zR, zE]; decide) G5.out).mono ?_
    rintro e w9 ⟨rfl, hP⟩
    rw [EM.out, toL_mk] at hP
    have PP9 := Lib.hid hP
    clear hP PP8 q1 q6 q7 EM
    generalize wput L1 14 M = L2 at *
    have q1 := PP9.out.ox.row 1 _ rfl
    have q6 := PP9.out.ox.row 6 _ rfl
    have q7 := PP9.out.ox.row 7 _ rfl
    simp only [Nat.zero_add] at q1 q6 q7
    by_cases h9 : mg = 9999
    · rw [if_pos h9] at PL1
      subst h9
      have PL9 := Lib.hid PL1.out
      go_wp2_with fail
      refine (put_any PP9.out 77 st (by omega) (by omega) G5.out).mono ?_
      rintro e w10 ⟨rfl, hP⟩
      have BK := back_line hP
      have v0 := hP.var 0 _ rfl
      rw [Nat.zero_add] at v0
      have BB := Lib.hid hP.ox.below
      rw [PL9.out] at BK
      clear hP
      go_wp2_with fail
      go_ret2
      exact ⟨day, HD.out, rfl, BB.out⟩
    · rw [if_neg h9] at PL1
      have hmm := (mag_bd OM.out h9)
      have MT := Lib.hid (fun w' (h : Gt.Tab w') => magtext_any mg w' h (by omega) (by omega))
      have lm := magL_len (m := mg) (by omega) (by omega)
      have h92 : (mg != 9999) = true := by simpa using h9
      have EB := band_enc2 OM.out
      obtain ⟨bd0, bd1, -⟩ := band_u8 OM.out
      generalize magL mg = G at *
      generalize UInt8.ofNat bd.toNat = u at *
      have zG : (⟨G.toArray⟩ : ByteArray).size = 5 := by rw [size_mk, lm]
      have zu : (⟨#[u]⟩ : ByteArray).size = 1 := rfl
      obtain ⟨Z, hZ⟩ : ∃ Z : ByteArray, (⟨G.toArray⟩ : ByteArray) ++ ⟨#[u]⟩ = Z := ⟨_, rfl⟩
      have sa : ∀ w', (Go.Op.stringOp .add (⟨G.toArray⟩ : ByteArray) ⟨#[u]⟩).run Tryz.prog w' = .ok (.string Z) w' := fun w' => by rw [run_string_add_sum (P := Tryz.prog) (w := w') _ _ (by rw [zG, zu]; decide), hZ]
      have lZ : Z.data.toList = G ++ [u] := by rw [← hZ]; simp
      have zZ : Z.size = 6 := by rw [← hZ, ByteArray.size_append, zG, zu]
      rw [← lZ] at PL1
      have PT := Lib.hid (fun w' (h : PS w w.heap.size ⟨nm, st, tt, ra, dec, sg, mg, bd⟩ w2.heap.size W.heap.size cap L2 65 Z w') => put_ps h (by omega) (by omega) G5.out)
      have S9 : PS w w.heap.size ⟨nm, st, tt, ra, dec, sg, mg, bd⟩ w2.heap.size W.heap.size cap L2 65 Z w9 := ⟨⟨L2, Or.inl rfl, PP9.out⟩, PP9.out.tab HT0.out, by rw [← size_L, zZ, PP9.out.len]; decide⟩
      have KT := fun w' (h : PQ w w.heap.size ⟨nm, st, tt, ra, dec, sg, mg, bd⟩ w2.heap.size W.heap.size cap L2 65 Z w') => h.2.2.tab
      have KC := fun w' wx (h : PQ w w.heap.size ⟨nm, st, tt, ra, dec, sg, mg, bd⟩ w2.heap.size W.heap.size cap L2 65 Z w') (hb : Below w'.heap.size w' wx) => h.2.2.call hb
      have KP := fun w' wx (h : PQ w w.heap.size ⟨nm, st, tt, ra, dec, sg, mg, bd⟩ w2.heap.size W.heap.size cap L2 65 Z w') (hb : PX w w.heap.size ⟨nm, st, tt, ra, dec, sg, mg, bd⟩ w2.heap.size W.heap.size cap (wput L2 65 Z.data.toList) wx) => h.2.2.lift HT0.out hb
      have KS := fun w' (h : PQ w w.heap.size ⟨nm, st, tt, ra, dec, sg, mg, bd⟩ w2.heap.size W.heap.size cap L2 65 Z w') => h.2.2
      have PL2 := Lib.hid PL1.out
      clear PL1 lm hmm h9 NU1 lZ
      go_wp2_with fail
      go_region_held3 (fun w' => w'.cell? ⟨w.heap.size, 6, none⟩ = some (.int .i64 mg) ∧ w'.cell? ⟨w.heap.size, 7, none⟩ = some (.int .u8 bd) ∧ PS w w.heap.size ⟨nm, st, tt, ra, dec, sg, mg, bd⟩ w2.heap.size W.heap.size cap L2 65 Z w') (first | exact PS.q (PS.drew S9) | exact PS.q S9 | exact PS.q hk2 | exact PS.q hk | exact PS.q (by assumption)) (first | (go_at_call 39; refine (MT.out _ (KT _ (by assumption))).mono ?_; rintro e w' ⟨rfl, hb⟩; have hk := KC _ _ (by assumption) hb; clear hb) | (go_at_call 34; refine (PT.out _ (KS _ (by assumption))).mono ?_; rintro e w' ⟨rfl, hP⟩; have hk2 := KP _ _ (by assumption) hP))
      have PPa := Lib.hid hP
      clear hk hk2 hP KT KC KP KS PT MT S9 sa EB q1 q6 q7
      generalize wput L2 65 Z.data.toList = L3 at *
      have q1 := PPa.out.ox.row 1 _ rfl
      simp only [Nat.zero_add] at q1
      have PL9 := Lib.hid PL2.out
      go_wp2_with fail
      refine (put_any PPa.out 77 st (by omega) (by omega) G5.out).mono ?_
      rintro e w10 ⟨rfl, hP⟩
      have BK := back_line hP
      have v0 := hP.var 0 _ rfl
      rw [Nat.zero_add] at v0
      have BB := Lib.hid hP.ox.below
      rw [PL9.out] at BK
      clear hP
      go_wp2_with fail
      go_ret2
      exact ⟨day, HD.out, rfl, BB.out⟩
end Ow
end Go.Proofs.YtgodhaphbgllhaaGreatDoor
/-
  ParseRa and ParseDec of package angle.
-/
namespace Go.Proofs.YtgodhaphbgllhaaGreatDoor
namespace Gp
open Go.RowKit Lw

set_option maxRecDepth 100000 in
set_option maxHeartbeats 4000000 in
theorem ra_any (s : ByteArray) (w : World) (hs : s.size ≤ 1000) :
    Calls Tryz.prog 44 #[.string s] w fun e w' => ∃ v c : Int, e = .returned (.tuple #[.int .i64 v, .int .i64 c]) ∧ RaIs s v c ∧ Below w.heap.size w w' := by
  have P := Lib.hid (read_w s 23 w hs (by omega) (by omega))
  clear hs
  go_enter Tryz.func44, Tryz.ntmps44
  go_wp2_with fail
  go_at_call 99
  refine P.out.mono ?_
  rintro e w1 ⟨x, p, d, ok, rfl, J, hB⟩
  clear P
  rcases J with ⟨e1, hv, h23, e2, e3, e4⟩ | ⟨e1, hv, -, -, -⟩
  · subst e1
    obtain ⟨V, Q, T, eV, eQ, eT, v0, v1, t1, q0, q1, p0, p1, z, ⟨a0, a1⟩, ⟨b0, b1⟩, ⟨c0, c1⟩, A⟩ := valid_letters hv 15000000 (by omega) (by omega)
    rw [eV] at e3
    rw [eT] at eQ
    subst e3
    have x0 : 0 ≤ x := by rw [e2]; unfold secs; omega
    have x1 : x ≤ 86399 := by rw [e2]; unfold secs; omega
    have R := Lib.hid (show RaIs s (x * 15 * 1000000 + p * Q) 0 from Or.inl ⟨hv, h23, by rw [A.out, e2]; unfold secs; omega, rfl⟩)
    have N2 : ∀ w : World, Calls Tryz.prog 81 #[.int .i64 d] w fun e w' => e = .returned (.int .i64 T) ∧ w = w' := fun w => by rw [e4, ← eT]; exact ten_any _ w (by omega)
    clear A hv eV eT z h23 e2 e4 a0 a1 b0 b1 c0 c1
    go_wp2_with (go_at_call 81; refine (N2 _).mono ?_; rintro e w' ⟨rfl, rfl⟩)
    go_ret2
    exact ⟨_, _, rfl, R.out, hB⟩
  · subst e1
    have R := Lib.hid (show RaIs s 0 12 from Or.inr ⟨hv, rfl, rfl⟩)
    clear hv
    go_wp2_with fail
    go_ret2
    exact ⟨0, 12, rfl, R.out, hB⟩
theorem mul_neg {p q : Int} (h0 : -1 ≤ p) (h1 : p ≤ 999999) (g0 : 0 ≤ q) (g1 : q ≤ 15000000) : -15000000 ≤ p * q ∧ p * q ≤ 14999985000000 := by
  by_cases h : 0 ≤ p
  · have := mul_bd h h1 g0 g1
    omega
  · obtain rfl : p = -1 := by omega
    omega
theorem bad_letters (p : Int) (d : Nat) (h0 : -1 ≤ p) (h1 : p ≤ 999999) (hd : d ≤ 6) : ∃ Q T : Int, tenI d = T ∧ (1000000 : Int).tdiv T = Q ∧ 1 ≤ T ∧ 0 ≤ Q ∧ Q ≤ 15000000 ∧ -15000000 ≤ p * Q ∧ p * Q ≤ 14999985000000 := by
  have t := (tenI_bd d (by omega)).1
  have e : (1000000 : Int).tdiv (tenI d) = 1000000 / tenI d := Int.tdiv_eq_ediv_of_nonneg (by omega)
  have q := div_bd (u := 1000000) (by omega) t
  rw [← e] at q
  have m := mul_neg h0 h1 q.1 (by omega)
  exact ⟨_, _, rfl, rfl, t, q.1, by omega, m.1, m.2⟩
set_option maxRecDepth 100000 in
set_option maxHeartbeats 8000000 in
theorem dec_any (s : ByteArray) (w : World) (hs : s.size ≤ 1000) :
    Calls Tryz.prog 45 #[.string s] w fun e w' => ∃ v c : Int, e = .returned (.tuple #[.int .i64 v, .int .i64 c]) ∧ DecIs s v c ∧ Below w.heap.size w w' := by
  have TN := Lib.hid (trim_not s)
  have TO := Lib.hid (trim_one s)
  go_enter Tryz.func45, Tryz.ntmps45
  go_wp2_with fail
  go_at_call 100
  refine (trim_any s _).mono ?_
  rintro e w1 ⟨rfl, hB1⟩
  replace TN := Lib.hid (TN.out _ rfl)
  replace TO := Lib.hid (TO.out _ rfl)
  generalize (⟨(Lib.trimLeftS s.data.toList [43, 45]).toArray⟩ : ByteArray) = t at *
  by_cases hl : (t.size : Int) = s.size - 1
  · obtain ⟨sg, ht⟩ := TO.out hl
    have i0 := sg.1
    have gs := sg.2
    have p0 := at_of s 0 i0
    replace ht := Lib.hid ht
    replace sg := Lib.hid sg
    clear TN TO
    have P := Lib.hid (read_w t 90 w1 (by omega) (by omega) (by omega))
    have m0 : (0 : Int) < s.size := by omega
    go_wp2_with fail
    go_at_call 99
    refine P.out.mono ?_
    rintro e w2 ⟨x, p, d, ok, rfl, J, hB2⟩
    clear P
    have hB := below_then hB1 hB2
    clear hB1 hB2
    rcases J with ⟨e1, hv, h90, e2, e3, e4⟩ | ⟨e1, hv, ⟨x0, x1⟩, ⟨v0, v1⟩, hd⟩
    · subst e1
      obtain ⟨V, Q, T, eV, eQ, eT, v0, v1, t1, q0, q1, p0', p1, z, ⟨a0, a1⟩, ⟨b0, b1⟩, ⟨c0, c1⟩, A⟩ := dec_letters hv
      rw [eV] at e3
      rw [eT] at eQ
      subst e3
      have x0 : 0 ≤ x := by rw [e2]; unfold secs; omega
      have x1 : x ≤ 360000 := by rw [e2]; unfold secs; omega
      have AV : angV t 1000000 = x * 1000000 + p * Q := by rw [A.out, e2]; unfold secs; omega
      have N2 : ∀ w : World, Calls Tryz.prog 81 #[.int .i64 d] w fun e w' => e = .returned (.int .i64 T) ∧ w = w' := fun w => by rw [e4, ← eT]; exact ten_any _ w (by omega)
      have dk : x * 1000000 + p * Q ≤ 324000000000 → decOk s := fun g => ⟨sg.out, ht.out ▸ hv, ht.out ▸ h90, by rw [← ht.out, AV]; exact g⟩
      have RW : Hid (324000000000 < x * 1000000 + p * Q → DecIs s 0 12) := Lib.hid fun g => Or.inr ⟨fun h => by have := h.2.2.2; rw [← ht.out, AV] at this; omega, rfl, rfl⟩
      have RP : Hid (x * 1000000 + p * Q ≤ 324000000000 → ((s[0].toNat : Nat) : Int) = 43 → DecIs s (x * 1000000 + p * Q) 0) := Lib.hid fun g h43 => Or.inl ⟨dk g, by rw [← ht.out, AV, p0, h43]; rfl, rfl⟩
      have RN : Hid (x * 1000000 + p * Q ≤ 324000000000 → ((s[0].toNat : Nat) : Int) = 45 → DecIs s (-(x * 1000000 + p * Q)) 0) := Lib.hid fun g h45 => Or.inl ⟨dk g, by rw [← ht.out, AV, p0, h45]; rfl, rfl⟩
      rw [p0] at gs
      clear A hv eV eT z h90 e2 e4 a0 a1 b0 b1 c0 c1 dk AV p0
      by_cases hr : 324000000000 < x * 1000000 + p * Q
      · have R := Lib.hid (RW.out hr)
        clear RW RP RN
        go_wp2_with (go_at_call 81; refine (N2 _).mono ?_; rintro e w' ⟨rfl, rfl⟩)
        go_ret2
        exact ⟨0, 12, rfl, R.out, hB⟩
      · have hr' : x * 1000000 + p * Q ≤ 324000000000 := by omega
        rcases gs with gs | gs
        · have R := Lib.hid (RP.out hr' gs)
          clear RW RP RN
          go_wp2_with (go_at_call 81; refine (N2 _).mono ?_; rintro e w' ⟨rfl, rfl⟩)
          go_ret2
          exact ⟨_, _, rfl, R.out, hB⟩
        · have R := Lib.hid (RN.out hr' gs)
          clear RW RP RN
          go_wp2_with (go_at_call 81; refine (N2 _).mono ?_; rintro e w' ⟨rfl, rfl⟩)
          go_ret2
          exact ⟨_, _, rfl, R.out, hB⟩
    · subst e1
      have R := Lib.hid (show DecIs s 0 12 from Or.inr ⟨fun h => hv ⟨ht.out.symm ▸ h.2.1, ht.out.symm ▸ h.2.2.1⟩, rfl, rfl⟩)
      obtain ⟨Q, T, eT, eQ, t1, q0, q1, p0', p1⟩ := bad_letters p d v0 v1 hd
      have N2 : ∀ w : World, Calls Tryz.prog 81 #[.int .i64 d] w fun e w' => e = .returned (.int .i64 T) ∧ w = w' := fun w => by rw [← eT]; exact ten_any _ w (by omega)
      clear hv eT hd p0 gs
      go_wp2_with (go_at_call 81; refine (N2 _).mono ?_; rintro e w' ⟨rfl, rfl⟩)
      go_ret2
      exact ⟨0, 12, rfl, R.out, hB⟩
  · have R := Lib.hid (show DecIs s 0 12 from Or.inr ⟨fun h => TN.out hl ⟨h.1, h.2.1⟩, rfl, rfl⟩)
    have b1 : ((t.size : Int) != s.size - 1) = true := by simpa using hl
    clear TN TO
    go_wp2_with fail
    go_ret2
    exact ⟨0, 12, rfl, R.out, hB1⟩
end Gp
end Go.Proofs.YtgodhaphbgllhaaGreatDoor
/-
  The walk of Parse of package obs.
-/
namespace Go.Proofs.YtgodhaphbgllhaaGreatDoor
namespace Ow
open Go.RowKit Lw Go.Proofs.YtgodhaphbgllhaaGreatDoor.Ap Go.Proofs.YtgodhaphbgllhaaGreatDoor.Op Go.Proofs.YtgodhaphbgllhaaGreatDoor.Mp Go.Proofs.YtgodhaphbgllhaaGreatDoor.Mw Go.Proofs.YtgodhaphbgllhaaGreatDoor.At

def ObsPost (s : ByteArray) (w : World) (e : Ending) (w' : World) : Prop := ∃ (o : Ob) (c : Int), e = .returned (.tuple #[obsV o, .int .i64 c]) ∧ ObsIs s o c ∧ Below w.heap.size w w'
/-- The result's box. -/
structure Res (w0 w : World) : Prop where
  below : Below w0.heap.size w0 w
  lt : w0.heap.size < w.heap.size
  th : w.there w0.heap.size 0 8
theorem Res.new (w : World) : Res w (w.alloc (.cells (obsC zeroO).toArray 23)) := ⟨(Below.refl _ _).alloc (Nat.le_refl _) _, by simp, there_new _ _ _ 8 (by show 8 ≤ 8; omega)⟩
theorem Res.call {w0 w w' : World} (h : Res w0 w) (hb : Below w.heap.size w w') : Res w0 w' := ⟨below_then h.below hb, Nat.lt_of_lt_of_le h.lt hb.size, there_below h.th hb h.lt⟩
set_option maxRecDepth 100000 in
set_option maxHeartbeats 16000000 in
theorem parse_size (s : ByteArray) (w : World) (hs : s.size ≤ maxLen) (h : s.size ≠ 80) : Calls Tryz.prog 13 #[.string s] w (ObsPost s w) := by
  have N := Lib.hid (obs_no (no_size h))
  have h' : ¬ (s.size : Int) = 80 := by omega
  have RS := Lib.hid (Res.new w)
  clear h
  go_enter Tryz.func13, Tryz.ntmps13
  go_wp2_with (refine wpList_store_mid rfl _ (.tmp 2) (.tmp 37) rfl w.heap.size 0 _ rfl rfl ?_ info8 ?_ ?_; exact RS.out.th; simp [Value.oneCell'])
  exact bodyPost_ret (ret_cell_tmp Tryz.results13 _ _ w.heap.size (obsC zeroO) _ rfl (World.rangeAt_setCells_same _ _ _ _ RS.out.th) Tryz.underlying23 rfl info8) rfl ⟨zeroO, 12, rfl, N.out, below_setCells _ (Nat.le_refl _) _ _ _ RS.out.below⟩
set_option maxRecDepth 100000 in
set_option maxHeartbeats 16000000 in
theorem parse_mark (s : ByteArray) (w : World) (h8 : s.size = 80) (h : s.extract 12 15 ≠ ⟨#[32, 32, 67]⟩) : Calls Tryz.prog 13 #[.string s] w (ObsPost s w) := by
  have N := Lib.hid (obs_no (no_mark (fun g => h ((mark_is h8).2 g))))
  have z80 : (s.size : Int) = 80 := by omega
  obtain ⟨E, hE⟩ : ∃ E, s.extract 12 15 = E := ⟨_, rfl⟩
  have nE : (E.toList == [32, 32, 67]) = false := by
    rw [hE] at h
    rw [Lib.toList_data]
    refine beq_eq_false_iff_ne.2 fun g => h (At.toL_inj ?_)
    rw [g]
  have RS := Lib.hid (Res.new w)
  clear h
  go_enter Tryz.func13, Tryz.ntmps13
  go_wp2_with (refine wpList_store_mid rfl _ (.tmp 2) (.tmp 37) rfl w.heap.size 0 _ rfl rfl ?_ info8 ?_ ?_; exact RS.out.th; simp [Value.oneCell'])
  exact bodyPost_ret (ret_cell_tmp Tryz.results13 _ _ w.heap.size (obsC zeroO) _ rfl (World.rangeAt_setCells_same _ _ _ _ RS.out.th) Tryz.underlying23 rfl info8) rfl ⟨zeroO, 12, rfl, N.out, below_setCells _ (Nat.le_refl _) _ _ _ RS.out.below⟩
set_option maxRecDepth 100000 in
set_option maxHeartbeats 16000000 in
theorem parse_b1 (s : ByteArray) (w : World) (h8 : s.size = 80) (hm : s.extract 12 15 = ⟨#[32, 32, 67]⟩) (hb1 : ¬ blankP (s.extract 56 65)) : Calls Tryz.prog 13 #[.string s] w (ObsPost s w) := by
  have N := Lib.hid (obs_no (no_b1 hb1))
  have z80 : (s.size : Int) = 80 := by omega
  obtain ⟨E, hE⟩ : ∃ E, s.extract 12 15 = E := ⟨_, rfl⟩
  have yE : (E.toList == [32, 32, 67]) = true := by
    rw [← hE, hm, Lib.toList_data]
    rfl
  have BL1 := Lib.hid (fun w' => blank_any (s.extract 56 65) w' (by rw [ByteArray.size_extract]; omega))
  rw [decide_eq_false hb1] at BL1
  obtain ⟨Y1, hY1⟩ : ∃ Y, s.extract 56 65 = Y := ⟨_, rfl⟩
  rw [hY1] at BL1
  have RS := Lib.hid (Res.new w)
  clear hm hb1
  go_enter Tryz.func13, Tryz.ntmps13
  go_wp2_with (refine wpList_store_mid rfl _ (.tmp 2) (.tmp 37) rfl w.heap.size 0 _ rfl rfl ?_ info8 ?_ ?_; exact RS.out.th; simp [Value.oneCell'])
  refine (BL1.out _).mono ?_
  rintro e w1 ⟨rfl, hb⟩
  have RS := Lib.hid (RS.out.call hb)
  clear hb BL1
  go_wp2_with (refine wpList_store_mid rfl _ (.tmp 2) (.tmp 37) rfl w.heap.size 0 _ rfl rfl ?_ info8 ?_ ?_; exact RS.out.th; simp [Value.oneCell'])
  exact bodyPost_ret (ret_cell_tmp Tryz.results13 _ _ w.heap.size (obsC zeroO) _ rfl (World.rangeAt_setCells_same _ _ _ _ RS.out.th) Tryz.underlying23 rfl info8) rfl ⟨zeroO, 12, rfl, N.out, below_setCells _ (Nat.le_refl _) _ _ _ RS.out.below⟩
set_option maxRecDepth 100000 in
set_option maxHeartbeats 16000000 in
theorem parse_b2 (s : ByteArray) (w : World) (h8 : s.size = 80) (hm : s.extract 12 15 = ⟨#[32, 32, 67]⟩) (hb1 : blankP (s.extract 56 65)) (hb2 : ¬ blankP (s.extract 71 77)) : Calls Tryz.prog 13 #[.string s] w (ObsPost s w) := by
  have N := Lib.hid (obs_no (no_b2 hb2))
  have z80 : (s.size : Int) = 80 := by omega
  obtain ⟨E, hE⟩ : ∃ E, s.extract 12 15 = E := ⟨_, rfl⟩
  have yE : (E.toList == [32, 32, 67]) = true := by
    rw [← hE, hm, Lib.toList_data]
    rfl
  have BL1 := Lib.hid (fun w' => blank_any (s.extract 56 65) w' (by rw [ByteArray.size_extract]; omega))
  rw [decide_eq_true hb1] at BL1
  obtain ⟨Y1, hY1⟩ : ∃ Y, s.extract 56 65 = Y := ⟨_, rfl⟩
  rw [hY1] at BL1
  have BL2 := Lib.hid (fun w' => blank_any (s.extract 71 77) w' (by rw [ByteArray.size_extract]; omega))
  rw [decide_eq_false hb2] at BL2
  obtain ⟨Y2, hY2⟩ : ∃ Y, s.extract 71 77 = Y := ⟨_, rfl⟩
  rw [hY2] at BL2
  have RS := Lib.hid (Res.new w)
  clear hm hb1 hb2
  go_enter Tryz.func13, Tryz.ntmps13
  go_wp2_with (refine wpList_store_mid rfl _ (.tmp 2) (.tmp 37) rfl w.heap.size 0 _ rfl rfl ?_ info8 ?_ ?_; exact RS.out.th; simp [Value.oneCell'])
  refine (BL1.out _).mono ?_
  rintro e w1 ⟨rfl, hb⟩
  have RS := Lib.hid (RS.out.call hb)
  clear hb BL1
  go_wp2_with (refine wpList_store_mid rfl _ (.tmp 2) (.tmp 37) rfl w.heap.size 0 _ rfl rfl ?_ info8 ?_ ?_; exact RS.out.th; simp [Value.oneCell'])
  refine (BL2.out _).mono ?_
  rintro e w2 ⟨rfl, hb⟩
  have RS := Lib.hid (RS.out.call hb)
  clear hb BL2
  go_wp2_with (refine wpList_store_mid rfl _ (.tmp 2) (.tmp 37) rfl w.heap.size 0 _ rfl rfl ?_ info8 ?_ ?_; exact RS.out.th; simp [Value.oneCell'])
  exact bodyPost_ret (ret_cell_tmp Tryz.results13 _ _ w.heap.size (obsC zeroO) _ rfl (World.rangeAt_setCells_same _ _ _ _ RS.out.th) Tryz.underlying23 rfl info8) rfl ⟨zeroO, 12, rfl, N.out, below_setCells _ (Nat.le_refl _) _ _ _ RS.out.below⟩
set_option maxRecDepth 100000 in
set_option maxHeartbeats 16000000 in
theorem parse_dig (s : ByteArray) (w : World) (h8 : s.size = 80) (hm : s.extract 12 15 = ⟨#[32, 32, 67]⟩) (hb1 : blankP (s.extract 56 65)) (hb2 : blankP (s.extract 71 77)) (hd : ¬ digP (decs (cutS (s.extract 15 32))) (decs (cutS (s.extract 32 44))) (decs (cutS (s.extract 44 56)))) : Calls Tryz.prog 13 #[.string s] w (ObsPost s w) := by
  have N := Lib.hid (obs_no (no_dig hd))
  have z80 : (s.size : Int) = 80 := by omega
  obtain ⟨E, hE⟩ : ∃ E, s.extract 12 15 = E := ⟨_, rfl⟩
  have yE : (E.toList == [32, 32, 67]) = true := by
    rw [← hE, hm, Lib.toList_data]
    rfl
  have BL1 := Lib.hid (fun w' => blank_any (s.extract 56 65) w' (by rw [ByteArray.size_extract]; omega))
  rw [decide_eq_true hb1] at BL1
  obtain ⟨Y1, hY1⟩ : ∃ Y, s.extract 56 65 = Y := ⟨_, rfl⟩
  rw [hY1] at BL1
  have BL2 := Lib.hid (fun w' => blank_any (s.extract 71 77) w' (by rw [ByteArray.size_extract]; omega))
  rw [decide_eq_true hb2] at BL2
  obtain ⟨Y2, hY2⟩ : ∃ Y, s.extract 71 77 = Y := ⟨_, rfl⟩
  rw [hY2] at BL2
  have TR1 := Lib.hid (fun w' => trim_any (s.extract 15 32) w' (by rw [ByteArray.size_extract]; unfold maxLen; omega))
  have TR2 := Lib.hid (fun w' => trim_any (s.extract 32 44) w' (by rw [ByteArray.size_extract]; unfold maxLen; omega))
  have TR3 := Lib.hid (fun w' => trim_any (s.extract 44 56) w' (by rw [ByteArray.size_extract]; unfold maxLen; omega))
  obtain ⟨d1, hd1⟩ : ∃ d, decs (cutS (s.extract 15 32)) = d := ⟨_, rfl⟩
  obtain ⟨D1, hD1⟩ : ∃ D, cutS (s.extract 15 32) = D := ⟨_, rfl⟩
  obtain ⟨Z1, hZ1⟩ : ∃ Z, s.extract 15 32 = Z := ⟨_, rfl⟩
  rw [hd1, hD1, hZ1] at TR1
  obtain ⟨d2, hd2⟩ : ∃ d, decs (cutS (s.extract 32 44)) = d := ⟨_, rfl⟩
  obtain ⟨D2, hD2⟩ : ∃ D, cutS (s.extract 32 44) = D := ⟨_, rfl⟩
  obtain ⟨Z2, hZ2⟩ : ∃ Z, s.extract 32 44 = Z := ⟨_, rfl⟩
  rw [hd2, hD2, hZ2] at TR2
  obtain ⟨d3, hd3⟩ : ∃ d, decs (cutS (s.extract 44 56)) = d := ⟨_, rfl⟩
  obtain ⟨D3, hD3⟩ : ∃ D, cutS (s.extract 44 56) = D := ⟨_, rfl⟩
  obtain ⟨Z3, hZ3⟩ : ∃ Z, s.extract 44 56 = Z := ⟨_, rfl⟩
  rw [hd3, hD3, hZ3] at TR3
  rw [hd1, hd2, hd3] at hd
  have RS := Lib.hid (Res.new w)
  clear hm hb1 hb2 hd1 hd2 hd3 hD1 hD2 hD3
  have hc : ((d1 : Int) < 3) ∨ (3 ≤ (d1 : Int) ∧ 6 < (d1 : Int)) ∨ (3 ≤ (d1 : Int) ∧ (d1 : Int) ≤ 6 ∧ (d2 : Int) < 1) ∨ (3 ≤ (d1 : Int) ∧ (d1 : Int) ≤ 6 ∧ 1 ≤ (d2 : Int) ∧ 3 < (d2 : Int)) ∨ (3 ≤ (d1 : Int) ∧ (d1 : Int) ≤ 6 ∧ 1 ≤ (d2 : Int) ∧ (d2 : Int) ≤ 3 ∧ 2 < (d3 : Int)) := by
    unfold digP at hd
    omega
  clear hd
  go_enter Tryz.func13, Tryz.ntmps13
  go_wp2_with (refine wpList_store_mid rfl _ (.tmp 2) (.tmp 74) rfl w.heap.size 0 _ rfl rfl ?_ info8 ?_ ?_; exact RS.out.th; simp [Value.oneCell'])
  refine (BL1.out _).mono ?_
  rintro e w1 ⟨rfl, hb⟩
  have RS := Lib.hid (RS.out.call hb)
  clear hb BL1
  go_wp2_with (refine wpList_store_mid rfl _ (.tmp 2) (.tmp 74) rfl w.heap.size 0 _ rfl rfl ?_ info8 ?_ ?_; exact RS.out.th; simp [Value.oneCell'])
  refine (BL2.out _).mono ?_
  rintro e w2 ⟨rfl, hb⟩
  have RS := Lib.hid (RS.out.call hb)
  clear hb BL2
  go_wp2_with (refine wpList_store_mid rfl _ (.tmp 2) (.tmp 74) rfl w.heap.size 0 _ rfl rfl ?_ info8 ?_ ?_; exact RS.out.th; simp [Value.oneCell'])
  refine (TR1.out _).mono ?_
  rintro e w3 ⟨rfl, hb⟩
  have RS := Lib.hid (RS.out.call hb)
  clear hb TR1
  go_wp2_with (refine wpList_store_mid rfl _ (.tmp 2) (.tmp 74) rfl w.heap.size 0 _ rfl rfl ?_ info8 ?_ ?_; exact RS.out.th; simp [Value.oneCell'])
  refine (TR2.out _).mono ?_
  rintro e w4 ⟨rfl, hb⟩
  have RS := Lib.hid (RS.out.call hb)
  clear hb TR2
  go_wp2_with (refine wpList_store_mid rfl _ (.tmp 2) (.tmp 74) rfl w.heap.size 0 _ rfl rfl ?_ info8 ?_ ?_; exact RS.out.th; simp [Value.oneCell'])
  refine (TR3.out _).mono ?_
  rintro e w5 ⟨rfl, hb⟩
  have RS := Lib.hid (RS.out.call hb)
  clear hb TR3
  rcases hc with h1 | ⟨h1, h2⟩ | ⟨h1, h2, h3⟩ | ⟨h1, h2, h3, h4⟩ | ⟨h1, h2, h3, h4, h5⟩
  all_goals
    go_wp2_with (refine wpList_store_mid rfl _ (.tmp 2) (.tmp 74) rfl w.heap.size 0 _ rfl rfl ?_ info8 ?_ ?_; exact RS.out.th; simp [Value.oneCell'])
    exact bodyPost_ret (ret_cell_tmp Tryz.results13 _ _ w.heap.size (obsC zeroO) _ rfl (World.rangeAt_setCells_same _ _ _ _ RS.out.th) Tryz.underlying23 rfl info8) rfl ⟨zeroO, 12, rfl, N.out, below_setCells _ (Nat.le_refl _) _ _ _ RS.out.below⟩
end Ow
end Go.Proofs.YtgodhaphbgllhaaGreatDoor
