/-
  ParseRa of the reference.
-/
import Derived.Test.YtmafjoboikbnnaaDoorPSpec
namespace Go.Proofs.YtmafjoboikbnnaaDoor
namespace Ap
open Go.RowKit Lw

theorem drewN_below3 {w0 w : World} (h : Below w0.heap.size w0 w) (n : Nat) : Below w0.heap.size w0 (w.drewN n) := drewN_below2 h n
theorem new3 {w0 w1 : World} (hB : Below w0.heap.size w0 w1) (o : Obj) : Below w0.heap.size w0 (w1.alloc o) := hB.alloc hB.size o

set_option maxRecDepth 100000 in
set_option maxHeartbeats 4000000 in
theorem rra_any (s : ByteArray) (w : World) (hs : s.size ≤ maxLen) :
    Calls Tryd.prog 8 #[.string s] w fun e w' => ∃ v c : Int, e = .returned (.tuple #[.int .i64 v, .int .i64 c]) ∧ RaIs s v c ∧ Below w.heap.size w w' := by
  have P := Lib.hid (parts_any s w hs)
  clear hs
  go_enter Tryd.func8, Tryd.ntmps8
  go_wp2_with fail
  refine P.out.mono ?_
  rintro e w1 ⟨a, b, c, r, ok, rfl, J, hB⟩
  clear P
  rcases J with ⟨rfl, hv, rfl, rfl, rfl, rfl⟩ | ⟨rfl, hv⟩
  · obtain ⟨V, Q, T, eV, eQ, eT, v0, v1, t1, q0, q1, p0, p1, z, ⟨a0, a1⟩, ⟨b0, b1⟩, ⟨c0, c1⟩, A⟩ := valid_letters hv 15000000 (by omega) (by omega)
    have hv := Lib.hid hv
    have R : Hid (two s 0 ≤ 23 → RaIs s ((two s 0 * 3600 + two s 3 * 60 + two s 6) * 15000000 + V * Q) 0) := Lib.hid fun g => Or.inl ⟨hv.out, g, A.out.symm, rfl⟩
    have R' : Hid (¬ two s 0 ≤ 23 → RaIs s 0 12) := Lib.hid fun g => Or.inr ⟨fun h => g h.2, rfl, rfl⟩
    have N1 : ∀ w : World, Calls Tryd.prog 26 #[.string (restOf s)] w fun e w' => e = .returned (.int .i64 V) ∧ w = w' := fun w => by rw [← eV]; exact number_any _ w (by omega)
    have N2 : ∀ w : World, Calls Tryd.prog 27 #[.int .i64 (restOf s).size] w fun e w' => e = .returned (.int .i64 T) ∧ w = w' := fun w => by rw [← eT]; exact rten_any _ w (by omega)
    rw [eT] at eQ
    clear A hv eV eT z
    generalize two s 0 = a at *
    generalize two s 3 = b at *
    generalize two s 6 = c at *
    generalize restOf s = r at *
    go_wp2_with (first | (refine wpList_store_new rfl 42 (.tmp 4) (.tmp 11) rfl _ _ rfl rfl info42 rfl rfl ?_) | (go_at_call 26; refine (N1 _).mono ?_; rintro e w' ⟨rfl, rfl⟩) | (go_at_call 27; refine (N2 _).mono ?_; rintro e w' ⟨rfl, rfl⟩))
    all_goals
      go_ret2
      first
        | exact ⟨_, _, rfl, R.out (by assumption), new3 hB _⟩
        | exact ⟨_, _, rfl, R'.out (by assumption), new3 hB _⟩
  · go_wp2_with (first | (refine wpList_store_new rfl 42 (.tmp 4) (.tmp 11) rfl _ _ rfl rfl info42 rfl rfl ?_))
    go_ret2
    exact ⟨0, 12, rfl, Or.inr ⟨fun h => hv h.1, rfl, rfl⟩, new3 hB _⟩
theorem dec_letters {s : ByteArray} (h : validP s) : ∃ V Q T : Int,
    numV (restOf s).data.toList = V ∧ (1000000 : Int).tdiv (tenI (restOf s).size) = Q ∧ tenI (restOf s).size = T ∧ 0 ≤ V ∧ V ≤ 999999 ∧ 1 ≤ T ∧ 0 ≤ Q ∧ Q ≤ 15000000 ∧ 0 ≤ V * Q ∧ V * Q ≤ 14999985000000 ∧
    (restOf s).size ≤ 6 ∧ (0 ≤ two s 0 ∧ two s 0 ≤ 99) ∧ (0 ≤ two s 3 ∧ two s 3 ≤ 59) ∧ (0 ≤ two s 6 ∧ two s 6 ≤ 59) ∧
    Hid (angV s 1000000 = (two s 0 * 3600 + two s 3 * 60 + two s 6) * 1000000 + V * Q) := valid_letters h 1000000 (by omega) (by omega)
set_option maxRecDepth 100000 in
set_option maxHeartbeats 8000000 in
theorem rdec_any (s : ByteArray) (w : World) (hs : s.size ≤ maxLen) :
    Calls Tryd.prog 10 #[.string s] w fun e w' => ∃ v c : Int, e = .returned (.tuple #[.int .i64 v, .int .i64 c]) ∧ DecIs s v c ∧ Below w.heap.size w w' := by
  obtain ⟨t, ht⟩ : ∃ t, tailOf s = t := ⟨_, rfl⟩
  have P : Hid (∀ w : World, Calls Tryd.prog 25 #[.string (s.extract 1 s.size)] w (PartsPost t w)) := Lib.hid fun w => by
    rw [← ht]; exact parts_any (tailOf s) w (by unfold tailOf; simp; omega)
  have ht := Lib.hid ht
  clear hs
  go_enter Tryd.func10, Tryd.ntmps10
  by_cases i0 : 0 < s.size
  · have m0 : (0 : Int) < s.size := by omega
    have m1 : (1 : Int) ≤ s.size := by omega
    have n0 : ¬ (s.size : Int) = 0 := by omega
    have p0 := at_of s 0 i0
    have hne : ¬ s = ByteArray.empty := fun h => by rw [h] at i0; simp at i0
    by_cases g : ((s[0].toNat : Nat) : Int) = 43 ∨ ((s[0].toNat : Nat) : Int) = 45
    · have sg := Lib.hid (show signP s from ⟨i0, by rw [p0]; exact g⟩)
      have D45 : Hid (DecIs s = fun v e => (decOk s ∧ v = (if ((s[0].toNat : Nat) : Int) = 45 then -angV (t) 1000000 else angV (t) 1000000) ∧ e = 0) ∨ (¬ decOk s ∧ v = 0 ∧ e = 12)) := Lib.hid (by rw [← p0, ← ht.out]; rfl)
      clear p0
      generalize hx : ((s[0].toNat : Nat) : Int) = x at *
      rcases g with rfl | rfl
      all_goals
        go_wp2_with fail
        go_at_call 25
        refine (P.out _).mono ?_
        rintro e w1 ⟨a, b, c, r, ok, rfl, J, hB⟩
        clear P
        rcases J with ⟨rfl, hv, rfl, rfl, rfl, rfl⟩ | ⟨rfl, hv⟩
        · obtain ⟨V, Q, T, eV, eQ, eT, v0, v1, t1, q0, q1, p0, p1, z, ⟨a0, a1⟩, ⟨b0, b1⟩, ⟨c0, c1⟩, A⟩ := dec_letters hv
          have hv := Lib.hid hv
          have RB : Hid (90 < two (t) 0 → DecIs s 0 12) := Lib.hid fun g => Or.inr ⟨fun h => absurd (ht.out ▸ h.2.2.1) (Int.not_le.2 g), rfl, rfl⟩
          have RW : Hid (324000000000 < (two (t) 0 * 3600 + two (t) 3 * 60 + two (t) 6) * 1000000 + V * Q → DecIs s 0 12) := Lib.hid fun g => Or.inr ⟨fun h => absurd (ht.out ▸ h.2.2.2) (by rw [A.out]; exact Int.not_le.2 g), rfl, rfl⟩
          have RO : Hid (∀ Y : Int, two (t) 0 ≤ 90 → (two (t) 0 * 3600 + two (t) 3 * 60 + two (t) 6) * 1000000 + V * Q ≤ 324000000000 → Y = (if ((s[0].toNat : Nat) : Int) = 45 then -((two (t) 0 * 3600 + two (t) 3 * 60 + two (t) 6) * 1000000 + V * Q) else (two (t) 0 * 3600 + two (t) 3 * 60 + two (t) 6) * 1000000 + V * Q) → DecIs s Y 0) := Lib.hid fun Y g1 g2 g3 => by rw [D45.out]; refine Or.inl ⟨⟨sg.out, ht.out.symm ▸ hv.out, ht.out.symm ▸ g1, by rw [ht.out, A.out]; exact g2⟩, ?_, rfl⟩; rw [A.out]; rw [hx] at g3; exact g3
          have N1 : ∀ w : World, Calls Tryd.prog 26 #[.string (restOf (t))] w fun e w' => e = .returned (.int .i64 V) ∧ w = w' := fun w => by rw [← eV]; exact number_any _ w (by omega)
          have N2 : ∀ w : World, Calls Tryd.prog 27 #[.int .i64 (restOf (t)).size] w fun e w' => e = .returned (.int .i64 T) ∧ w = w' := fun w => by rw [← eT]; exact rten_any _ w (by omega)
          rw [eT] at eQ
          clear A hv eV eT z
          generalize two (t) 0 = a at *
          generalize two (t) 3 = b at *
          generalize two (t) 6 = c at *
          generalize restOf (t) = r at *
          by_cases g90 : 90 < a
          · have hw := RB.out g90
            clear RO RW RB
            go_wp2_with (refine wpList_store_new rfl 42 (.tmp 4) (.tmp 25) rfl _ _ rfl rfl info42 rfl rfl ?_)
            go_ret2
            exact ⟨_, _, rfl, hw, new3 hB _⟩
          · have a90 : a ≤ 90 := by omega
            have RO' : Hid (∀ Y : Int, (a * 3600 + b * 60 + c) * 1000000 + V * Q ≤ 324000000000 → Y = (if ((s[0].toNat : Nat) : Int) = 45 then -((a * 3600 + b * 60 + c) * 1000000 + V * Q) else (a * 3600 + b * 60 + c) * 1000000 + V * Q) → DecIs s Y 0) := Lib.hid fun Y => RO.out Y a90
            clear RB RO g90 a1
            go_wp2_with (refine wpList_store_new rfl 42 (.tmp 4) (.tmp 25) rfl _ _ rfl rfl info42 rfl rfl ?_)
            go_quiet ((first | (go_at_call 26; first | exact quiet_left (N1 _) | exact quiet_add_left (N1 _)) | (go_at_call 27; first | exact quiet_left (N2 _) | exact quiet_add_left (N2 _))))
            go_wp2_with fail
            all_goals go_ret2
            · exact ⟨_, _, rfl, RW.out (by assumption), drewN_below3 (new3 hB _) _⟩
            · exact ⟨_, _, rfl, RO'.out _ (by assumption) (by rw [hx]; simp), drewN_below3 (new3 hB _) _⟩
        · have hw : DecIs s 0 12 := Or.inr ⟨fun h => hv (ht.out ▸ h.2.1), rfl, rfl⟩
          go_wp2_with (refine wpList_store_new rfl 42 (.tmp 4) (.tmp 25) rfl _ _ rfl rfl info42 rfl rfl ?_)
          go_ret2
          exact ⟨0, 12, rfl, hw, new3 hB _⟩
    · have hw : DecIs s 0 12 := Or.inr ⟨fun h => by
        have := h.1.2
        rw [p0] at this
        exact g this, rfl, rfl⟩
      obtain ⟨g1, g2⟩ := not_or.1 g
      clear g p0
      have b1 : (((s[0].toNat : Nat) : Int) != 43) = true := by simpa using g1
      have b2 : (((s[0].toNat : Nat) : Int) != 45) = true := by simpa using g2
      go_wp2_with fail
      go_ret2
      exact ⟨0, 12, rfl, hw, Below.refl _ _⟩
  · have hw : DecIs s 0 12 := Or.inr ⟨fun h => i0 h.1.1, rfl, rfl⟩
    have m0 : (s.size : Int) = 0 := by omega
    go_wp2_with fail
    go_ret2
    exact ⟨0, 12, rfl, hw, Below.refl _ _⟩
end Ap
end Go.Proofs.YtmafjoboikbnnaaDoor
