/-
  ParseDeg of the reference.
-/
import Derived.Test.YtmafjoboikbnnaaDoorPDSpec
namespace Go.Proofs.YtmafjoboikbnnaaDoor
namespace Ap
open Go.RowKit Lw

set_option maxRecDepth 100000 in
set_option maxHeartbeats 40000000 in
theorem rdeg_B (s : ByteArray) (w : World) (hs : s.size ≤ 100) (i0 : 0 < s.size) (h45 : ¬ ((s[0].toNat : Nat) : Int) = 45) :
    Calls Tryd.prog 12 #[.string s] w fun e w' => ∃ v c : Int, e = .returned (.tuple #[.int .i64 v, .int .i64 c]) ∧ DegT false s (ptOf s) v c ∧ Below w.heap.size w w' := by
  go_enter Tryd.func12, Tryd.ntmps12
  have m0 : (0 : Int) < s.size := by omega
  have b0 : (((s[0].toNat : Nat) : Int) == 45) = false := beq_eq_false_iff_ne.2 h45
  have CV : Hid (∀ v e, DegT false s (ptOf s) v e → DegT false s (ptOf s) v e) := Lib.hid fun _ _ h => h
  have hts := hs
  go_wp2_with fail
  obtain ⟨t, rfl⟩ : ∃ t, t = s := ⟨_, rfl⟩
  go_loop [5] (fun i => ∃ k : Nat, k ≤ t.size ∧ i = .int .i64 k ∧ Hid (∀ j (hj : j < t.size), j < k → ¬ ((t[j].toNat : Nat) : Int) = 46)) (fun i => t.size - (intOf i).toNat)
  case atStart => exact ⟨0, Nat.zero_le _, rfl, Lib.hid (by omega)⟩
  case round =>
    obtain ⟨k, hk, rfl, A⟩ := hrel
    by_cases hlt : k < t.size
    · have i0 : 0 < t.size := by omega
      by_cases h46 : ((t[k].toNat : Nat) : Int) = 46
      · have P := Lib.hid (pt_eq hk A.out (fun _ => h46))
        by_cases hf : formP t k
        · obtain ⟨f1, f2, f3, f4, f5⟩ := hf
          have hfP := Lib.hid (show formP t k from ⟨f1, f2, f3, f4, f5⟩)
          have D1 := degD_bd t k f3
          have F1 := degF_bd t k f4
          have ND : ∀ w : World, Calls Tryd.prog 26 #[.string (t.extract 0 k)] w fun e w' => e = .returned (.int .i64 (degD t k)) ∧ w = w' := fun w => number_any _ w (by simp; omega)
          have NF : ∀ w : World, Calls Tryd.prog 26 #[.string (t.extract (k + 1) t.size)] w fun e w' => e = .returned (.int .i64 (degF t k)) ∧ w = w' := fun w => number_any _ w (by simp; omega)
          have NT : ∀ w : World, Calls Tryd.prog 27 #[.int .i64 (t.extract (k + 1) t.size).size] w fun e w' => e = .returned (.int .i64 (tenI (t.extract (k + 1) t.size).size)) ∧ w = w' := fun w => rten_any _ w (by simp; omega)
          have zr : (t.extract (k + 1) t.size).size = t.size - (k + 1) := by simp
          generalize hDD : degD t k = D at *
          have hE10 : degF t k < 10 ^ (t.extract (k + 1) t.size).size := by
            have := (numV_bd (t.extract (k + 1) t.size).data.toList).2
            have e : (t.extract (k + 1) t.size).data.toList.length = (t.extract (k + 1) t.size).size := by simp
            rw [e] at this
            exact this
          generalize hFF : degF t k = E at *
          have hw : ¬ numP false D E → DegT false t (ptOf t) 0 12 := fun h => by rw [P.out]; exact Or.inr ⟨fun g => h (by rw [← hDD, ← hFF]; exact g.2), rfl, rfl⟩
          have hv : numP false D E → DegT false t (ptOf t) (sgnI false (D * 3600000000 + fracI E (t.extract (k + 1) t.size).size)) 0 := fun h => by rw [P.out]; exact Or.inl ⟨hfP.out, by rw [hDD, hFF]; exact h, by rw [hDD, hFF, zr], rfl⟩
          have zr9 : (t.extract (k + 1) t.size).size ≤ 9 := by omega
          clear zr hfP hDD hFF
          have hw := Lib.hid hw
          have hv := Lib.hid hv
          have m1 : (k : Int) + 1 < t.size := by omega
          have m2 : (1 : Int) ≤ k := by omega
          have m3 : (k : Int) ≤ 3 := by omega
          have m4 : (t.size : Int) - k - 1 ≤ 9 := by omega
          have m5 : (k : Int) ≤ t.size := by omega
          have m6 : (k : Int) + 1 ≤ t.size := by omega
          have e1 : IntKind.i64.wrap ((k : Int) + 1) = k + 1 := IntWalk.i64_in _ (by omega)
          have i0 : 0 < t.size := by omega
          have x0 := at_of t 0 i0
          rw [x0] at f5
          clear x0 f1 f2 f3 f4 A
          obtain ⟨D0, D9⟩ := D1
          obtain ⟨E0, E9⟩ := F1
          have hk5 : k ≤ 1 ∨ (1 < k ∧ ¬ ((t[0].toNat : Nat) : Int) = 48) := by omega
          clear f5
          rcases hk5 with f5 | ⟨f5, f6⟩
          · have m7 : ¬ (1 : Int) < k := by omega
            go_wp2_with fail
            go_quiet ((go_at_call 26; first | exact quiet_left (ND _) | exact quiet_add_left (ND _)))
            go_wp2_with fail
            generalize t.extract (k + 1) t.size = r at *
            go_at_call 26
            refine (NF _).mono ?_
            rintro e w' ⟨rfl, rfl⟩
            by_cases hn : numP false D E
            · obtain ⟨n1, n2, n3, n4, n5⟩ := hn
              obtain ⟨T, C, M, U, R, eT, eM, eU, c1, c2, t1, t2, mm1, mm2, u1, u2, p1, p2, r1, r2, eR, NC, NR⟩ := deg_letters E r.size n2 hE10 zr9
              rw [eT] at NT
              have hv := Lib.hid (show DegT false t (ptOf t) (sgnI false (D * 3600000000 + R)) 0 by rw [← eR.out]; exact hv.out ⟨n1, n2, n3, n4, n5⟩)
              clear eT eR hw
              have hcase : ((D == 360) = true ∧ ¬ (0 : Int) < E) ∨ ((D == 360) = false) := by
                by_cases q : D = 360
                · exact Or.inl ⟨by simp [q], by omega⟩
                · exact Or.inr (by simp [q])
              clear n4 n5
              rcases hcase with ⟨g1, g2⟩ | g1
              · go_wp2_with (first | (go_at_call 27; refine (NT _).mono ?_; rintro e w' ⟨rfl, rfl⟩) | (go_at_call 33; refine (NC _).mono ?_; rintro e w' ⟨rfl, hB⟩))
                go_quiet ((first | (go_at_call 27; first | exact quiet_left (NT _) | exact quiet_add_left (NT _)) | (go_at_call 34; first | exact quiet_more NR | exact quiet_add_more NR)))
                go_wp2_with fail
                go_ret2
                exact ⟨_, _, rfl, CV.out _ _ hv.out, drewN_below2 (Below.trans (drewN_below2 (Below.refl _ _) _) hB) _⟩
              · go_wp2_with (first | (go_at_call 27; refine (NT _).mono ?_; rintro e w' ⟨rfl, rfl⟩) | (go_at_call 33; refine (NC _).mono ?_; rintro e w' ⟨rfl, hB⟩))
                go_quiet ((first | (go_at_call 27; first | exact quiet_left (NT _) | exact quiet_add_left (NT _)) | (go_at_call 34; first | exact quiet_more NR | exact quiet_add_more NR)))
                go_wp2_with fail
                go_ret2
                exact ⟨_, _, rfl, CV.out _ _ hv.out, drewN_below2 (Below.trans (drewN_below2 (Below.refl _ _) _) hB) _⟩
            · have hw := Lib.hid (hw.out hn)
              clear hv
              unfold numP at hn
              simp only [reduceCtorEq, false_or, true_or, and_true] at hn
              go_wp2_with fail
              all_goals first
                | (exfalso; omega)
                | (exfalso; have hq : ¬ E = 0 := beq_eq_false_iff_ne.1 (by first | assumption | exact And.right (by assumption)); omega)
                | (go_ret2
                   exact ⟨0, 12, rfl, CV.out _ _ hw.out, drewN_below2 (Below.refl _ _) _⟩)
          · have m7 : (((t[0].toNat : Nat) : Int) == 48) = false := beq_eq_false_iff_ne.2 f6
            have m8 : (1 : Int) < k := by omega
            go_wp2_with fail
            go_quiet ((go_at_call 26; first | exact quiet_left (ND _) | exact quiet_add_left (ND _)))
            go_wp2_with fail
            generalize t.extract (k + 1) t.size = r at *
            go_at_call 26
            refine (NF _).mono ?_
            rintro e w' ⟨rfl, rfl⟩
            by_cases hn : numP false D E
            · obtain ⟨n1, n2, n3, n4, n5⟩ := hn
              obtain ⟨T, C, M, U, R, eT, eM, eU, c1, c2, t1, t2, mm1, mm2, u1, u2, p1, p2, r1, r2, eR, NC, NR⟩ := deg_letters E r.size n2 hE10 zr9
              rw [eT] at NT
              have hv := Lib.hid (show DegT false t (ptOf t) (sgnI false (D * 3600000000 + R)) 0 by rw [← eR.out]; exact hv.out ⟨n1, n2, n3, n4, n5⟩)
              clear eT eR hw
              have hcase : ((D == 360) = true ∧ ¬ (0 : Int) < E) ∨ ((D == 360) = false) := by
                by_cases q : D = 360
                · exact Or.inl ⟨by simp [q], by omega⟩
                · exact Or.inr (by simp [q])
              clear n4 n5
              rcases hcase with ⟨g1, g2⟩ | g1
              · go_wp2_with (first | (go_at_call 27; refine (NT _).mono ?_; rintro e w' ⟨rfl, rfl⟩) | (go_at_call 33; refine (NC _).mono ?_; rintro e w' ⟨rfl, hB⟩))
                go_quiet ((first | (go_at_call 27; first | exact quiet_left (NT _) | exact quiet_add_left (NT _)) | (go_at_call 34; first | exact quiet_more NR | exact quiet_add_more NR)))
                go_wp2_with fail
                go_ret2
                exact ⟨_, _, rfl, CV.out _ _ hv.out, drewN_below2 (Below.trans (drewN_below2 (Below.refl _ _) _) hB) _⟩
              · go_wp2_with (first | (go_at_call 27; refine (NT _).mono ?_; rintro e w' ⟨rfl, rfl⟩) | (go_at_call 33; refine (NC _).mono ?_; rintro e w' ⟨rfl, hB⟩))
                go_quiet ((first | (go_at_call 27; first | exact quiet_left (NT _) | exact quiet_add_left (NT _)) | (go_at_call 34; first | exact quiet_more NR | exact quiet_add_more NR)))
                go_wp2_with fail
                go_ret2
                exact ⟨_, _, rfl, CV.out _ _ hv.out, drewN_below2 (Below.trans (drewN_below2 (Below.refl _ _) _) hB) _⟩
            · have hw := Lib.hid (hw.out hn)
              clear hv
              unfold numP at hn
              simp only [reduceCtorEq, false_or, true_or, and_true] at hn
              go_wp2_with fail
              all_goals first
                | (exfalso; omega)
                | (exfalso; have hq : ¬ E = 0 := beq_eq_false_iff_ne.1 (by first | assumption | exact And.right (by assumption)); omega)
                | (go_ret2
                   exact ⟨0, 12, rfl, CV.out _ _ hw.out, drewN_below2 (Below.refl _ _) _⟩)
        · have hw := Lib.hid (show DegT false t (ptOf t) 0 12 by rw [P.out]; exact Or.inr ⟨fun g => hf g.1, rfl, rfl⟩)
          have hff : ¬ (k + 1 < t.size ∧ 1 ≤ k ∧ k ≤ 3 ∧ t.size ≤ k + 10 ∧ (k ≤ 1 ∨ ¬ ((t[0].toNat : Nat) : Int) = 48)) := by
            rw [← at_of t 0 (by omega)]; exact hf
          go_wp2
          all_goals first
            | (exfalso; omega)
            | (exfalso; have hq : ¬ ((t[0].toNat : Nat) : Int) = 48 := beq_eq_false_iff_ne.1 (by first | assumption | exact And.right (by assumption)); omega)
            | (go_ret2
               exact ⟨0, 12, rfl, CV.out _ _ hw.out, Below.refl _ _⟩)
      · have A2 := Lib.hid (show ∀ j (hj : j < t.size), j < k + 1 → ¬ ((t[j].toNat : Nat) : Int) = 46 from fun j hj hjk => by
          by_cases g : j = k
          · subst g; exact h46
          · exact A.out j hj (by omega))
        have b1 : (((t[k].toNat : Nat) : Int) != 46) = true := by simpa using h46
        go_wp2
        go_round
        case rel => exact ⟨k + 1, by omega, by go_num, A2⟩
        case measure => simp [intOf]; omega
    · have P := Lib.hid (pt_eq hk A.out (fun h => absurd h hlt))
      have hw := Lib.hid (show DegT false t (ptOf t) 0 12 by rw [P.out]; exact Or.inr ⟨fun g => by have := g.1.1; omega, rfl, rfl⟩)
      obtain rfl : k = t.size := by omega
      have m0 : ¬ ((t.size : Int) < t.size) := by omega
      go_wp2
      all_goals
        go_ret2
        exact ⟨0, 12, rfl, CV.out _ _ hw.out, Below.refl _ _⟩
end Ap
end Go.Proofs.YtmafjoboikbnnaaDoor
