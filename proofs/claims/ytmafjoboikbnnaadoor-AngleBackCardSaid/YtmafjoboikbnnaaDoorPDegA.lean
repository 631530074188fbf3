/-
  ParseDeg of package angle.
-/
import Derived.Test.YtmafjoboikbnnaaDoorPCut
namespace Go.Proofs.YtmafjoboikbnnaaDoor
namespace Ap
open Go.RowKit Lw

set_option maxRecDepth 100000 in
set_option maxHeartbeats 40000000 in
theorem deg_true (s t : ByteArray) (w : World) (m : Int) (hm : w.cell? ⟨0, 0, none⟩ = some (.int .i64 m)) (_hs : s.size ≤ 1000) (ht : bodyOf s = t) (hts : t.size ≤ 1000) (hneg : negB s = true) :
    Calls Tryd.prog 11 #[.string s] w fun e w' => ∃ v c : Int, e = .returned (.tuple #[.int .i64 v, .int .i64 c]) ∧ DegT true t (ptOf t) v c ∧ Below w.heap.size w w' := by
  have PN : Calls Tryd.prog 29 #[.string s, .string ⟨#[45]⟩] w fun e w' => e = .returned (.tuple #[.string t, .bool true]) ∧ w' = w := by
    have := Tryd.strings_CutPrefix s ⟨#[45]⟩ w
    have e := pre_neg s
    rw [ht, hneg] at e
    show Calls _ _ _ _ _
    rw [show (⟨#[45]⟩ : ByteArray).data.toList = [45] from rfl, e.1, e.2] at this
    exact this
  have PC := Tryd.strings_Cut t ⟨#[46]⟩ m w (by omega) hm
  rw [show (⟨#[46]⟩ : ByteArray).data.toList = [46] from rfl] at PC
  have K0 := Lib.hid (cut_none true t)
  have K1 := Lib.hid (cut_some true t)
  have KS : (⟨(Lib.cut t.data.toList [46]).1.toArray⟩ : ByteArray).size ≤ 1000 ∧ (⟨(Lib.cut t.data.toList [46]).2.1.toArray⟩ : ByteArray).size ≤ 1000 := by
    have hl : t.data.toList.length = t.size := by simp
    rw [size_mk, size_mk]
    unfold Lib.cut
    split
    · simp only [List.length_take, List.length_drop]; omega
    · simp only [List.length_nil]; omega
  generalize (⟨(Lib.cut t.data.toList [46]).1.toArray⟩ : ByteArray) = h at *
  generalize (⟨(Lib.cut t.data.toList [46]).2.1.toArray⟩ : ByteArray) = r at *
  generalize (Lib.cut t.data.toList [46]).2.2 = is at *
  obtain ⟨hh1, hr1⟩ := KS
  clear ht hneg hts hm
  go_enter Tryd.func11, Tryd.ntmps11
  go_wp2_with fail
  go_at_call 29
  refine PN.mono ?_
  rintro e wx ⟨rfl, hx⟩
  rw [hx]
  clear PN hx wx
  go_wp2_with fail
  go_at_call 30
  refine PC.mono ?_
  rintro e wx ⟨rfl, nn, rfl⟩
  clear PC
  cases is with
  | false =>
    have hw := Lib.hid (K0.out rfl)
    clear K0 K1
    go_wp2_with fail
    all_goals go_ret2
    all_goals exact ⟨0, 12, rfl, hw.out, drewN_below2 (Below.refl _ _) _⟩
  | true =>
    have K1 := Lib.hid (K1.out rfl)
    clear K0
    by_cases hf : formH h r
    · have hfP := Lib.hid hf
      obtain ⟨f1, f2, f3, f4, f5⟩ := hf
      have z9 : r.size ≤ 9 := f4
      have VH : ∀ w : World, Calls Tryd.prog 31 #[.string h] w fun e w' => e = .returned (.int .i64 (numV h.data.toList)) ∧ Below w.heap.size w w' := fun w => value_b h w (by omega)
      have VR : ∀ w : World, Calls Tryd.prog 31 #[.string r] w fun e w' => e = .returned (.int .i64 (numV r.data.toList)) ∧ Below w.heap.size w w' := fun w => value_b r w (by omega)
      have D1 := numV_3 (l := h.data.toList) (by simpa using f3)
      have E1 := numV_9 (l := r.data.toList) (by simpa using f4)
      have hE10 : numV r.data.toList < 10 ^ r.size := by
        have := (numV_bd r.data.toList).2
        have e : r.data.toList.length = r.size := by simp
        rw [e] at this
        exact this
      have hw : Hid (¬ numP true (numV h.data.toList) (numV r.data.toList) → DegT true t (ptOf t) 0 12) := Lib.hid fun hn => K1.out _ _ (Or.inr ⟨fun g => hn g.2, rfl, rfl⟩)
      have hv : Hid (numP true (numV h.data.toList) (numV r.data.toList) → ∀ v, v = sgnI true (numV h.data.toList * 3600000000 + fracI (numV r.data.toList) r.size) → DegT true t (ptOf t) v 0) := Lib.hid fun hn v hv => K1.out _ _ (Or.inl ⟨hfP.out, hn, hv, rfl⟩)
      generalize numV h.data.toList = D at *
      generalize numV r.data.toList = E at *
      obtain ⟨D0, D9⟩ := D1
      obtain ⟨E0, E9⟩ := E1
      have i0 : 0 < h.size := by omega
      have m0 : (0 : Int) < h.size := by omega
      have a1 : ¬ (h.size : Int) < 1 := by omega
      have a2 : ¬ (3 : Int) < h.size := by omega
      have a3 : ¬ (r.size : Int) < 1 := by omega
      have a4 : ¬ (9 : Int) < r.size := by omega
      have hf5 : ¬ (1 : Int) < h.size ∨ ((1 : Int) < h.size ∧ (((h[0].toNat : Nat) : Int) == 48) = false) := by
        by_cases g : 1 < h.size
        · refine Or.inr ⟨by omega, beq_eq_false_iff_ne.2 ?_⟩
          rcases f5 with q | q
          · omega
          · rw [at_of h 0 i0] at q; exact q
        · exact Or.inl (by omega)
      clear K1 hfP f1 f2 f3 f4 f5
      have hS : ∀ wx wy, Below (w.drewN nn).heap.size (w.drewN nn) wx → Below wx.heap.size wx wy → Below w.heap.size w wy := fun wx wy b1 b2 => (Below.trans (drewN_below2 (Below.refl w.heap.size w) nn) b1).trans (b2.mono b1.size)
      rcases hf5 with g | ⟨g, g'⟩
      all_goals
        go_wp2_with fail
        go_at_call 31
        refine (VH _).mono ?_
        rintro e w2 ⟨rfl, hb1⟩
        go_wp2_with fail
        go_at_call 31
        refine (VR _).mono ?_
        rintro e w3 ⟨rfl, hb2⟩
        have hB := hS _ _ hb1 hb2
        clear VH VR hS hb1 hb2
        by_cases hn : numP true D E
        · obtain ⟨n1, n2, n3, n4, n5⟩ := hn
          have hv := Lib.hid (fun v h => hv.out ⟨n1, n2, n3, n4, n5⟩ v h)
          rcases frac_letters E r.size n2 hE10 z9 with ⟨n8, T, Q, eT, eQ, t1, t2, q1, q2, p1, p2, eF⟩ | ⟨n9, T, R, eT, t1, t2, r1, r2, eF, e9, NR⟩
          · have NT : ∀ w : World, Calls Tryd.prog 24 #[.int .i64 r.size] w fun e w' => e = .returned (.int .i64 T) ∧ w = w' := fun w => by rw [← eT]; exact ten_any _ w (by omega)
            have hv := Lib.hid (hv.out _ rfl)
            rw [eF] at hv
            clear eT eF
            have hcase : ((D == 360) = true ∧ ¬ (0 : Int) < E ∧ (D == 0) = false) ∨ ((D == 360) = false ∧ (D == 0) = false) ∨ ((D == 360) = false ∧ (D == 0) = true ∧ (E == 0) = false) := by
              by_cases q : D = 360
              · have e0 : E = 0 := by omega
                exact Or.inl ⟨by simp [q], by omega, by simp [q]⟩
              · by_cases q0 : D = 0
                · have e0 : E ≠ 0 := by
                    rcases n5 with h | h | h
                    · exact absurd h (by simp)
                    · exact absurd q0 h
                    · exact h
                  exact Or.inr (Or.inr ⟨by simp [q], by simp [q0], by simp [e0]⟩)
                · exact Or.inr (Or.inl ⟨by simp [q], by simp [q0]⟩)
            clear n4 n5
            rcases hcase with ⟨g1, g2, g3⟩ | ⟨g1, g2⟩ | ⟨g1, g2, g3⟩
            all_goals
              go_wp2_with (go_at_call 24; refine (NT _).mono ?_; rintro e w' ⟨rfl, rfl⟩)
              all_goals go_ret2
              all_goals exact ⟨_, _, rfl, hv.out, hB⟩
          · have NT : ∀ w : World, Calls Tryd.prog 24 #[.int .i64 r.size] w fun e w' => e = .returned (.int .i64 T) ∧ w = w' := fun w => by rw [← eT]; exact ten_any _ w (by omega)
            have hv := Lib.hid (hv.out _ rfl)
            rw [eF] at hv
            clear eT eF n9
            have hcase : ((D == 360) = true ∧ ¬ (0 : Int) < E ∧ (D == 0) = false) ∨ ((D == 360) = false ∧ (D == 0) = false) ∨ ((D == 360) = false ∧ (D == 0) = true ∧ (E == 0) = false) := by
              by_cases q : D = 360
              · have e0 : E = 0 := by omega
                exact Or.inl ⟨by simp [q], by omega, by simp [q]⟩
              · by_cases q0 : D = 0
                · have e0 : E ≠ 0 := by
                    rcases n5 with h | h | h
                    · exact absurd h (by simp)
                    · exact absurd q0 h
                    · exact h
                  exact Or.inr (Or.inr ⟨by simp [q], by simp [q0], by simp [e0]⟩)
                · exact Or.inr (Or.inl ⟨by simp [q], by simp [q0]⟩)
            clear n4 n5
            rcases hcase with ⟨g1, g2, g3⟩ | ⟨g1, g2⟩ | ⟨g1, g2, g3⟩
            all_goals
              go_wp2_with (first | (go_at_call 24; refine (NT _).mono ?_; rintro e w' ⟨rfl, rfl⟩) | (go_at_call 32; refine (NR _).mono ?_; rintro e w' ⟨rfl, hb⟩))
              all_goals go_ret2
              all_goals exact ⟨_, _, rfl, hv.out, hB.trans (Below.mono (by assumption) hB.size)⟩
        · have hw := Lib.hid (hw.out hn)
          clear hv
          unfold numP at hn
          simp only [reduceCtorEq, false_or] at hn
          go_wp2_with fail
          all_goals first
            | (exfalso; omega)
            | (exfalso; have hq : ¬ E = 0 := beq_eq_false_iff_ne.1 (by first | assumption | exact And.right (by assumption)); omega)
            | (go_ret2
               exact ⟨0, 12, rfl, hw.out, hB⟩)
    · have hw := Lib.hid (K1.out 0 12 (Or.inr ⟨fun g => hf g.1, rfl, rfl⟩))
      clear K1
      by_cases i0 : 0 < h.size
      · have m0 : (0 : Int) < h.size := by omega
        unfold formH at hf
        rw [at_of h 0 i0] at hf
        go_wp2_with fail
        all_goals first
          | (exfalso; omega)
          | (exfalso; have hq : ¬ ((h[0].toNat : Nat) : Int) = 48 := beq_eq_false_iff_ne.1 (by first | assumption | exact And.right (by assumption)); omega)
          | (go_ret2
             exact ⟨0, 12, rfl, hw.out, drewN_below2 (Below.refl _ _) _⟩)
      · have m0 : (h.size : Int) = 0 := by omega
        go_wp2_with fail
        all_goals go_ret2
        all_goals exact ⟨0, 12, rfl, hw.out, drewN_below2 (Below.refl _ _) _⟩
end Ap
end Go.Proofs.YtmafjoboikbnnaaDoor
