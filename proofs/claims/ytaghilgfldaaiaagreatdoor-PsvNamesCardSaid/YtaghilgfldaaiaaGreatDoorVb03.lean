/-
  Lemmas and walks, texts joined: PDegA, PDegB, PDeg, TAlive, BPl3, VDeg, MBPl, MNum, MTen, MPad, MLike, MGrp, MForm, MCut, MForm2, MText, MDay, MRdPl.
-/
import Derived.ProofKit
import Derived.Lib.Hide
import Derived.Laws.RangeAny
import Derived.LoopTactic
import Derived.Deep.QuietTactic
import Derived.BigQuiet
import Derived.WalkLawsBesides
import Derived.WalkSpells
import Derived.Lib.SmallJoins
import Derived.Lib.LaidTab
import Derived.Laws.Concat
import Derived.Lib.Repeat
import Derived.Lib.ItoaLen
import Derived.Sort.Grow
import Derived.Deep.RegionHeld3
import Derived.StillTailTactics
import Derived.Test.YtaghilgfldaaiaaGreatDoorVb02
import Derived.Test.YtaghilgfldaaiaaGreatDoorVb01
import Derived.Test.YtaghilgfldaaiaaGreatDoorRows
set_option linter.unusedSimpArgs false
set_option linter.unusedVariables false
/-
  ParseDeg of package angle.
-/
namespace Go.Proofs.YtaghilgfldaaiaaGreatDoor
namespace Gp
open Go.RowKit Lw

set_option maxRecDepth 100000 in
set_option maxHeartbeats 40000000 in
theorem deg_true (s t : ByteArray) (w : World) (m : Int) (hm : w.cell? ⟨1, 0, none⟩ = some (.int .i64 m)) (_hs : s.size ≤ 1000) (ht : bodyOf s = t) (hts : t.size ≤ 1000) (hneg : negB s = true) :
    Calls Tryz.prog 129 #[.string s] w fun e w' => ∃ v c : Int, e = .returned (.tuple #[.int .i64 v, .int .i64 c]) ∧ DegT true t (ptOf t) v c ∧ Below w.heap.size w w' := by
  have PN : Calls Tryz.prog 132 #[.string s, .string ⟨#[45]⟩] w fun e w' => e = .returned (.tuple #[.string t, .bool true]) ∧ w' = w := by
    have := Tryz.strings_CutPrefix s ⟨#[45]⟩ w
    have e := pre_neg s
    rw [ht, hneg] at e
    show Calls _ _ _ _ _
    rw [show (⟨#[45]⟩ : ByteArray).data.toList = [45] from rfl, e.1, e.2] at this
    exact this
  have PC := Tryz.strings_Cut t ⟨#[46]⟩ m w (by omega) hm
  rw [show (⟨#[46]⟩ : ByteArray).data.toList = [46] from rfl] at PC
  have K0 := Lib.hid (cut_none true t)
  have K1 := Lib.hid (cut_some true t)
  have KS : (⟨(Lib.cut t.data.toList [46]).1.toArray⟩ : ByteArray).size ≤ 1000 ∧ (⟨(Lib.cut t.data.toList [46]).2.1.toArray⟩ : ByteArray).size ≤ 1000 := by
    have hl : t.data.toList.length = t.size := by simp
    rw [size_mk, size_mk]
    unfold Lib.cut
    split
    · simp only [List.length_take, List.length_drop]; omega
    · simp only [List.length_nil]; omega
  generalize (⟨(Lib.cut t.data.toList [46]).1.toArray⟩ : ByteArray) = h at *
  generalize (⟨(Lib.cut t.data.toList [46]).2.1.toArray⟩ : ByteArray) = r at *
  generalize (Lib.cut t.data.toList [46]).2.2 = is at *
  obtain ⟨hh1, hr1⟩ := KS
  clear ht hneg hts hm
  go_enter Tryz.func129, Tryz.ntmps129
  go_wp2_with fail
  go_at_call 132
  refine PN.mono ?_
  rintro e wx ⟨rfl, hx⟩
  rw [hx]
  clear PN hx wx
  go_wp2_with fail
  go_at_call 108
  refine PC.mono ?_
  rintro e wx ⟨rfl, nn, rfl⟩
  clear PC
  cases is with
  | false =>
    have hw := Lib.hid (K0.out rfl)
    clear K0 K1
    go_wp2_with fail
    all_goals go_ret2
    all_goals exact ⟨0, 12, rfl, hw.out, drewN_below2 (Below.refl _ _) _⟩
  | true =>
    have K1 := Lib.hid (K1.out rfl)
    clear K0
    by_cases hf : formH h r
    · have hfP := Lib.hid hf
      obtain ⟨f1, f2, f3, f4, f5⟩ := hf
      have z9 : r.size ≤ 9 := f4
      have VH : ∀ w : World, Calls Tryz.prog 182 #[.string h] w fun e w' => e = .returned (.int .i64 (numV h.data.toList)) ∧ Below w.heap.size w w' := fun w => value_b h w (by omega)
      have VR : ∀ w : World, Calls Tryz.prog 182 #[.string r] w fun e w' => e = .returned (.int .i64 (numV r.data.toList)) ∧ Below w.heap.size w w' := fun w => value_b r w (by omega)
      have D1 := numV_3 (l := h.data.toList) (by simpa using f3)
      have E1 := numV_9 (l := r.data.toList) (by simpa using f4)
      have hE10 : numV r.data.toList < 10 ^ r.size := by
        have := (numV_bd r.data.toList).2
        have e : r.data.toList.length = r.size := by simp
        rw [e] at this
        exact this
      have hw : Hid (¬ numP true (numV h.data.toList) (numV r.data.toList) → DegT true t (ptOf t) 0 12) := Lib.hid fun hn => K1.out _ _ (Or.inr ⟨fun g => hn g.2, rfl, rfl⟩)
      have hv : Hid (numP true (numV h.data.toList) (numV r.data.toList) → ∀ v, v = sgnI true (numV h.data.toList * 3600000000 + fracI (numV r.data.toList) r.size) → DegT true t (ptOf t) v 0) := Lib.hid fun hn v hv => K1.out _ _ (Or.inl ⟨hfP.out, hn, hv, rfl⟩)
      generalize numV h.data.toList = D at *
      generalize numV r.data.toList = E at *
      obtain ⟨D0, D9⟩ := D1
      obtain ⟨E0, E9⟩ := E1
      have i0 : 0 < h.size := by omega
      have m0 : (0 : Int) < h.size := by omega
      have a1 : ¬ (h.size : Int) < 1 := by omega
      have a2 : ¬ (3 : Int) < h.size := by omega
      have a3 : ¬ (r.size : Int) < 1 := by omega
      have a4 : ¬ (9 : Int) < r.size := by omega
      have hf5 : ¬ (1 : Int) < h.size ∨ ((1 : Int) < h.size ∧ (((h[0].toNat : Nat) : Int) == 48) = false) := by
        by_cases g : 1 < h.size
        · refine Or.inr ⟨by omega, beq_eq_false_iff_ne.2 ?_⟩
          rcases f5 with q | q
          · omega
          · rw [at_of h 0 i0] at q; exact q
        · exact Or.inl (by omega)
      clear K1 hfP f1 f2 f3 f4 f5
      have hS : ∀ wx wy, Below (w.drewN nn).heap.size (w.drewN nn) wx → Below wx.heap.size wx wy → Below w.heap.size w wy := fun wx wy b1 b2 => (Below.trans (drewN_below2 (Below.refl w.heap.size w) nn) b1).trans (b2.mono b1.size)
      rcases hf5 with g | ⟨g, g'⟩
      all_goals
        go_wp2_with fail
        go_at_call 182
        refine (VH _).mono ?_
        rintro e w2 ⟨rfl, hb1⟩
        go_wp2_with fail
        go_at_call 182
        refine (VR _).mono ?_
        rintro e w3 ⟨rfl, hb2⟩
        have hB := hS _ _ hb1 hb2
        clear VH VR hS hb1 hb2
        by_cases hn : numP true D E
        · obtain ⟨n1, n2, n3, n4, n5⟩ := hn
          have hv := Lib.hid (fun v h => hv.out ⟨n1, n2, n3, n4, n5⟩ v h)
          rcases frac_letters E r.size n2 hE10 z9 with ⟨n8, T, Q, eT, eQ, t1, t2, q1, q2, p1, p2, eF⟩ | ⟨n9, T, R, eT, t1, t2, r1, r2, eF, e9, NR⟩
          · have NT : ∀ w : World, Calls Tryz.prog 124 #[.int .i64 r.size] w fun e w' => e = .returned (.int .i64 T) ∧ w = w' := fun w => by rw [← eT]; exact ten_any _ w (by omega)
            have hv := Lib.hid (hv.out _ rfl)
            rw [eF] at hv
            clear eT eF
            have hcase : ((D == 360) = true ∧ ¬ (0 : Int) < E ∧ (D == 0) = false) ∨ ((D == 360) = false ∧ (D == 0) = false) ∨ ((D == 360) = false ∧ (D == 0) = true ∧ (E == 0) = false) := by
              by_cases q : D = 360
              · have e0 : E = 0 := by omega
                exact Or.inl ⟨by simp [q], by omega, by simp [q]⟩
              · by_cases q0 : D = 0
                · have e0 : E ≠ 0 := by
                    rcases n5 with h | h | h
                    · exact absurd h (by simp)
                    · exact absurd q0 h
                    · exact h
                  exact Or.inr (Or.inr ⟨by simp [q], by simp [q0], by simp [e0]⟩)
                · exact Or.inr (Or.inl ⟨by simp [q], by simp [q0]⟩)
            clear n4 n5
            rcases hcase with ⟨g1, g2, g3⟩ | ⟨g1, g2⟩ | ⟨g1, g2, g3⟩
            all_goals
              go_wp2_with (go_at_call 124; refine (NT _).mono ?_; rintro e w' ⟨rfl, rfl⟩)
              all_goals go_ret2
              all_goals exact ⟨_, _, rfl, hv.out, hB⟩
          · have NT : ∀ w : World, Calls Tryz.prog 124 #[.int .i64 r.size] w fun e w' => e = .returned (.int .i64 T) ∧ w = w' := fun w => by rw [← eT]; exact ten_any _ w (by omega)
            have hv := Lib.hid (hv.out _ rfl)
            rw [eF] at hv
            clear eT eF n9
            have hcase : ((D == 360) = true ∧ ¬ (0 : Int) < E ∧ (D == 0) = false) ∨ ((D == 360) = false ∧ (D == 0) = false) ∨ ((D == 360) = false ∧ (D == 0) = true ∧ (E == 0) = false) := by
              by_cases q : D = 360
              · have e0 : E = 0 := by omega
                exact Or.inl ⟨by simp [q], by omega, by simp [q]⟩
              · by_cases q0 : D = 0
                · have e0 : E ≠ 0 := by
                    rcases n5 with h | h | h
                    · exact absurd h (by simp)
                    · exact absurd q0 h
                    · exact h
                  exact Or.inr (Or.inr ⟨by simp [q], by simp [q0], by simp [e0]⟩)
                · exact Or.inr (Or.inl ⟨by simp [q], by simp [q0]⟩)
            clear n4 n5
            rcases hcase with ⟨g1, g2, g3⟩ | ⟨g1, g2⟩ | ⟨g1, g2, g3⟩
            all_goals
              go_wp2_with (first | (go_at_call 124; refine (NT _).mono ?_; rintro e w' ⟨rfl, rfl⟩) | (go_at_call 125; refine (NR _).mono ?_; rintro e w' ⟨rfl, hb⟩))
              all_goals go_ret2
              all_goals exact ⟨_, _, rfl, hv.out, hB.trans (Below.mono (by assumption) hB.size)⟩
        · have hw := Lib.hid (hw.out hn)
          clear hv
          unfold numP at hn
          simp only [reduceCtorEq, false_or] at hn
          go_wp2_with fail
          all_goals first
            | (exfalso; omega)
            | (exfalso; have hq : ¬ E = 0 := beq_eq_false_iff_ne.1 (by first | assumption | exact And.right (by assumption)); omega)
            | (go_ret2
               exact ⟨0, 12, rfl, hw.out, hB⟩)
    · have hw := Lib.hid (K1.out 0 12 (Or.inr ⟨fun g => hf g.1, rfl, rfl⟩))
      clear K1
      by_cases i0 : 0 < h.size
      · have m0 : (0 : Int) < h.size := by omega
        unfold formH at hf
        rw [at_of h 0 i0] at hf
        go_wp2_with fail
        all_goals first
          | (exfalso; omega)
          | (exfalso; have hq : ¬ ((h[0].toNat : Nat) : Int) = 48 := beq_eq_false_iff_ne.1 (by first | assumption | exact And.right (by assumption)); omega)
          | (go_ret2
             exact ⟨0, 12, rfl, hw.out, drewN_below2 (Below.refl _ _) _⟩)
      · have m0 : (h.size : Int) = 0 := by omega
        go_wp2_with fail
        all_goals go_ret2
        all_goals exact ⟨0, 12, rfl, hw.out, drewN_below2 (Below.refl _ _) _⟩
end Gp
end Go.Proofs.YtaghilgfldaaiaaGreatDoor
/-
  ParseDeg of package angle.
-/
namespace Go.Proofs.YtaghilgfldaaiaaGreatDoor
namespace Gp
open Go.RowKit Lw

set_option maxRecDepth 100000 in
set_option maxHeartbeats 40000000 in
theorem deg_false (s t : ByteArray) (w : World) (m : Int) (hm : w.cell? ⟨1, 0, none⟩ = some (.int .i64 m)) (_hs : s.size ≤ 1000) (ht : bodyOf s = t) (hts : t.size ≤ 1000) (hneg : negB s = false) :
    Calls Tryz.prog 129 #[.string s] w fun e w' => ∃ v c : Int, e = .returned (.tuple #[.int .i64 v, .int .i64 c]) ∧ DegT false t (ptOf t) v c ∧ Below w.heap.size w w' := by
  have PN : Calls Tryz.prog 132 #[.string s, .string ⟨#[45]⟩] w fun e w' => e = .returned (.tuple #[.string t, .bool false]) ∧ w' = w := by
    have := Tryz.strings_CutPrefix s ⟨#[45]⟩ w
    have e := pre_neg s
    rw [ht, hneg] at e
    show Calls _ _ _ _ _
    rw [show (⟨#[45]⟩ : ByteArray).data.toList = [45] from rfl, e.1, e.2] at this
    exact this
  have PC := Tryz.strings_Cut t ⟨#[46]⟩ m w (by omega) hm
  rw [show (⟨#[46]⟩ : ByteArray).data.toList = [46] from rfl] at PC
  have K0 := Lib.hid (cut_none false t)
  have K1 := Lib.hid (cut_some false t)
  have KS : (⟨(Lib.cut t.data.toList [46]).1.toArray⟩ : ByteArray).size ≤ 1000 ∧ (⟨(Lib.cut t.data.toList [46]).2.1.toArray⟩ : ByteArray).size ≤ 1000 := by
    have hl : t.data.toList.length = t.size := by simp
    rw [size_mk, size_mk]
    unfold Lib.cut
    split
    · simp only [List.length_take, List.length_drop]; omega
    · simp only [List.length_nil]; omega
  generalize (⟨(Lib.cut t.data.toList [46]).1.toArray⟩ : ByteArray) = h at *
  generalize (⟨(Lib.cut t.data.toList [46]).2.1.toArray⟩ : ByteArray) = r at *
  generalize (Lib.cut t.data.toList [46]).2.2 = is at *
  obtain ⟨hh1, hr1⟩ := KS
  clear ht hneg hts hm
  go_enter Tryz.func129, Tryz.ntmps129
  go_wp2_with fail
  go_at_call 132
  refine PN.mono ?_
  rintro e wx ⟨rfl, hx⟩
  rw [hx]
  clear PN hx wx
  go_wp2_with fail
  go_at_call 108
  refine PC.mono ?_
  rintro e wx ⟨rfl, nn, rfl⟩
  clear PC
  cases is with
  | false =>
    have hw := Lib.hid (K0.out rfl)
    clear K0 K1
    go_wp2_with fail
    all_goals go_ret2
    all_goals exact ⟨0, 12, rfl, hw.out, drewN_below2 (Below.refl _ _) _⟩
  | true =>
    have K1 := Lib.hid (K1.out rfl)
    clear K0
    by_cases hf : formH h r
    · have hfP := Lib.hid hf
      obtain ⟨f1, f2, f3, f4, f5⟩ := hf
      have z9 : r.size ≤ 9 := f4
      have VH : ∀ w : World, Calls Tryz.prog 182 #[.string h] w fun e w' => e = .returned (.int .i64 (numV h.data.toList)) ∧ Below w.heap.size w w' := fun w => value_b h w (by omega)
      have VR : ∀ w : World, Calls Tryz.prog 182 #[.string r] w fun e w' => e = .returned (.int .i64 (numV r.data.toList)) ∧ Below w.heap.size w w' := fun w => value_b r w (by omega)
      have D1 := numV_3 (l := h.data.toList) (by simpa using f3)
      have E1 := numV_9 (l := r.data.toList) (by simpa using f4)
      have hE10 : numV r.data.toList < 10 ^ r.size := by
        have := (numV_bd r.data.toList).2
        have e : r.data.toList.length = r.size := by simp
        rw [e] at this
        exact this
      have hw : Hid (¬ numP false (numV h.data.toList) (numV r.data.toList) → DegT false t (ptOf t) 0 12) := Lib.hid fun hn => K1.out _ _ (Or.inr ⟨fun g => hn g.2, rfl, rfl⟩)
      have hv : Hid (numP false (numV h.data.toList) (numV r.data.toList) → ∀ v, v = sgnI false (numV h.data.toList * 3600000000 + fracI (numV r.data.toList) r.size) → DegT false t (ptOf t) v 0) := Lib.hid fun hn v hv => K1.out _ _ (Or.inl ⟨hfP.out, hn, hv, rfl⟩)
      generalize numV h.data.toList = D at *
      generalize numV r.data.toList = E at *
      obtain ⟨D0, D9⟩ := D1
      obtain ⟨E0, E9⟩ := E1
      have i0 : 0 < h.size := by omega
      have m0 : (0 : Int) < h.size := by omega
      have a1 : ¬ (h.size : Int) < 1 := by omega
      have a2 : ¬ (3 : Int) < h.size := by omega
      have a3 : ¬ (r.size : Int) < 1 := by omega
      have a4 : ¬ (9 : Int) < r.size := by omega
      have hf5 : ¬ (1 : Int) < h.size ∨ ((1 : Int) < h.size ∧ (((h[0].toNat : Nat) : Int) == 48) = false) := by
        by_cases g : 1 < h.size
        · refine Or.inr ⟨by omega, beq_eq_false_iff_ne.2 ?_⟩
          rcases f5 with q | q
          · omega
          · rw [at_of h 0 i0] at q; exact q
        · exact Or.inl (by omega)
      clear K1 hfP f1 f2 f3 f4 f5
      have hS : ∀ wx wy, Below (w.drewN nn).heap.size (w.drewN nn) wx → Below wx.heap.size wx wy → Below w.heap.size w wy := fun wx wy b1 b2 => (Below.trans (drewN_below2 (Below.refl w.heap.size w) nn) b1).trans (b2.mono b1.size)
      rcases hf5 with g | ⟨g, g'⟩
      all_goals
        go_wp2_with fail
        go_at_call 182
        refine (VH _).mono ?_
        rintro e w2 ⟨rfl, hb1⟩
        go_wp2_with fail
        go_at_call 182
        refine (VR _).mono ?_
        rintro e w3 ⟨rfl, hb2⟩
        have hB := hS _ _ hb1 hb2
        clear VH VR hS hb1 hb2
        by_cases hn : numP false D E
        · obtain ⟨n1, n2, n3, n4, n5⟩ := hn
          have hv := Lib.hid (fun v h => hv.out ⟨n1, n2, n3, n4, n5⟩ v h)
          rcases frac_letters E r.size n2 hE10 z9 with ⟨n8, T, Q, eT, eQ, t1, t2, q1, q2, p1, p2, eF⟩ | ⟨n9, T, R, eT, t1, t2, r1, r2, eF, e9, NR⟩
          · have NT : ∀ w : World, Calls Tryz.prog 124 #[.int .i64 r.size] w fun e w' => e = .returned (.int .i64 T) ∧ w = w' := fun w => by rw [← eT]; exact ten_any _ w (by omega)
            have hv := Lib.hid (hv.out _ rfl)
            rw [eF] at hv
            clear eT eF
            have hcase : ((D == 360) = true ∧ ¬ (0 : Int) < E) ∨ ((D == 360) = false) := by
              by_cases q : D = 360
              · exact Or.inl ⟨by simp [q], by omega⟩
              · exact Or.inr (by simp [q])
            clear n4 n5
            rcases hcase with ⟨g1, g2⟩ | g1
            all_goals
              go_wp2_with (go_at_call 124; refine (NT _).mono ?_; rintro e w' ⟨rfl, rfl⟩)
              all_goals go_ret2
              all_goals exact ⟨_, _, rfl, hv.out, hB⟩
          · have NT : ∀ w : World, Calls Tryz.prog 124 #[.int .i64 r.size] w fun e w' => e = .returned (.int .i64 T) ∧ w = w' := fun w => by rw [← eT]; exact ten_any _ w (by omega)
            have hv := Lib.hid (hv.out _ rfl)
            rw [eF] at hv
            clear eT eF n9
            have hcase : ((D == 360) = true ∧ ¬ (0 : Int) < E) ∨ ((D == 360) = false) := by
              by_cases q : D = 360
              · exact Or.inl ⟨by simp [q], by omega⟩
              · exact Or.inr (by simp [q])
            clear n4 n5
            rcases hcase with ⟨g1, g2⟩ | g1
            all_goals
              go_wp2_with (first | (go_at_call 124; refine (NT _).mono ?_; rintro e w' ⟨rfl, rfl⟩) | (go_at_call 125; refine (NR _).mono ?_; rintro e w' ⟨rfl, hb⟩))
              all_goals go_ret2
              all_goals exact ⟨_, _, rfl, hv.out, hB.trans (Below.mono (by assumption) hB.size)⟩
        · have hw := Lib.hid (hw.out hn)
          clear hv
          unfold numP at hn
          simp only [true_or, and_true] at hn
          go_wp2_with fail
          all_goals first
            | (exfalso; omega)
            | (exfalso; have hq : ¬ E = 0 := beq_eq_false_iff_ne.1 (by first | assumption | exact And.right (by assumption)); omega)
            | (go_ret2
               exact ⟨0, 12, rfl, hw.out, hB⟩)
    · have hw := Lib.hid (K1.out 0 12 (Or.inr ⟨fun g => hf g.1, rfl, rfl⟩))
      clear K1
      by_cases i0 : 0 < h.size
      · have m0 : (0 : Int) < h.size := by omega
        unfold formH at hf
        rw [at_of h 0 i0] at hf
        go_wp2_with fail
        all_goals first
          | (exfalso; omega)
          | (exfalso; have hq : ¬ ((h[0].toNat : Nat) : Int) = 48 := beq_eq_false_iff_ne.1 (by first | assumption | exact And.right (by assumption)); omega)
          | (go_ret2
             exact ⟨0, 12, rfl, hw.out, drewN_below2 (Below.refl _ _) _⟩)
      · have m0 : (h.size : Int) = 0 := by omega
        go_wp2_with fail
        all_goals go_ret2
        all_goals exact ⟨0, 12, rfl, hw.out, drewN_below2 (Below.refl _ _) _⟩
end Gp
end Go.Proofs.YtaghilgfldaaiaaGreatDoor
/-
  ParseDeg of package angle, for any text.
-/
namespace Go.Proofs.YtaghilgfldaaiaaGreatDoor
namespace Gp
open Go.RowKit Lw

theorem body_size (s : ByteArray) : (bodyOf s).size ≤ s.size := by
  unfold bodyOf
  split
  · simp
  · exact Nat.le_refl _
theorem deg_any (s : ByteArray) (w : World) (m : Int) (hm : w.cell? ⟨1, 0, none⟩ = some (.int .i64 m)) (hs : s.size ≤ 100) :
    Calls Tryz.prog 129 #[.string s] w fun e w' => ∃ v c : Int, e = .returned (.tuple #[.int .i64 v, .int .i64 c]) ∧ DegT (negB s) (bodyOf s) (ptOf (bodyOf s)) v c ∧ Below w.heap.size w w' := by
  have hb := body_size s
  cases h : negB s with
  | true => exact deg_true s _ w m hm (by omega) rfl (by omega) h
  | false => exact deg_false s _ w m hm (by omega) rfl (by omega) h
end Gp
end Go.Proofs.YtaghilgfldaaiaaGreatDoor
/-
  The chapter's examples: alive returns true.
-/
namespace Go.Proofs.YtaghilgfldaaiaaGreatDoor
namespace Gt
open Go.RowKit Lw Gp

instance (s : ByteArray) : Decidable (shapeP s) := by unfold shapeP; infer_instance
instance (s : ByteArray) : Decidable (validP s) := by unfold validP; infer_instance
instance (t : ByteArray) (p : Nat) : Decidable (formP t p) := by unfold formP; infer_instance
instance (neg : Bool) (D F : Int) : Decidable (numP neg D F) := by unfold numP; infer_instance
instance (s : ByteArray) : Decidable (signP s) := by unfold signP; infer_instance
instance (s : ByteArray) : Decidable (decOk s) := by unfold decOk; infer_instance
instance (s : ByteArray) (v e : Int) : Decidable (RaIs s v e) := by unfold RaIs; infer_instance
instance (s : ByteArray) (v e : Int) : Decidable (DecIs s v e) := by unfold DecIs; infer_instance
instance (neg : Bool) (t : ByteArray) (p : Nat) (v e : Int) : Decidable (DegT neg t p v e) := by unfold DegT; infer_instance

theorem itoa_one (n : Nat) (h : n < 10) : Lib.itoa (n : Int) = [UInt8.ofNat (48 + n)] := by
  unfold Lib.itoa
  rw [if_neg (by omega), Int.toNat_natCast, Lib.decDigits_one h]
theorem itoa_two (n : Nat) (h1 : ¬ n < 10) (h : n < 100) : Lib.itoa (n : Int) = [UInt8.ofNat (48 + n / 10), UInt8.ofNat (48 + n % 10)] := by
  unfold Lib.itoa
  rw [if_neg (by omega), Int.toNat_natCast, Lib.decDigits_two h1 h]
theorem itoa_three (n : Nat) (h1 : ¬ n < 100) (h : n < 1000) : Lib.itoa (n : Int) = [UInt8.ofNat (48 + n / 10 / 10), UInt8.ofNat (48 + n / 10 % 10), UInt8.ofNat (48 + n % 10)] := by
  unfold Lib.itoa
  rw [if_neg (by omega), Int.toNat_natCast, Lib.decDigits, dif_neg (by omega), Lib.decDigits_two (by omega) (by omega)]
  rfl
theorem i0 : Lib.itoa 0 = [48] := itoa_one 0 (by omega)
theorem i1 : Lib.itoa 1 = [49] := itoa_one 1 (by omega)
/-- What the calls need of memory: the table, and the library's cell. -/
structure AS (m : Int) (w w' : World) : Prop where
  ts : TS w w'
  cell : w'.cell? ⟨1, 0, none⟩ = some (.int .i64 m)
theorem AS.call {m : Int} {w a b : World} (h : AS m w a) (hb : Below a.heap.size a b) : AS m w b :=
  ⟨h.ts.call hb, (hb.cell (p := ⟨1, 0, none⟩) (World.block_lt_of_cell? a _ h.cell)).trans h.cell⟩
end Gt
end Go.Proofs.YtaghilgfldaaiaaGreatDoor
/-
  A text of degrees is read as its angle.
-/
namespace Go.Proofs.YtaghilgfldaaiaaGreatDoor
namespace Gt
open Go.RowKit Lw Gp

theorem dig_no (n : Nat) (h : n < 10) : noPt (UInt8.ofNat (48 + n)) = true := decide_eq_true (by rw [u8_of n h]; omega)
/-- The digits of a number below a hundred. -/
theorem dd_small (D : Nat) (h : D < 100) : ∃ (x : UInt8) (l : List UInt8), Lib.itoa (D : Int) = x :: l ∧ l.length ≤ 1 ∧ (∀ c ∈ x :: l, noPt c = true) ∧ ¬ ((x.toNat : Nat) : Int) = 45 ∧ ((x :: l).length ≤ 1 ∨ ¬ ((x.toNat : Nat) : Int) = 48) := by
  by_cases g : D < 10
  · refine ⟨_, [], itoa_one D g, by simp, fun c hc => ?_, by rw [u8_of D g]; omega, Or.inl (by simp)⟩
    rw [List.mem_singleton.1 hc]
    exact dig_no D g
  · refine ⟨_, _, itoa_two D g h, by simp, fun c hc => ?_, by rw [u8_of (D / 10) (by omega)]; omega, Or.inr (by rw [u8_of (D / 10) (by omega)]; omega)⟩
    rcases List.mem_cons.1 hc with rfl | hc
    · exact dig_no _ (by omega)
    · rw [List.mem_singleton.1 hc]
      exact dig_no _ (by omega)
theorem tw_app (l r : List UInt8) (h : ∀ c ∈ l, noPt c = true) : ((l ++ 46 :: r).takeWhile noPt) = l := by
  induction l with
  | nil => rfl
  | cons a l ih =>
    rw [List.cons_append, List.takeWhile_cons, if_pos (h a (by simp)), ih (fun c hc => h c (by simp [hc]))]
end Gt
end Go.Proofs.YtaghilgfldaaiaaGreatDoor
/-
  Texts of degrees with nine digits: plain laws of reading them back.
-/
namespace Go.Proofs.YtaghilgfldaaiaaGreatDoor
namespace Vp
open Go.RowKit Lw Gp Gt

/-- The digits of a number below a thousand. -/
theorem dd_thousand (D : Nat) (h : D < 1000) : ∃ (x : UInt8) (l : List UInt8), Lib.itoa (D : Int) = x :: l ∧ l.length ≤ 2 ∧ (∀ c ∈ x :: l, noPt c = true) ∧ ¬ ((x.toNat : Nat) : Int) = 45 ∧ ((x :: l).length ≤ 1 ∨ ¬ ((x.toNat : Nat) : Int) = 48) := by
  by_cases g : D < 100
  · obtain ⟨x, l, e, ll, h1, h2, h3⟩ := dd_small D g
    exact ⟨x, l, e, by omega, h1, h2, h3⟩
  · refine ⟨_, _, itoa_three D g h, by simp, fun c hc => ?_, by rw [u8_of (D / 10 / 10) (by omega)]; omega, Or.inr (by rw [u8_of (D / 10 / 10) (by omega)]; omega)⟩
    rcases List.mem_cons.1 hc with rfl | hc
    · exact dig_no _ (by omega)
    · rcases List.mem_cons.1 hc with rfl | hc
      · exact dig_no _ (by omega)
      · rw [List.mem_singleton.1 hc]
        exact dig_no _ (by omega)
/-- A text of degrees up to a whole turn, without its sign. -/
theorem degB_wide (neg : Bool) (N d : Nat) (h1 : 1 ≤ d) (hd : d ≤ 9) (hN : N ≤ 360 * 10 ^ d) (hneg : neg = true → 0 < N) :
    DegT neg ⟨(degB N d).toArray⟩ (ptOf ⟨(degB N d).toArray⟩) (sgnI neg (((N / 10 ^ d : Nat) : Int) * 3600000000 + fracI ((N % 10 ^ d : Nat) : Int) d)) 0 ∧ (∃ x l, degB N d = x :: l ∧ ¬ ((x.toNat : Nat) : Int) = 45) ∧ (degB N d).length ≤ d + 4 := by
  have hp : 1 ≤ 10 ^ d := Nat.pow_pos (by omega)
  have hr := Nat.mod_lt N hp
  have hdm := Nat.div_add_mod N (10 ^ d)
  have h360 : N / 10 ^ d ≤ 360 := Nat.div_le_of_le_mul (by rw [Nat.mul_comm]; exact hN)
  have hfull : N / 10 ^ d = 360 → N % 10 ^ d = 0 := fun e => by
    rw [e, Nat.mul_comm] at hdm
    omega
  obtain ⟨x, l, e, ll, hno, h45, h48⟩ := dd_thousand (N / 10 ^ d) (by omega)
  have nD := itoa_num (N / 10 ^ d)
  have nF := pad_num (N % 10 ^ d) d
  have lF := pad_size (N % 10 ^ d) d h1 hr
  have K : degB N d = (x :: l) ++ 46 :: padL ((N % 10 ^ d : Nat) : Int) d := by unfold degB; rw [e]
  obtain ⟨D, eD⟩ : ∃ D, N / 10 ^ d = D := ⟨_, rfl⟩
  obtain ⟨F, eF⟩ : ∃ F, N % 10 ^ d = F := ⟨_, rfl⟩
  rw [eF] at nF lF K hr hdm hfull
  rw [eD] at nD e h360 hdm hfull
  rw [eD, eF]
  rw [e] at nD
  generalize padL (F : Int) d = q at *
  have hl : (x :: l).length = l.length + 1 := rfl
  have pt : ptOf ⟨(degB N d).toArray⟩ = l.length + 1 := by
    show (((⟨(degB N d).toArray⟩ : ByteArray).data.toList).takeWhile noPt).length = _
    rw [mk_list, K, tw_app _ _ hno]; rfl
  have lK : (degB N d).length = l.length + 1 + 1 + d := by rw [K]; simp only [List.length_append, List.length_cons, lF]; omega
  have sz : (⟨(degB N d).toArray⟩ : ByteArray).size = l.length + 1 + 1 + d := by rw [size_mk, lK]
  have hD : degD ⟨(degB N d).toArray⟩ (l.length + 1) = D := by
    unfold degD
    have : ((⟨(degB N d).toArray⟩ : ByteArray).extract 0 (l.length + 1)).data.toList = x :: l := by
      have e1 : ((⟨(degB N d).toArray⟩ : ByteArray).extract 0 (l.length + 1)).data.toList = ((⟨(degB N d).toArray⟩ : ByteArray).data.toList).take (l.length + 1) := by simp
      rw [e1, mk_list, K, List.take_append_of_le_length (by simp)]
      exact List.take_of_length_le (by simp)
    rw [this]
    unfold numV
    rw [if_pos nD.2, nD.1]
  have hF : degF ⟨(degB N d).toArray⟩ (l.length + 1) = F := by
    unfold degF
    rw [Lib.extract_to_end, mk_list, K]
    have e1 : ((x :: l) ++ 46 :: q).drop (l.length + 1 + 1) = q := by simp
    rw [e1, nF]
  have g0 : ∀ (y : UInt8) (r : List UInt8), degB N d = y :: r → (⟨(degB N d).toArray⟩ : ByteArray).get! 0 = y := fun y r h => by rw [h, get0]
  have gx := g0 x (l ++ 46 :: q) (by rw [K]; rfl)
  refine ⟨?_, ⟨x, l ++ 46 :: q, by rw [K]; rfl, h45⟩, by omega⟩
  rw [pt]
  refine Or.inl ⟨⟨by omega, by omega, by omega, by omega, ?_⟩, ?_, ?_, rfl⟩
  · rw [gx]
    rcases h48 with h | h
    · exact Or.inl (by omega)
    · exact Or.inr h
  · rw [hD, hF]
    refine ⟨by omega, by omega, by omega, ?_, ?_⟩
    · by_cases z : D = 360
      · exact Or.inr (by have := hfull z; omega)
      · exact Or.inl (by omega)
    · cases neg with
      | false => exact Or.inl rfl
      | true =>
        have := hneg rfl
        by_cases z : D = 0
        · refine Or.inr (Or.inr ?_)
          rw [z, Nat.mul_zero] at hdm
          omega
        · exact Or.inr (Or.inl (by omega))
  · rw [hD, hF, sz, show l.length + 1 + 1 + d - (l.length + 1 + 1) = d by omega]
/-- The units of a text with nine digits, and the size of what is read from it. -/
def unN (m : Nat) : Nat := rndN (m * 5) 18
def unV (N : Nat) : Nat := N / 10 ^ 9 * 3600000000 + rndN (N % 10 ^ 9 * 18) 5
/-- What an angle is behind writing and reading it with nine digits. -/
def dgR (a : Int) : Int := if a < 0 ∧ 0 < unN a.natAbs then -((unV (unN a.natAbs) : Nat) : Int) else ((unV (unN a.natAbs) : Nat) : Int)
theorem un_le {m : Nat} (h : m ≤ 1296000000000) : unN m ≤ 360000000000 := by
  have := rnd_half (m * 5) 18 (by omega)
  unfold unN
  omega
theorem un_half (m : Nat) : 2 * ((unN m : Int) * 18 - (m : Int) * 5) ≤ 18 ∧ -18 ≤ 2 * ((unN m : Int) * 18 - (m : Int) * 5) := by
  have := rnd_half (m * 5) 18 (by omega)
  unfold unN
  omega
theorem uv_half (N : Nat) : 2 * ((unV N : Int) * 5 - (N : Int) * 18) ≤ 5 ∧ -5 ≤ 2 * ((unV N : Int) * 5 - (N : Int) * 18) := by
  have := rnd_half (N % 10 ^ 9 * 18) 5 (by omega)
  unfold unV
  have e := Nat.div_add_mod N (10 ^ 9)
  omega
theorem un_again (N : Nat) : unN (unV N) = N := by
  have h1 := uv_half N
  have h2 := un_half (unV N)
  omega
theorem uv_zero : unV 0 = 0 := by have := uv_half 0; omega
theorem uv_pos {N : Nat} (h : 0 < N) : 0 < unV N := by have := uv_half N; omega
/-- Rounding turns an angle by at most two. -/
theorem dg_near (a : Int) : dgR a - a ≤ 2 ∧ -2 ≤ dgR a - a := by
  have h1 := un_half a.natAbs
  have h2 := uv_half (unN a.natAbs)
  unfold dgR
  split
  · omega
  · rename_i g
    by_cases z : a < 0
    · have e : unN a.natAbs = 0 := by
        rcases Nat.eq_zero_or_pos (unN a.natAbs) with h | h
        · exact h
        · exact absurd ⟨z, h⟩ g
      have e2 := uv_zero
      rw [e] at h1 ⊢
      omega
    · omega
theorem dg_again (a : Int) : dgR (dgR a) = dgR a := by
  have key : ∀ N : Nat, dgR ((unV N : Nat) : Int) = ((unV N : Nat) : Int) := fun N => by
    unfold dgR
    rw [if_neg (by omega), Int.natAbs_natCast, un_again]
  by_cases g : a < 0 ∧ 0 < unN a.natAbs
  · have e : dgR a = -((unV (unN a.natAbs) : Nat) : Int) := if_pos g
    rw [e]
    have p := uv_pos g.2
    unfold dgR
    rw [Int.natAbs_neg, Int.natAbs_natCast, un_again, if_pos ⟨by omega, g.2⟩]
  · have e : dgR a = ((unV (unN a.natAbs) : Nat) : Int) := if_neg g
    rw [e]
    exact key _
theorem dg_bd {a : Int} {m : Nat} (h : unN m * 18 = m * 5) (h0 : -(m : Int) ≤ a) (h1 : a ≤ m) : -(m : Int) ≤ dgR a ∧ dgR a ≤ m := by
  have n1 := un_half a.natAbs
  have n2 := uv_half (unN a.natAbs)
  have le : unN a.natAbs ≤ unN m := by omega
  have : unV (unN a.natAbs) ≤ m := by omega
  unfold dgR
  split <;> omega
theorem dg_pole {a : Int} (h0 : -324000000000 ≤ a) (h1 : a ≤ 324000000000) : -324000000000 ≤ dgR a ∧ dgR a ≤ 324000000000 := dg_bd (m := 324000000000) (by decide +kernel) h0 h1
theorem dg_turn {a : Int} (h0 : 0 ≤ a) (h1 : a ≤ 1296000000000) : 0 ≤ dgR a ∧ dgR a ≤ 1296000000000 := by
  have := dg_bd (a := a) (m := 1296000000000) (by decide +kernel) (by omega) h1
  refine ⟨?_, this.2⟩
  unfold dgR
  rw [if_neg (by omega)]
  omega
theorem un_frac (N : Nat) : ((N / 10 ^ 9 : Nat) : Int) * 3600000000 + fracI ((N % 10 ^ 9 : Nat) : Int) 9 = ((unV N : Nat) : Int) := by
  rw [frac_9]
  unfold unV
  generalize N / 10 ^ 9 = D
  generalize N % 10 ^ 9 = F
  have fe := rndN_eq (F * 18) 5
  have fc : (F : Int) * 18 = ((F * 18 : Nat) : Int) := by simp
  have f5 : rndI ((F * 18 : Nat) : Int) 5 = ((rndN (F * 18) 5 : Nat) : Int) := fe.symm
  rw [fc, f5]
  generalize rndN (F * 18) 5 = y
  omega
/-- The text of degrees with nine digits is read. -/
theorem deg_read (a : Int) (h0 : -1296000000000 ≤ a) (h1 : a ≤ 1296000000000) : DegT (negB ⟨(degL a 9).toArray⟩) (bodyOf ⟨(degL a 9).toArray⟩) (ptOf (bodyOf ⟨(degL a 9).toArray⟩)) (dgR a) 0 ∧ (degL a 9).length ≤ 14 := by
  obtain ⟨m, em⟩ : ∃ m : Nat, a.natAbs = m := ⟨_, rfl⟩
  have eN : degN m 9 = unN m := if_pos (by omega)
  have nl := un_le (show m ≤ 1296000000000 by omega)
  have eV := un_frac (unN m)
  unfold degL dgR
  rw [em, eN]
  clear eN em
  obtain ⟨N, hN⟩ : ∃ N, unN m = N := ⟨_, rfl⟩
  rw [hN] at eV nl ⊢
  obtain ⟨V, hV⟩ : ∃ V : Int, ((unV N : Nat) : Int) = V := ⟨_, rfl⟩
  rw [hV] at eV ⊢
  clear hN hV
  by_cases g : a < 0 ∧ 0 < N
  · rw [if_pos g, if_pos g]
    obtain ⟨H, _, hl⟩ := degB_wide true N 9 (by omega) (by omega) (by omega) (fun _ => g.2)
    have hn : negP ⟨(45 :: degB N 9).toArray⟩ := ⟨by rw [size_mk]; simp, by rw [get0]; rfl⟩
    have e1 : negB ⟨(45 :: degB N 9).toArray⟩ = true := decide_eq_true hn
    have e2 : bodyOf ⟨(45 :: degB N 9).toArray⟩ = ⟨(degB N 9).toArray⟩ := by
      have := tail_mk 45 (degB N 9)
      unfold tailOf at this
      unfold bodyOf
      rw [if_pos hn, this]
    rw [e1, e2]
    rw [eV] at H
    exact ⟨H, by simp only [List.length_cons]; omega⟩
  · rw [if_neg g, if_neg g]
    obtain ⟨H, ⟨x, l, ex, h45⟩, hl⟩ := degB_wide false N 9 (by omega) (by omega) (by omega) (fun h => by cases h)
    have hn : ¬ negP ⟨(degB N 9).toArray⟩ := fun h => h45 (by
      have := h.2
      rw [ex, get0] at this
      exact this)
    have e1 : negB ⟨(degB N 9).toArray⟩ = false := decide_eq_false hn
    have e2 : bodyOf ⟨(degB N 9).toArray⟩ = ⟨(degB N 9).toArray⟩ := if_neg hn
    rw [e1, e2]
    rw [eV] at H
    exact ⟨H, by omega⟩
end Vp
end Go.Proofs.YtaghilgfldaaiaaGreatDoor
/-
  Plain laws: ToUtc and FromUtc are inverse, and later times have later dates.
-/
namespace Go.Proofs.YtaghilgfldaaiaaGreatDoor
namespace Mp

/-- The date of a time is a date, and its time is the time. -/
theorem to_from {t n y m z k : Int} (hd : DayOf t n y m z k) :
    fromOk y m (n - mo y m + 1) (mins (t - bgv n y m) / 60) (mins (t - bgv n y m) % 60) ((t - bgv n y m) / 1000000 - 60 * mins (t - bgv n y m)) ((t - bgv n y m) % 1000000) ∧
    timeOf y m (n - mo y m + 1) (mins (t - bgv n y m) / 60) (mins (t - bgv n y m) % 60) ((t - bgv n y m) / 1000000 - 60 * mins (t - bgv n y m)) ((t - bgv n y m) % 1000000) = t := by
  have hw : wholeP y m (n - mo y m + 1) := ⟨hd.y1, by have := hd.y2; omega, hd.ym.m1, hd.ym.m12, by have := hd.ym.lo; omega, by have := hd.ym.hi; omega⟩
  have e : dn y m (n - mo y m + 1) = n := by rw [dn_mo]; omega
  have dl := day_len (z := z) (k := k) hw (by rw [e]; exact hd.zk)
  rw [e] at dl
  obtain ⟨p0, p1⟩ := hd.pass
  have hi := hd.hi
  obtain ⟨p, hp⟩ : ∃ p, t - bgv n y m = p := ⟨_, rfl⟩
  rw [hp] at p0 p1 ⊢
  have mb : 0 ≤ mins p ∧ mins p ≤ 1439 := by unfold mins; split <;> omega
  constructor
  · refine ⟨hw, by omega, by omega, by omega, by omega, ?_, by omega, by omega, ?_⟩
    · unfold mins; split <;> omega
    · by_cases c : p / 1000000 / 60 ≤ 1439
      · left
        have em : mins p = p / 1000000 / 60 := if_pos c
        rw [em]; omega
      · right
        have em : mins p = 1439 := if_neg c
        rw [em]
        refine ⟨by omega, by omega, by omega, ?_⟩
        rcases dl with ⟨a, _⟩ | ⟨_, b⟩
        · omega
        · exact b
  · unfold timeOf
    rw [e]
    omega
/-- The time of a date has the date. -/
theorem from_to {y m d h i s u : Int} (ok : fromOk y m d h i s u) : ∃ z k, DayOf (timeOf y m d h i s u) (dn y m d) y m z k ∧
    d = dn y m d - mo y m + 1 ∧ h = mins (timeOf y m d h i s u - bgv (dn y m d) y m) / 60 ∧ i = mins (timeOf y m d h i s u - bgv (dn y m d) y m) % 60 ∧
    s = (timeOf y m d h i s u - bgv (dn y m d) y m) / 1000000 - 60 * mins (timeOf y m d h i s u - bgv (dn y m d) y m) ∧ u = (timeOf y m d h i s u - bgv (dn y m d) y m) % 1000000 := by
  obtain ⟨hw, h1, h2, h3, h4, h5, h6, h7, h8⟩ := ok
  have wr := wholeP_range hw
  obtain ⟨z, k, z1, z2, zk⟩ := ym_ex (dn y m d + 1) (by omega) (by omega)
  have dl := day_len hw zk
  have ep : timeOf y m d h i s u - bgv (dn y m d) y m = (3600 * h + 60 * i + s) * 1000000 + u := by unfold timeOf; omega
  refine ⟨z, k, ⟨wholeP_ym hw, zk, by omega, ?_, by omega, by omega, hw.1, by have := hw.2.1; omega⟩, by rw [dn_mo]; omega, ?_⟩
  · rcases h8 with c | ⟨c1, c2, c3, c4⟩
    · rcases dl with ⟨a, _⟩ | ⟨a, _⟩ <;> omega
    · rcases dl with ⟨_, b⟩ | ⟨a, _⟩
      · exact absurd c4 b
      · omega
  · rw [ep]
    rcases h8 with c | ⟨c1, c2, c3, c4⟩
    · have em : mins ((3600 * h + 60 * i + s) * 1000000 + u) = 60 * h + i := by
        unfold mins
        rw [if_pos (by omega)]
        omega
      rw [em]; omega
    · subst c1 c2 c3
      have em : mins ((3600 * 23 + 60 * 59 + 60) * 1000000 + u) = 1439 := by
        unfold mins
        rw [if_neg (by omega)]
      rw [em]; omega
theorem ToIs.back {t y m d h i s u : Int} (a : ToIs t y m d h i s u 0) : FromIs y m d h i s u t 0 := by
  rcases a with ⟨_, _, _, _, _, _, _, _, c⟩ | ⟨a1, a2, n, z, k, hd, rfl, rfl, rfl, rfl, rfl, _⟩
  · omega
  · obtain ⟨b1, b2⟩ := to_from hd
    exact Or.inl ⟨b1, b2.symm, rfl⟩
theorem FromIs.back {t y m d h i s u : Int} (a : FromIs y m d h i s u t 0) : ToIs t y m d h i s u 0 := by
  rcases a with ⟨ok, rfl, _⟩ | ⟨_, _, c⟩
  · obtain ⟨z, k, hd, e1, e2, e3, e4, e5⟩ := from_to ok
    refine Or.inr ⟨?_, ?_, dn y m d, z, k, hd, e1, e2, e3, e4, e5, rfl⟩
    · have := bgv_mono hd.ym ym_72 hd.n1; have := hd.lo; omega
    · have := bgv_mono ym_00 hd.zk (by have := hd.n2; omega); have := hd.hi; omega
  · omega
theorem DayOf.bd {t n y m z k : Int} (h : DayOf t n y m z k) : -1000000000000000 ≤ t ∧ t ≤ 4000000000000000 := by
  have a := bgv_bd n y m (by have := h.n1; omega) (by have := h.n2; omega)
  have b := bgv_bd (n + 1) z k (by have := h.n1; omega) (by have := h.n2; omega)
  have := h.lo
  have := h.hi
  omega
theorem FromIs.bd {t y m d h i s u c : Int} (a : FromIs y m d h i s u t c) : -1000000000000000 ≤ t ∧ t ≤ 4000000000000000 := by
  rcases a with ⟨ok, rfl, _⟩ | ⟨_, rfl, c⟩
  · obtain ⟨z, k, hd, _⟩ := from_to ok
    exact hd.bd
  · omega
theorem ToIs.bd {t y m d h i s u : Int} (a : ToIs t y m d h i s u 0) : -1000000000000000 ≤ t ∧ t ≤ 4000000000000000 := a.back.bd
/-! ### The order of dates -/
/-! ### Months -/
end Mp
end Go.Proofs.YtaghilgfldaaiaaGreatDoor
/-
  Reading digits: number of the reference.
-/
namespace Go.Proofs.YtaghilgfldaaiaaGreatDoor
namespace Ap
open Go.RowKit Lw

def numL (l : List UInt8) : Int := l.foldl (fun n c => 10 * n + ((c.toNat : Int) - 48)) 0
def allD (l : List UInt8) : Prop := ∀ c ∈ l, 48 ≤ (c.toNat : Int) ∧ (c.toNat : Int) ≤ 57
instance (l : List UInt8) : Decidable (allD l) := by unfold allD; infer_instance
/-- The number that a string of digits is, or -1. -/
def numV (l : List UInt8) : Int := if allD l then numL l else -1
theorem numL_snoc (l : List UInt8) (c : UInt8) : numL (l ++ [c]) = 10 * numL l + ((c.toNat : Int) - 48) := by simp [numL]
theorem allD_snoc {l : List UInt8} {c : UInt8} (h : allD l) (h1 : 48 ≤ (c.toNat : Int)) (h2 : (c.toNat : Int) ≤ 57) : allD (l ++ [c]) := fun x hx => by
  rcases List.mem_append.1 hx with g | g
  · exact h x g
  · have := List.mem_singleton.1 g; subst this; exact ⟨h1, h2⟩
theorem take_snoc (s : ByteArray) (k : Nat) (h : k < s.size) : s.data.toList.take (k + 1) = s.data.toList.take k ++ [s[k]] := by
  rw [List.take_succ_eq_append_getElem (by simpa using h)]; rfl
theorem take_all (s : ByteArray) (k : Nat) (h : ¬ k < s.size) : s.data.toList.take k = s.data.toList := List.take_of_length_le (by simp; omega)
theorem numL_bd (l : List UInt8) : ∀ k, k ≤ l.length → allD (l.take k) → 0 ≤ numL (l.take k) ∧ numL (l.take k) < 10 ^ k
  | 0, _, _ => by simp [numL]
  | k + 1, hk, h => by
    have e : l.take (k + 1) = l.take k ++ [l[k]] := List.take_succ_eq_append_getElem (by omega)
    rw [e] at h ⊢
    have ih := numL_bd l k (by omega) (fun x hx => h x (List.mem_append_left _ hx))
    have hc := h l[k] (List.mem_append_right _ (List.mem_singleton.2 rfl))
    rw [numL_snoc, Int.pow_succ]
    omega
theorem pow_17 : ∀ k : Nat, k < 18 → (10 : Int) ^ k ≤ 100000000000000000 := by decide
theorem numL_17 (s : ByteArray) (k : Nat) (hk : k ≤ s.size) (h18 : k < 18) (h : allD (s.data.toList.take k)) : 0 ≤ numL (s.data.toList.take k) ∧ numL (s.data.toList.take k) < 100000000000000000 := by
  have := numL_bd s.data.toList k (by simpa using hk) h
  have := pow_17 k h18
  omega
theorem numV_not (s : ByteArray) (k : Nat) (hk : k < s.size) (h : ¬ (48 ≤ (s[k].toNat : Int) ∧ (s[k].toNat : Int) ≤ 57)) : numV s.data.toList = -1 := by
  unfold numV
  rw [if_neg]
  intro g
  exact h (g s[k] (by
    have : s[k] = s.data.toList[k]'(by simpa using hk) := rfl
    rw [this]; exact List.getElem_mem _))
theorem numV_all (s : ByteArray) (k : Nat) (hk : ¬ k < s.size) (h : allD (s.data.toList.take k)) : numL (s.data.toList.take k) = numV s.data.toList := by
  rw [take_all s k hk] at h ⊢
  unfold numV
  rw [if_pos h]
theorem byte_bd (b : UInt8) : 0 ≤ (b.toNat : Int) ∧ (b.toNat : Int) < 256 := by have := b.toNat_lt; omega
theorem ret_i {a b : Int} (h : a = b) : Ending.returned (.int .i64 a) = .returned (.int .i64 b) := by rw [h]
theorem val_i {a b : Int} (h : a = b) : Value.int .i64 a = .int .i64 b := by rw [h]
end Ap
end Go.Proofs.YtaghilgfldaaiaaGreatDoor
/-
  Powers of ten: package moment and the reference.
-/
namespace Go.Proofs.YtaghilgfldaaiaaGreatDoor
namespace Ap
open Go.RowKit Lw

/-- A power of ten. -/
def tenI (k : Nat) : Int := (10 ^ k : Nat)
theorem tenI_s (k : Nat) : tenI (k + 1) = tenI k * 10 := by unfold tenI; rw [Nat.pow_succ]; omega
theorem tenI_bd : ∀ k : Nat, k ≤ 18 → 1 ≤ tenI k ∧ tenI k ≤ 1000000000000000000 := by decide
theorem tenI_17 : ∀ k : Nat, k < 18 → 1 ≤ tenI k ∧ tenI k ≤ 100000000000000000 := by decide

end Ap
end Go.Proofs.YtaghilgfldaaiaaGreatDoor
/-
  Texts of numbers: pad of package moment, digitsOf of the reference, and the digits that both write.
-/
namespace Go.Proofs.YtaghilgfldaaiaaGreatDoor
namespace At
open Go.RowKit Lw Ap

theorem gPow : Tryz.prog.globalNamed "internal/strconv.uint64pow10" = some 0 := by kernel_rfl
/-- The library's table of powers of ten holds what its initialiser lays. -/
def Tab (w : World) : Prop := Lib.TabIs Tryz.prog w "internal/strconv.uint64pow10" .u64 Lib.pow10Tab
theorem Tab.below {w w' : World} (h : Tab w) (hb : Below w.heap.size w w') : Tab w' := Joins.tab_stays gPow h hb (Nat.le_refl _)

/-- A number with at least so many digits. -/
def padL (n : Int) (d : Nat) : List UInt8 := Lib.repeatL [48] (d - (Lib.itoa n).length) ++ Lib.itoa n
theorem below_grow (w : World) (k : Nat) (os : Array Obj) : Below w.heap.size w (Go.Sort.grow (w.drewN k) os) :=
  ⟨rfl, rfl, rfl, by simp [Go.Sort.grow, World.drewN], fun j hj => by
    show (w.heap ++ os)[j]? = w.heap[j]?
    rw [Array.getElem?_append_left hj]⟩
theorem rep_len (k : Nat) : (Lib.repeatL [48] k).length = k := by
  induction k with
  | zero => rfl
  | succ k ih => simp_all [Lib.repeatL]
theorem str_app (a b : List UInt8) : ((⟨a.toArray⟩ : ByteArray) ++ ⟨b.toArray⟩) = ⟨(a ++ b).toArray⟩ := by
  apply ByteArray.ext
  simp [ByteArray.data_append]

set_option maxRecDepth 100000 in
theorem pad_any (n : Int) (d : Nat) (w : World) (hT : Tab w) (h0 : 0 ≤ n) (h1 : n ≤ 1000000000000000000) (hd : d ≤ 20) :
    Calls Tryz.prog 123 #[.int .i64 n, .int .i64 d] w fun e w' => e = .returned (.string ⟨(padL n d).toArray⟩) ∧ Below w.heap.size w w' := by
  have hl := Lib.itoa_length_le n (by omega) (by omega)
  have F := Lib.hid (Tryz.strconv_FormatInt_10 n (by omega) (by omega) w hT)
  have hp : padL n d = Lib.repeatL [48] (d - (Lib.itoa n).length) ++ Lib.itoa n := rfl
  have hp := Lib.hid hp
  have sz : (⟨(Lib.itoa n).toArray⟩ : ByteArray).size = (Lib.itoa n).length := by simp [ByteArray.size]
  generalize Lib.itoa n = L at *
  go_enter Tryz.func123, Tryz.ntmps123
  go_wp2_with fail
  go_at_call 71
  refine F.out.mono ?_
  rintro e w1 ⟨rfl, k, os, hw⟩
  have hB1 : Below w.heap.size w w1 := by rw [hw]; exact below_grow w k os
  clear F hw hT
  have em : max (0 : Int) (↑d - ↑L.length) = ((d - L.length : Nat) : Int) := by omega
  have R := Lib.hid (Tryz.strings_Repeat ⟨#[48]⟩ (d - L.length) w1 (by omega) (by show 1 * _ ≤ _; omega))
  have rl := rep_len (d - L.length)
  have ls : (⟨#[48]⟩ : ByteArray).data.toList = [48] := rfl
  rw [ls] at R
  go_wp2_with fail
  go_at_call 176
  refine R.out.mono ?_
  rintro e w2 ⟨rfl, hB2⟩
  have hB := below_then hB1 hB2
  have sa := str_app (Lib.repeatL [48] (d - L.length)) L
  generalize Lib.repeatL [48] (d - L.length) = Q at *
  clear R em ls hB1 hB2
  go_wp2_with fail
  go_ret
  exact ⟨by rw [hp.out]; rfl, hB⟩
theorem u8_of (n : Nat) (h : n < 10) : (((UInt8.ofNat (48 + n)).toNat : Nat) : Int) = 48 + n := by
  rw [UInt8.toNat_ofNat']
  omega
theorem dd_num (u : Nat) : numL (Lib.decDigits u) = u ∧ allD (Lib.decDigits u) := by
  induction u using Nat.strongRecOn with
  | _ u ih =>
    by_cases h : u < 10
    · rw [Lib.decDigits_one h]
      have e := u8_of u h
      refine ⟨by unfold numL; simp only [List.foldl_cons, List.foldl_nil]; omega, fun c hc => ?_⟩
      rw [List.mem_singleton.1 hc]
      omega
    · rw [Lib.decDigits, dif_neg h]
      obtain ⟨h1, h2⟩ := ih (u / 10) (by omega)
      have e := u8_of (u % 10) (Nat.mod_lt _ (by omega))
      exact ⟨by rw [numL_snoc, h1]; omega, allD_snoc h2 (by omega) (by omega)⟩
theorem itoa_num (r : Nat) : numL (Lib.itoa (r : Int)) = r ∧ allD (Lib.itoa (r : Int)) := by
  unfold Lib.itoa
  rw [if_neg (by omega), Int.toNat_natCast]
  exact dd_num r
theorem rep_num (k : Nat) : numL (Lib.repeatL [48] k) = 0 ∧ allD (Lib.repeatL [48] k) := by
  induction k with
  | zero => exact ⟨rfl, fun c hc => by simp [Lib.repeatL] at hc⟩
  | succ k ih =>
    have e : Lib.repeatL [48] (k + 1) = 48 :: Lib.repeatL [48] k := rfl
    rw [e]
    refine ⟨?_, fun c hc => ?_⟩
    · have := ih.1
      unfold numL at this ⊢
      rw [List.foldl_cons]
      exact this
    · rcases List.mem_cons.1 hc with rfl | g
      · decide
      · exact ih.2 c g
theorem pad_num (r d : Nat) : numV (padL (r : Int) d) = r := by
  have h1 := itoa_num r
  have h2 := rep_num (d - (Lib.itoa (r : Int)).length)
  have hA : allD (padL (r : Int) d) := fun c hc => by
    rcases List.mem_append.1 hc with g | g
    · exact h2.2 c g
    · exact h1.2 c g
  unfold numV
  rw [if_pos hA]
  unfold padL numL
  rw [List.foldl_append]
  have e2 := h2.1
  have e1 := h1.1
  unfold numL at e1 e2
  rw [e2, e1]
theorem nd_le : ∀ (d r : Nat), r < 10 ^ (d + 1) → Lib.nDigits r ≤ d + 1
  | 0, r, h => by rw [Lib.nDigits_small (by simpa using h)]; exact Nat.le_refl _
  | d + 1, r, h => by
    by_cases g : r < 10
    · rw [Lib.nDigits_small g]; omega
    · rw [Lib.nDigits_big g]
      have := nd_le d (r / 10) (by rw [Nat.pow_succ] at h; omega)
      omega
theorem pad_size (r d : Nat) (hd : 1 ≤ d) (h : r < 10 ^ d) : (padL (r : Int) d).length = d := by
  obtain ⟨k, rfl⟩ : ∃ k, d = k + 1 := ⟨d - 1, by omega⟩
  have h1 := nd_le k r h
  have hl : (Lib.itoa (r : Int)).length = Lib.nDigits r := by
    unfold Lib.itoa
    rw [if_neg (by omega), Int.toNat_natCast, Lib.decDigits_length]
  unfold padL
  rw [List.length_append, rep_len, hl]
  omega
/-- The digit of a number below ten. -/
def dg (m : Nat) : UInt8 := UInt8.ofNat (48 + m)
theorem dg_of (n : Nat) (h : n < 10) : (((dg n).toNat : Nat) : Int) = 48 + n := u8_of n h
/-- The last digits of a number. -/
def decL : Nat → Nat → List UInt8
  | _, 0 => []
  | n, k + 1 => decL (n / 10) k ++ [dg (n % 10)]
theorem decL_len : ∀ k n, (decL n k).length = k
  | 0, _ => rfl
  | k + 1, n => by rw [decL, List.length_append, decL_len k]; rfl
theorem decL_num : ∀ k n, numL (decL n k) = ((n % 10 ^ k : Nat) : Int) ∧ allD (decL n k)
  | 0, n => ⟨by simp [decL, numL, Nat.mod_one], fun c hc => by simp [decL] at hc⟩
  | k + 1, n => by
    obtain ⟨h1, h2⟩ := decL_num k (n / 10)
    have e := dg_of (n % 10) (Nat.mod_lt _ (by omega))
    refine ⟨?_, allD_snoc h2 (by omega) (by omega)⟩
    rw [decL, numL_snoc, h1, Nat.pow_succ, Nat.mul_comm (10 ^ k) 10, Nat.mod_mul]
    omega
theorem dec_cons : ∀ k n, decL n (k + 1) = dg (n / 10 ^ k % 10) :: decL n k
  | 0, n => by simp [decL]
  | k + 1, n => by
    have ih := dec_cons k (n / 10)
    rw [decL, ih, decL, List.cons_append, Nat.div_div_eq_div_mul, Nat.pow_succ, Nat.mul_comm (10 ^ k) 10]
theorem num_inj : ∀ (k : Nat) (a b : List UInt8), a.length = k → b.length = k → allD a → allD b → numL a = numL b → a = b
  | 0, a, b, ha, hb, _, _, _ => by rw [List.length_eq_zero_iff.1 ha, List.length_eq_zero_iff.1 hb]
  | k + 1, a, b, ha, hb, da, db, hn => by
    obtain ⟨a', x, rfl⟩ : ∃ a' x, a = a' ++ [x] := ⟨a.dropLast, a.getLast (by intro h; rw [h] at ha; simp at ha), (List.dropLast_concat_getLast _).symm⟩
    obtain ⟨b', y, rfl⟩ : ∃ b' y, b = b' ++ [y] := ⟨b.dropLast, b.getLast (by intro h; rw [h] at hb; simp at hb), (List.dropLast_concat_getLast _).symm⟩
    rw [numL_snoc, numL_snoc] at hn
    have hx := da x (List.mem_append_right _ (List.mem_singleton.2 rfl))
    have hy := db y (List.mem_append_right _ (List.mem_singleton.2 rfl))
    have e : numL a' = numL b' := by omega
    have e2 : x = y := by
      apply UInt8.toNat_inj.1
      omega
    rw [num_inj k a' b' (by simpa using ha) (by simpa using hb) (fun c hc => da c (List.mem_append_left _ hc)) (fun c hc => db c (List.mem_append_left _ hc)) e, e2]
theorem pad_all (r d : Nat) : allD (padL (r : Int) d) := fun c hc => by
  rcases List.mem_append.1 hc with g | g
  · exact (rep_num (d - (Lib.itoa (r : Int)).length)).2 c g
  · exact (itoa_num r).2 c g
theorem pad_dec (r d : Nat) (hd : 1 ≤ d) (h : r < 10 ^ d) : padL (r : Int) d = decL r d := by
  obtain ⟨h1, h2⟩ := decL_num d r
  refine num_inj d _ _ (pad_size r d hd h) (decL_len d r) (pad_all r d) h2 ?_
  have := pad_num r d
  unfold numV at this
  rw [if_pos (pad_all r d)] at this
  rw [this, h1, Nat.mod_eq_of_lt h]
/-- pad writes the digits of a number that has not too many of them. -/
theorem padd_any (r d : Nat) (w : World) (hT : Tab w) (hd : 1 ≤ d) (hd2 : d ≤ 18) (h : r < 10 ^ d) :
    Calls Tryz.prog 123 #[.int .i64 r, .int .i64 d] w fun e w' => e = .returned (.string ⟨(decL r d).toArray⟩) ∧ Below w.heap.size w w' := by
  have hr : r ≤ 1000000000000000000 := by
    have h9 : ∀ d : Nat, d ≤ 18 → 10 ^ d ≤ 1000000000000000000 := by decide
    have := h9 d hd2
    omega
  rw [← pad_dec r d hd h]
  exact pad_any r d w hT (by omega) (by omega) (by omega)
end At
end Go.Proofs.YtaghilgfldaaiaaGreatDoor
/-
  Texts that follow a pattern: like of the reference.
-/
namespace Go.Proofs.YtaghilgfldaaiaaGreatDoor
namespace Ap
open Go.RowKit Lw

abbrev bt (s : ByteArray) (k : Nat) : Int := ((s.get! k).toNat : Int)
/-- A byte that follows a pattern: a digit where the pattern has one, and the pattern's byte elsewhere. -/
def okAt (s p : ByteArray) (k : Nat) : Prop := (bt p k = 48 → 48 ≤ bt s k ∧ bt s k ≤ 57) ∧ (¬ bt p k = 48 → bt s k = bt p k)
instance (s p : ByteArray) (k : Nat) : Decidable (okAt s p k) := by unfold okAt; infer_instance
def likeTo (s p : ByteArray) (n : Nat) : Prop := ∀ k, k < n → okAt s p k
instance (s p : ByteArray) (n : Nat) : Decidable (likeTo s p n) := by unfold likeTo; infer_instance
def likeP (s p : ByteArray) : Prop := s.size = p.size ∧ likeTo s p s.size
instance (s p : ByteArray) : Decidable (likeP s p) := by unfold likeP; infer_instance
theorem bt_of (s : ByteArray) (i : Nat) (h : i < s.size) : bt s i = (s[i].toNat : Int) := by simp [bt, ByteArray.get!, getElem!_pos, h]; rfl
theorem likeTo_s {s p : ByteArray} {k : Nat} (h : likeTo s p k) (g : okAt s p k) : likeTo s p (k + 1) := fun j hj => by
  by_cases e : j = k
  · subst e; exact g
  · exact h j (by omega)
theorem ret_b {a b : Bool} (h : a = b) : Ending.returned (.bool a) = .returned (.bool b) := by rw [h]
end Ap
end Go.Proofs.YtaghilgfldaaiaaGreatDoor
/-
  Plain law of the numbers between separators, for any string and any pattern; no walk here.
-/
namespace Go.Proofs.YtaghilgfldaaiaaGreatDoor
namespace Ap
open Go.RowKit Lw

/-- Is the byte before one of a number? -/
def ins (p : ByteArray) : Nat → Bool
  | 0 => false
  | k + 1 => decide (bt p k = 48)
/-- The numbers of the first bytes. -/
def grpL (s p : ByteArray) : Nat → List Int
  | 0 => []
  | k + 1 => if bt p k = 48 then (if ins p k = true then (grpL s p k).dropLast ++ [10 * (grpL s p k).getLastD 0 + (bt s k - 48)] else grpL s p k ++ [bt s k - 48]) else grpL s p k
def runAt (p : ByteArray) : Nat → Nat
  | 0 => 0
  | k + 1 => if bt p k = 48 then runAt p k + 1 else 0
theorem grp_skip {s p : ByteArray} {k : Nat} (h : ¬ bt p k = 48) : grpL s p (k + 1) = grpL s p k := by simp only [grpL]; rw [if_neg h]
theorem grp_new {s p : ByteArray} {k : Nat} (h : bt p k = 48) (g : ins p k = false) : grpL s p (k + 1) = grpL s p k ++ [bt s k - 48] := by
  simp only [grpL]; rw [if_pos h, g]; simp
theorem grp_on {s p : ByteArray} {k : Nat} {X : List Int} {v : Int} (h : bt p k = 48) (g : ins p k = true) (e : grpL s p k = X ++ [v]) : grpL s p (k + 1) = X ++ [10 * v + (bt s k - 48)] := by
  simp only [grpL]; rw [if_pos h, if_pos g, e]; simp
theorem grp_len (s p : ByteArray) : ∀ k, (grpL s p k).length ≤ k
  | 0 => by simp [grpL]
  | k + 1 => by
    have ih := grp_len s p k
    simp only [grpL]
    split
    · split
      · simp; omega
      · simp; omega
    · omega
theorem grp_last (s p : ByteArray) : ∀ k, likeTo s p k → ins p k = true → ∃ X v, grpL s p k = X ++ [v] ∧ 0 ≤ v ∧ v < 10 ^ runAt p k ∧ 1 ≤ runAt p k
  | 0, _, h => by cases h
  | k + 1, hl, h => by
    have hb : bt p k = 48 := of_decide_eq_true h
    have hd := (hl k (by omega)).1 hb
    have hr : runAt p (k + 1) = runAt p k + 1 := by simp only [runAt]; rw [if_pos hb]
    cases g : ins p k with
    | false =>
      refine ⟨_, _, grp_new hb g, by omega, ?_, by omega⟩
      have : (1 : Int) ≤ 10 ^ runAt p k := Int.pow_pos (by omega)
      rw [hr, Int.pow_succ]
      omega
    | true =>
      obtain ⟨X, v, e, h0, h1, _⟩ := grp_last s p k (fun j hj => hl j (by omega)) g
      refine ⟨_, _, grp_on hb g e, by omega, ?_, by omega⟩
      rw [hr, Int.pow_succ]
      omega
theorem ext_snoc (s : ByteArray) (i n : Nat) (h : i + n < s.size) : (s.extract i (i + (n + 1))).data.toList = (s.extract i (i + n)).data.toList ++ [s[i + n]] := by
  have e : ∀ j, (s.extract i (i + j)).data.toList = (s.data.toList.drop i).take j := fun j => by
    simp [ByteArray.data_extract, Array.toList_extract]
  rw [e, e, List.take_succ_eq_append_getElem (by simp; omega)]
  simp
  rfl
/-- A number of the pattern is the number of its bytes. -/
theorem grp_run (s p : ByteArray) (i : Nat) (h0 : ins p i = false) : ∀ n, 1 ≤ n → i + n ≤ s.size → (∀ j, i ≤ j → j < i + n → bt p j = 48) → grpL s p (i + n) = grpL s p i ++ [numL (s.extract i (i + n)).data.toList]
  | 0, h, _, _ => absurd h (by omega)
  | 1, _, hs, hp => by
    rw [show i + 1 = i + (0 + 1) by omega, ext_snoc s i 0 (by omega), grp_new (by exact hp i (by omega) (by omega)) h0]
    have := bt_of s (i + 0) (by omega)
    simp [numL]
    simpa using this
  | n + 2, _, hs, hp => by
    have ih := grp_run s p i h0 (n + 1) (by omega) (by omega) fun j a b => hp j a (by omega)
    have hi : ins p (i + (n + 1)) = true := decide_eq_true (hp (i + n) (by omega) (by omega))
    have e := grp_on (hp (i + (n + 1)) (by omega) (by omega)) hi ih
    rw [show i + (n + 2) = i + (n + 1) + 1 by omega, e, show i + (n + 1) + 1 = i + (n + 1 + 1) by omega, ext_snoc s i (n + 1) (by omega), numL_snoc, ← bt_of s (i + (n + 1)) (by omega)]
end Ap
end Go.Proofs.YtaghilgfldaaiaaGreatDoor
/-
  Plain law of the texts of times: what a text says, for any string; no walk here.
-/
namespace Go.Proofs.YtaghilgfldaaiaaGreatDoor
namespace Ap
open Go.RowKit Lw Go.Proofs.YtaghilgfldaaiaaGreatDoor.Mp

/-- 0000-00-00T00:00:00 -/
def P19 : ByteArray := ⟨#[48, 48, 48, 48, 45, 48, 48, 45, 48, 48, 84, 48, 48, 58, 48, 48, 58, 48, 48]⟩
/-- 0000 00 00 -/
def P10 : ByteArray := ⟨#[48, 48, 48, 48, 32, 48, 48, 32, 48, 48]⟩
/-- 000000 -/
def P6 : ByteArray := ⟨#[48, 48, 48, 48, 48, 48]⟩
/-- The number of some bytes. -/
def nm (s : ByteArray) (i j : Nat) : Int := numV (s.extract i j).data.toList
def textP (s : ByteArray) : Prop := 20 ≤ s.size ∧ s.size ≠ 21 ∧ s.size ≤ 27 ∧ bt s (s.size - 1) = 90 ∧ likeP (s.extract 0 19) P19 ∧ (20 < s.size → bt s 19 = 46 ∧ 0 ≤ nm s 20 (s.size - 1))
def microV (s : ByteArray) : Int := if s.size = 20 then 0 else nm s 20 (s.size - 1) * tenI (27 - s.size)
def okText (s : ByteArray) : Prop := textP s ∧ fromOk (nm s 0 4) (nm s 5 7) (nm s 8 10) (nm s 11 13) (nm s 14 16) (nm s 17 19) (microV s)
def textV (s : ByteArray) : Int := timeOf (nm s 0 4) (nm s 5 7) (nm s 8 10) (nm s 11 13) (nm s 14 16) (nm s 17 19) (microV s)
/-- What Parse returns: the time, and the error. -/
def ParseIs (s : ByteArray) (t e : Int) : Prop := (okText s ∧ t = textV s ∧ e = 0) ∨ (¬ okText s ∧ t = 0 ∧ e = 12)
theorem ParseIs.uniq {s : ByteArray} {t e t' e' : Int} (a : ParseIs s t e) (b : ParseIs s t' e') : t = t' ∧ e = e' := by
  rcases a with ⟨a1, a2, a3⟩ | ⟨a1, a2, a3⟩ <;> rcases b with ⟨b1, b2, b3⟩ | ⟨b1, b2, b3⟩
  · exact ⟨by rw [a2, b2], by omega⟩
  · exact absurd a1 b1
  · exact absurd b1 a1
  · exact ⟨by omega, by omega⟩
def dayP (s : ByteArray) : Prop := 10 ≤ s.size ∧ s.size ≠ 11 ∧ s.size ≤ 20 ∧ likeP (s.extract 0 10) P10 ∧ (10 < s.size → bt s 10 = 46 ∧ 0 ≤ nm s 11 s.size)
def okDay (s : ByteArray) : Prop := dayP s ∧ fromOk (nm s 0 4) (nm s 5 7) (nm s 8 10) 0 0 0 0
/-- A quotient, rounded up. -/
def upI (a b : Int) : Int := a / b + (if 0 < a % b then 1 else 0)
def dayLen (y m d : Int) : Int := if d = mo y (m + 1) - mo y m ∧ lps (12 * y + m) = lps (12 * y + m - 1) + 1 then 86401000000 else 86400000000
def partV (s : ByteArray) : Int := if s.size = 10 then 0 else upI (nm s 11 s.size * dayLen (nm s 0 4) (nm s 5 7) (nm s 8 10)) (tenI (s.size - 11))
def dayV (s : ByteArray) : Int := timeOf (nm s 0 4) (nm s 5 7) (nm s 8 10) 0 0 0 0 + partV s
/-- What ParseDay returns: the time, and the error. -/
def PDayIs (s : ByteArray) (t e : Int) : Prop := (okDay s ∧ t = dayV s ∧ e = 0) ∨ (¬ okDay s ∧ t = 0 ∧ e = 12)
theorem PDayIs.uniq {s : ByteArray} {t e t' e' : Int} (a : PDayIs s t e) (b : PDayIs s t' e') : t = t' ∧ e = e' := by
  rcases a with ⟨a1, a2, a3⟩ | ⟨a1, a2, a3⟩ <;> rcases b with ⟨b1, b2, b3⟩ | ⟨b1, b2, b3⟩
  · exact ⟨by rw [a2, b2], by omega⟩
  · exact absurd a1 b1
  · exact absurd b1 a1
  · exact ⟨by omega, by omega⟩
/-! ### Head and tail -/
abbrev noPt (c : UInt8) : Bool := decide (¬ ((c.toNat : Nat) : Int) = 46)
/-- The place of the first point, or the end. -/
def ptL (l : List UInt8) : Nat := (l.takeWhile noPt).length
theorem ptL_le : ∀ l : List UInt8, ptL l ≤ l.length
  | [] => by simp [ptL]
  | c :: l => by
    have := ptL_le l
    unfold ptL at *
    rw [List.takeWhile_cons]
    split
    · simp; omega
    · simp
theorem ptL_lo : ∀ (l : List UInt8) (j : Nat) (h : j < ptL l) (g : j < l.length), ¬ ((l[j].toNat : Nat) : Int) = 46
  | [], _, _, g => absurd g (by simp)
  | c :: l, j, h, g => by
    unfold ptL at h
    rw [List.takeWhile_cons] at h
    cases hb : noPt c with
    | false => rw [hb] at h; simp at h
    | true =>
      rw [hb] at h
      cases j with
      | zero => exact of_decide_eq_true hb
      | succ j =>
        simp only [List.getElem_cons_succ]
        exact ptL_lo l j (by unfold ptL; simp at h; omega) (by simpa using g)
theorem ptL_at : ∀ (l : List UInt8) (h : ptL l < l.length), ((l[ptL l].toNat : Nat) : Int) = 46
  | [], h => absurd h (by simp)
  | c :: l, h => by
    cases hb : noPt c with
    | false =>
      have e : ptL (c :: l) = 0 := by unfold ptL; rw [List.takeWhile_cons, hb]; rfl
      have : ((c :: l)[ptL (c :: l)]) = c := by simp only [e]; rfl
      rw [this]
      have := of_decide_eq_false hb
      omega
    | true =>
      have e : ptL (c :: l) = ptL l + 1 := by unfold ptL; rw [List.takeWhile_cons, hb]; simp
      have := ptL_at l (by rw [e] at h; simpa using h)
      have e2 : ((c :: l)[ptL (c :: l)]) = l[ptL l]'(by rw [e] at h; simpa using h) := by simp only [e]; rfl
      rw [e2]; exact this
theorem ptL_uniq {l : List UInt8} {q : Nat} (h : q ≤ l.length) (h1 : ∀ j (g : j < l.length), j < q → ¬ ((l[j].toNat : Nat) : Int) = 46) (h2 : ∀ g : q < l.length, ((l[q].toNat : Nat) : Int) = 46) : ptL l = q := by
  have a := ptL_le l
  rcases Nat.lt_trichotomy (ptL l) q with c | c | c
  · exact absurd (ptL_at l (by omega)) (h1 _ (by omega) c)
  · exact c
  · exact absurd (h2 (by omega)) (ptL_lo l q c (by omega))
end Ap
end Go.Proofs.YtaghilgfldaaiaaGreatDoor
/-
  Head and tail of a string: strings.Cut at a point, strings.CutSuffix of a Z.
-/
namespace Go.Proofs.YtaghilgfldaaiaaGreatDoor
namespace Ap
open Go.RowKit Lw

theorem point_iff (c : UInt8) : (c == 46) = true ↔ ((c.toNat : Nat) : Int) = 46 := by
  have e : c = 46 ↔ c.toNat = (46 : UInt8).toNat := UInt8.toNat_inj.symm
  have h46 : (46 : UInt8).toNat = 46 := rfl
  rw [beq_iff_eq, e, h46]
  omega
theorem idx_pt : ∀ l : List UInt8, Lib.indexByte l 46 = if ptL l < l.length then ((ptL l : Nat) : Int) else -1
  | [] => rfl
  | b :: l => by
    have ih := idx_pt l
    unfold ptL at ih ⊢
    unfold Lib.indexByte
    by_cases h : (b == 46) = true
    · have hb : noPt b = false := decide_eq_false (not_not_intro ((point_iff b).1 h))
      rw [if_pos h, List.takeWhile_cons, hb]
      simp
    · have hb : noPt b = true := decide_eq_true fun g => h ((point_iff b).2 g)
      rw [if_neg h, List.takeWhile_cons, if_pos hb, ih]
      simp only [List.length_cons, beq_iff_eq]
      by_cases g : (l.takeWhile noPt).length < l.length
      · rw [if_pos g, if_neg (by omega), if_pos (by omega)]
        omega
      · rw [if_neg g, if_pos rfl, if_neg (by omega)]
/-- The place of the first point of a string. -/
def ptS (s : ByteArray) : Nat := ptL s.data.toList
def hdP (s : ByteArray) : ByteArray := s.extract 0 (ptS s)
def tlP (s : ByteArray) : ByteArray := if ptS s < s.size then s.extract (ptS s + 1) s.size else ⟨#[]⟩
theorem ptS_le (s : ByteArray) : ptS s ≤ s.size := by have := ptL_le s.data.toList; unfold ptS; simpa using this
theorem extract_all (s : ByteArray) : s.extract 0 s.size = s := by simp
set_option maxRecDepth 100000 in
set_option maxHeartbeats 1000000 in
theorem icut_any (s : ByteArray) (w : World) (hs : s.size ≤ maxLen) :
    Calls Tryz.prog 153 #[.string s, .string ⟨#[46]⟩] w fun e w' => e = .returned (.tuple #[.string (hdP s), .string (tlP s), .bool (decide (ptS s < s.size))]) ∧ Below w.heap.size w w' := by
  have IX := Tryz.stringslite_Index_one s 46 w
  have ix := idx_pt s.data.toList
  have hl : s.data.toList.length = s.size := by simp
  rw [hl] at ix
  replace ix : Lib.indexByte s.data.toList 46 = if ptS s < s.size then ((ptS s : Nat) : Int) else -1 := ix
  have le := ptS_le s
  have M : maxLen = 9223372036854775807 := rfl
  by_cases h : ptS s < s.size
  · have e : Lib.indexByte s.data.toList 46 = ((ptS s : Nat) : Int) := by rw [ix, if_pos h]
    rw [e] at IX
    have T := Lib.hid (show tlP s = s.extract (ptS s + 1) s.size from if_pos h)
    have H := Lib.hid (show hdP s = s.extract 0 (ptS s) from rfl)
    rw [decide_eq_true h]
    clear ix e
    generalize ptS s = q at *
    have i0 : 0 ≤ (q : Int) := by omega
    go_enter Tryz.func153, Tryz.ntmps153
    go_wp2_with fail
    refine IX.mono ?_
    rintro e w1 ⟨rfl, rfl⟩
    go_wp2_with fail
    go_quiet (fail)
    go_wp2_with fail
    go_ret3

    exact ⟨by rw [T.out, H.out]; rfl, drewN_below2 (Below.refl _ _) _⟩
  · have e : Lib.indexByte s.data.toList 46 = -1 := by rw [ix, if_neg h]
    rw [e] at IX
    have T := Lib.hid (show tlP s = ⟨#[]⟩ from if_neg h)
    have H := Lib.hid (show hdP s = s by unfold hdP; rw [show ptS s = s.size by omega]; exact extract_all s)
    rw [decide_eq_false h]
    clear ix e
    go_enter Tryz.func153, Tryz.ntmps153
    go_wp2_with fail
    refine IX.mono ?_
    rintro e w1 ⟨rfl, rfl⟩
    go_wp2_with fail
    go_ret3
    exact ⟨by rw [T.out, H.out]; rfl, Below.refl _ _⟩
theorem cut_any (s : ByteArray) (w : World) (hs : s.size ≤ maxLen) :
    Calls Tryz.prog 108 #[.string s, .string ⟨#[46]⟩] w fun e w' => e = .returned (.tuple #[.string (hdP s), .string (tlP s), .bool (decide (ptS s < s.size))]) ∧ Below w.heap.size w w' := by
  go_enter Tryz.func108, Tryz.ntmps108
  go_wp2_with fail
  refine (icut_any s w hs).mono ?_
  rintro e w1 ⟨rfl, hb⟩
  go_wp2_with fail
  go_ret3
  exact ⟨rfl, hb⟩
/-- Does a string end in a Z? -/
def zP (s : ByteArray) : Prop := 1 ≤ s.size ∧ bt s (s.size - 1) = 90
instance (s : ByteArray) : Decidable (zP s) := by unfold zP; infer_instance
def noZ (s : ByteArray) : ByteArray := if zP s then s.extract 0 (s.size - 1) else s
theorem suf_z (s : ByteArray) : Lib.hasSuffix s.data.toList [90] = decide (zP s) := by
  unfold Lib.hasSuffix
  rw [Bool.eq_iff_iff, decide_eq_true_iff, List.isSuffixOf_iff_suffix]
  constructor
  · rintro ⟨r, h⟩
    have hl := congrArg List.length h
    simp at hl
    refine ⟨by omega, ?_⟩
    rw [bt_of s _ (by omega)]
    have e : s[s.size - 1]'(by omega) = s.data.toList[s.size - 1]'(by simp; omega) := rfl
    rw [e]
    have : s.data.toList[s.size - 1]'(by simp; omega) = (r ++ [90])[s.size - 1]'(by simp; omega) := by simp only [h]
    rw [this, List.getElem_append_right (by omega)]
    simp
  · rintro ⟨h1, h2⟩
    rw [bt_of s _ (by omega)] at h2
    refine ⟨s.data.toList.take (s.size - 1), ?_⟩
    have e := take_snoc s (s.size - 1) (by omega)
    have hz : s[s.size - 1] = 90 := by
      apply UInt8.toNat_inj.1
      have : (90 : UInt8).toNat = 90 := rfl
      omega
    rw [hz, show s.size - 1 + 1 = s.size by omega] at e
    rw [← e]
    exact List.take_of_length_le (by simp)
set_option maxRecDepth 100000 in
set_option maxHeartbeats 1000000 in
theorem suf_any (s : ByteArray) (w : World) (hs : s.size ≤ maxLen) :
    Calls Tryz.prog 47 #[.string s, .string ⟨#[90]⟩] w fun e w' => e = .returned (.tuple #[.string (noZ s), .bool (decide (zP s))]) ∧ w = w' := by
  have M : maxLen = 9223372036854775807 := rfl
  have IX := Tryz.stringslite_HasSuffix s ⟨#[90]⟩ w (by omega)
  have e : Lib.hasSuffix s.data.toList (⟨#[90]⟩ : ByteArray).data.toList = decide (zP s) := suf_z s
  rw [e] at IX
  clear e
  by_cases h : zP s
  · have T := Lib.hid (show noZ s = s.extract 0 (s.size - 1) from if_pos h)
    have h1 : 1 ≤ s.size := h.1
    rw [decide_eq_true h] at IX ⊢
    clear h
    go_enter Tryz.func47, Tryz.ntmps47
    go_wp2_with (first | (go_at_call 142; refine IX.mono ?_; rintro e w1 ⟨rfl, rfl⟩) | (go_at_call 93; go_in))

    go_ret2
    exact ⟨by rw [T.out]; rfl, rfl⟩
  · have T := Lib.hid (show noZ s = s from if_neg h)
    rw [decide_eq_false h] at IX ⊢
    clear h
    go_enter Tryz.func47, Tryz.ntmps47
    go_wp2_with (first | (go_at_call 142; refine IX.mono ?_; rintro e w1 ⟨rfl, rfl⟩) | (go_at_call 93; go_in))
    go_ret2
    exact ⟨by rw [T.out]; rfl, rfl⟩
end Ap
end Go.Proofs.YtaghilgfldaaiaaGreatDoor
/-
  Plain law: what head, tail and numbers of a text say is what the text says; no walk here.
-/
namespace Go.Proofs.YtaghilgfldaaiaaGreatDoor
namespace Ap
open Go.RowKit Lw Go.Proofs.YtaghilgfldaaiaaGreatDoor.Mp

theorem bt_ext (s : ByteArray) (i j k : Nat) (hj : j ≤ s.size) (hk : i + k < j) : bt (s.extract i j) k = bt s (i + k) := by
  have h1 : k < (s.extract i j).size := by simp; omega
  rw [bt_of _ k h1, bt_of s (i + k) (by omega)]
  simp [ByteArray.getElem_extract]
theorem size_ext (s : ByteArray) (i j : Nat) (hj : j ≤ s.size) : (s.extract i j).size = j - i := by simp; omega
theorem ext_ext (s : ByteArray) (j k : Nat) (h : k ≤ j) (hj : j ≤ s.size) : (s.extract 0 j).extract 0 k = s.extract 0 k := by
  rw [ByteArray.extract_extract]
  congr 1 <;> omega
theorem ext_ext2 (s : ByteArray) (i j : Nat) (hj : j ≤ s.size) : (s.extract 0 j).extract i j = s.extract i j := by
  rw [ByteArray.extract_extract]
  congr 1 <;> omega
theorem pt_at (s : ByteArray) (h : ptS s < s.size) : bt s (ptS s) = 46 := by
  rw [bt_of s _ h]
  exact ptL_at s.data.toList (by have g := h; unfold ptS at g; simpa using g)
theorem pt_uniq {s : ByteArray} {q : Nat} (h : q ≤ s.size) (h1 : ∀ j, j < q → ¬ bt s j = 46) (h2 : q < s.size → bt s q = 46) : ptS s = q := by
  refine ptL_uniq (by simpa using h) (fun j g hj => ?_) (fun g => ?_)
  · have hs : j < s.size := by simpa using g
    have := h1 j hj
    rw [bt_of s j hs] at this
    exact this
  · have hs : q < s.size := by simpa using g
    have := h2 hs
    rw [bt_of s q hs] at this
    exact this
theorem allD_bt (s : ByteArray) : allD s.data.toList ↔ ∀ k, k < s.size → 48 ≤ bt s k ∧ bt s k ≤ 57 := by
  constructor
  · intro h k hk
    rw [bt_of s k hk]
    exact h _ (by
      have : s[k] = s.data.toList[k]'(by simpa using hk) := rfl
      rw [this]; exact List.getElem_mem _)
  · intro h c hc
    obtain ⟨k, hk, rfl⟩ := List.mem_iff_getElem.1 hc
    have hs : k < s.size := by simpa using hk
    have := h k hs
    rw [bt_of s k hs] at this
    exact this
theorem numV_nn (l : List UInt8) : 0 ≤ numV l ↔ allD l := by
  unfold numV
  by_cases h : allD l
  · rw [if_pos h]
    have e : l.take l.length = l := List.take_length
    have := numL_bd l l.length (Nat.le_refl _) (by rw [e]; exact h)
    rw [e] at this
    exact ⟨fun _ => h, fun _ => this.1⟩
  · rw [if_neg h]
    exact ⟨fun g => absurd g (by omega), fun g => absurd g h⟩
theorem numV_yes {l : List UInt8} (h : allD l) : numV l = numL l := if_pos h
/-! ### The digits behind the point -/
def pad6 (t : ByteArray) : ByteArray := t ++ P6.extract t.size P6.size
theorem zeros6 (i : Nat) (h : i ≤ 6) : (P6.extract i P6.size).data.toList = List.replicate (6 - i) 48 := by
  have : i = 0 ∨ i = 1 ∨ i = 2 ∨ i = 3 ∨ i = 4 ∨ i = 5 ∨ i = 6 := by omega
  rcases this with rfl | rfl | rfl | rfl | rfl | rfl | rfl <;> decide
theorem pad6_list (t : ByteArray) (h : t.size ≤ 6) : (pad6 t).data.toList = t.data.toList ++ List.replicate (6 - t.size) 48 := by
  rw [← zeros6 t.size h]
  simp [pad6]
theorem pad6_size (t : ByteArray) (h : t.size ≤ 6) : (pad6 t).size = 6 := by
  have := congrArg List.length (pad6_list t h)
  simp at this
  omega
theorem numL_zeros (l : List UInt8) : ∀ k, numL (l ++ List.replicate k 48) = numL l * tenI k
  | 0 => by simp [tenI]
  | k + 1 => by
    have ih := numL_zeros l k
    have e : List.replicate (k + 1) (48 : UInt8) = List.replicate k 48 ++ [48] := List.replicate_succ'
    have h48 : ((48 : UInt8).toNat : Int) = 48 := rfl
    rw [e, ← List.append_assoc, numL_snoc, ih, tenI_s, h48, ← Int.mul_assoc (numL l) (tenI k) 10]
    generalize numL l * tenI k = Z
    omega
theorem P6_at : ∀ k, k < 6 → bt P6 k = 48 := by decide
theorem like6 (t : ByteArray) (h : t.size ≤ 6) : likeP (pad6 t) P6 ↔ allD t.data.toList := by
  have hs := pad6_size t h
  have ha := allD_bt (pad6 t)
  rw [pad6_list t h, hs] at ha
  have hb : allD (t.data.toList ++ List.replicate (6 - t.size) 48) ↔ allD t.data.toList := by
    constructor
    · exact fun g c hc => g c (List.mem_append_left _ hc)
    · intro g c hc
      rcases List.mem_append.1 hc with hc | hc
      · exact g c hc
      · have := (List.mem_replicate.1 hc).2
        subst this
        exact ⟨by decide, by decide⟩
  rw [← hb, ha]
  constructor
  · intro ⟨_, g⟩ k hk
    exact (g k (by omega)).1 (P6_at k hk)
  · intro g
    refine ⟨hs, fun k hk => ⟨fun _ => g k (by omega), fun e => absurd (P6_at k (by omega)) e⟩⟩
theorem grp6 (t : ByteArray) (h : t.size ≤ 6) : grpL (pad6 t) P6 (pad6 t).size = [numL t.data.toList * tenI (6 - t.size)] := by
  have hs := pad6_size t h
  have := grp_run (pad6 t) P6 0 rfl 6 (by omega) (by omega) (fun j _ hj => P6_at j (by omega))
  rw [hs, show (6 : Nat) = 0 + 6 by omega, this]
  have e : (pad6 t).extract 0 (0 + 6) = pad6 t := by rw [show 0 + 6 = (pad6 t).size by omega]; exact extract_all _
  rw [e, pad6_list t h, numL_zeros]
  rfl
/-! ### The numbers ahead of the point -/
theorem P19_no : ∀ j, j < 19 → ¬ bt P19 j = 46 := by decide
theorem like_no46 {h p : ByteArray} {n : Nat} (hl : likeP h p) (hn : h.size = n) (hp : ∀ j, j < n → ¬ bt p j = 46) : ∀ j, j < n → ¬ bt h j = 46 := fun j hj e => by
  obtain ⟨a, b⟩ := hl.2 j (by omega)
  by_cases g : bt p j = 48
  · have := a g; omega
  · have := b g
    exact hp j hj (by omega)
/-- What the program finds of a text. -/
def progT (s : ByteArray) : Prop := zP s ∧ likeP (hdP (noZ s)) P19 ∧ (ptS (noZ s) < (noZ s).size → 1 ≤ (tlP (noZ s)).size ∧ (tlP (noZ s)).size ≤ 6) ∧ allD (tlP (noZ s)).data.toList
theorem P19_size : P19.size = 19 := rfl
theorem prog_text {s : ByteArray} (g : progT s) : textP s ∧ hdP (noZ s) = s.extract 0 19 ∧ microV s = numL (tlP (noZ s)).data.toList * tenI (6 - (tlP (noZ s)).size) := by
  obtain ⟨z, lk, sz, ad⟩ := g
  have hr : noZ s = s.extract 0 (s.size - 1) := if_pos z
  obtain ⟨z1, z2⟩ := z
  have rs : (noZ s).size = s.size - 1 := by rw [hr, size_ext s _ _ (by omega)]; omega
  have hq : ptS (noZ s) = 19 := by
    have := lk.1
    rw [P19_size] at this
    have le := ptS_le (noZ s)
    unfold hdP at this
    rw [size_ext _ _ _ le] at this
    omega
  have hle := ptS_le (noZ s)
  have hh : hdP (noZ s) = s.extract 0 19 := by
    unfold hdP
    rw [hq, hr, ext_ext s _ _ (by omega) (by omega)]
  rw [hh] at lk
  by_cases hp : ptS (noZ s) < (noZ s).size
  · have ht : tlP (noZ s) = s.extract 20 (s.size - 1) := by
      unfold tlP
      rw [if_pos hp, hq, rs, hr, ext_ext2 s _ _ (by omega)]
    have hs := sz hp
    rw [ht, size_ext s _ _ (by omega)] at hs
    have h46 := pt_at (noZ s) hp
    rw [hq, hr, bt_ext s 0 (s.size - 1) 19 (by omega) (by omega)] at h46
    have ad' := ad
    rw [ht] at ad'
    refine ⟨⟨by omega, by omega, by omega, z2, lk, fun _ => ⟨by simpa using h46, (numV_nn _).2 ad'⟩⟩, hh, ?_⟩
    unfold microV nm
    rw [if_neg (by omega), numV_yes ad', ht, size_ext s _ _ (by omega), show 6 - (s.size - 1 - 20) = 27 - s.size by omega]
  · have ht : tlP (noZ s) = ⟨#[]⟩ := if_neg hp
    refine ⟨⟨by omega, by omega, by omega, z2, lk, fun h => absurd h (by omega)⟩, hh, ?_⟩
    unfold microV
    rw [if_pos (by omega), ht]
    rfl
theorem text_prog {s : ByteArray} (g : textP s) : progT s := by
  obtain ⟨h20, h21, h27, hz, lk, hm⟩ := g
  have z : zP s := ⟨by omega, hz⟩
  have hr : noZ s = s.extract 0 (s.size - 1) := if_pos z
  have rs : (noZ s).size = s.size - 1 := by rw [hr, size_ext s _ _ (by omega)]; omega
  have no := like_no46 lk (by rw [size_ext s _ _ (by omega)]) P19_no
  have hq : ptS (noZ s) = 19 := by
    refine pt_uniq (by omega) (fun j hj => ?_) (fun h => ?_)
    · have := no j (by omega)
      rw [bt_ext s 0 19 j (by omega) (by omega)] at this
      rw [hr, bt_ext s 0 _ j (by omega) (by omega)]
      exact this
    · rw [hr, bt_ext s 0 _ 19 (by omega) (by omega)]
      have := (hm (by omega)).1
      simpa using this
  have hh : hdP (noZ s) = s.extract 0 19 := by
    unfold hdP
    rw [hq, hr, ext_ext s _ _ (by omega) (by omega)]
  refine ⟨z, by rw [hh]; exact lk, fun hp => ?_, ?_⟩
  · have ht : tlP (noZ s) = s.extract 20 (s.size - 1) := by
      unfold tlP
      rw [if_pos hp, hq, rs, hr, ext_ext2 s _ _ (by omega)]
    rw [ht, size_ext s _ _ (by omega)]
    omega
  · by_cases hp : ptS (noZ s) < (noZ s).size
    · have ht : tlP (noZ s) = s.extract 20 (s.size - 1) := by
        unfold tlP
        rw [if_pos hp, hq, rs, hr, ext_ext2 s _ _ (by omega)]
      rw [ht]
      exact (numV_nn _).1 (hm (by omega)).2
    · have ht : tlP (noZ s) = ⟨#[]⟩ := if_neg hp
      rw [ht]
      exact fun c hc => absurd hc (by simp)
end Ap
end Go.Proofs.YtaghilgfldaaiaaGreatDoor
/-
  The texts of times: Text of package moment and of the reference.
-/
namespace Go.Proofs.YtaghilgfldaaiaaGreatDoor
namespace At
open Go.RowKit Lw Ap Go.Proofs.YtaghilgfldaaiaaGreatDoor.Mp Go.Proofs.YtaghilgfldaaiaaGreatDoor.Mw

/-- The last digits of a number, as a string. -/
def dS (n k : Nat) : ByteArray := ⟨(decL n k).toArray⟩
theorem dS_size (n k : Nat) : (dS n k).size = k := by
  have : (dS n k).size = (decL n k).length := by simp [dS, ByteArray.size]
  rw [this, decL_len]
theorem add_fact {a b c : ByteArray} (h : c = a ++ b) (hs : a.size + b.size ≤ 9223372036854775807) : ∀ w' : World, (Op.stringOp .add a b).run Tryz.prog w' = .ok (.string c) w' := fun w' => by
  rw [run_string_add_sum (P := Tryz.prog) (w := w') _ _ hs, h]
def baseS (Y M D H I S : Nat) : ByteArray := dS Y 4 ++ (⟨#[45]⟩ : ByteArray) ++ dS M 2 ++ (⟨#[45]⟩ : ByteArray) ++ dS D 2 ++ (⟨#[84]⟩ : ByteArray) ++ dS H 2 ++ (⟨#[58]⟩ : ByteArray) ++ dS I 2 ++ (⟨#[58]⟩ : ByteArray) ++ dS S 2
/-- The text of a time. -/
def textS (Y M D H I S U d : Nat) : ByteArray := (if 0 < d then baseS Y M D H I S ++ ((⟨#[46]⟩ : ByteArray) ++ (dS U 6).extract 0 d) else baseS Y M D H I S) ++ (⟨#[90]⟩ : ByteArray)
/-- What Text returns: the text, and the error. -/
def TextIs (t d : Int) (s : ByteArray) (c : Int) : Prop :=
  ((d < 0 ∨ 6 < d) ∧ s = ⟨#[]⟩ ∧ c = 2) ∨ (0 ≤ d ∧ d ≤ 6 ∧ (t < bgv (-10227) 1972 1 ∨ bgv 36525 2100 1 ≤ t) ∧ s = ⟨#[]⟩ ∧ c = 16) ∨
  (0 ≤ d ∧ d ≤ 6 ∧ bgv (-10227) 1972 1 ≤ t ∧ t < bgv 36525 2100 1 ∧ ∃ n y m z k, DayOf t n y m z k ∧ s = textS y.toNat m.toNat (n - mo y m + 1).toNat (mins (t - bgv n y m) / 60).toNat (mins (t - bgv n y m) % 60).toNat ((t - bgv n y m) / 1000000 - 60 * mins (t - bgv n y m)).toNat ((t - bgv n y m) % 1000000).toNat d.toNat ∧ c = 0)
theorem TextIs.uniq {t d : Int} {s s' : ByteArray} {c c' : Int} (a : TextIs t d s c) (b : TextIs t d s' c') : s = s' ∧ c = c' := by
  rcases a with ⟨a0, a1, a2⟩ | ⟨a0, a1, a2, a3, a4⟩ | ⟨a0, a1, a2, a3, n, y, m, z, k, a4, a5, a6⟩ <;> rcases b with ⟨b0, b1, b2⟩ | ⟨b0, b1, b2, b3, b4⟩ | ⟨b0, b1, b2, b3, n', y', m', z', k', b4, b5, b6⟩
  · exact ⟨by rw [a1, b1], by omega⟩
  · omega
  · omega
  · omega
  · exact ⟨by rw [a3, b3], by omega⟩
  · omega
  · omega
  · omega
  · obtain ⟨rfl, rfl, rfl, _, _⟩ := a4.uniq b4
    exact ⟨by rw [a5, b5], by omega⟩
def TextPost (t d : Int) (w : World) (e : Ending) (w' : World) : Prop := ∃ (s : ByteArray) (c : Int), e = .returned (.tuple #[.string s, .int .i64 c]) ∧ TextIs t d s c ∧ Below w.heap.size w w'
/-- The parts of a date, as naturals. -/
theorem date_nat {t n y m z k : Int} (h : DayOf t n y m z k) : ∃ Y M D H I S U : Nat, y = Y ∧ m = M ∧ n - mo y m + 1 = D ∧ mins (t - bgv n y m) / 60 = H ∧ mins (t - bgv n y m) % 60 = I ∧ (t - bgv n y m) / 1000000 - 60 * mins (t - bgv n y m) = S ∧ (t - bgv n y m) % 1000000 = U ∧
    Y < 10 ^ 4 ∧ M < 10 ^ 2 ∧ D < 10 ^ 2 ∧ H < 10 ^ 2 ∧ I < 10 ^ 2 ∧ S < 10 ^ 2 ∧ U < 10 ^ 6 := by
  obtain ⟨p1, p2⟩ := h.pass
  have y1 := h.y1
  have y2 := h.y2
  have m1 := h.ym.m1
  have m2 := h.ym.m12
  have ml := mo_bd2 h
  generalize t - bgv n y m = p at *
  generalize n - mo y m + 1 = dd at *
  have hm : 0 ≤ mins p ∧ mins p ≤ 1439 ∧ 60 * mins p ≤ p / 1000000 ∧ p / 1000000 - 60 * mins p ≤ 60 := by unfold mins; split <;> omega
  generalize mins p = q at *
  refine ⟨y.toNat, m.toNat, dd.toNat, (q / 60).toNat, (q % 60).toNat, (p / 1000000 - 60 * q).toNat, (p % 1000000).toNat, ?_⟩
  omega
/-- The date in its block, the table, and what was there before. -/
structure XS (w : World) (b : Nat) (w' : World) : Prop where
  lt : b < w'.heap.size
  tab : Tab w'
  below : Below w.heap.size w w'
theorem XS.call {w : World} {b : Nat} {a c : World} (h : XS w b a) (hb : Below a.heap.size a c) : XS w b c := ⟨Nat.lt_of_lt_of_le h.lt hb.size, h.tab.below hb, below_then h.below hb⟩
theorem XS.drew {w : World} {b : Nat} {a : World} (h : XS w b a) : XS w b a.drew := ⟨h.lt, h.tab, h.below.drew⟩
structure XSr (w : World) (b : Nat) (w' : World) : Prop where
  lt : b < w'.heap.size
  below : Below w.heap.size w w'
theorem XSr.drew {w : World} {b : Nat} {a : World} (h : XSr w b a) : XSr w b a.drew := ⟨h.lt, h.below.drew⟩
theorem pads_any (r d : Nat) (w : World) (hT : Tab w) (hd : 1 ≤ d) (hd2 : d ≤ 18) (h : r < 10 ^ d) :
    Calls Tryz.prog 123 #[.int .i64 r, .int .i64 d] w fun e w' => e = .returned (.string (dS r d)) ∧ Below w.heap.size w w' := padd_any r d w hT hd hd2 h
theorem two_any (r : Nat) (w : World) (hT : Tab w) (h : r < 10 ^ 2) :
    Calls Tryz.prog 122 #[.int .i64 r] w fun e w' => e = .returned (.string (dS r 2)) ∧ Below w.heap.size w w' := by
  have P := pads_any r 2 w hT (by omega) (by omega) h
  go_enter Tryz.func122, Tryz.ntmps122
  go_wp2_with fail
  refine P.mono ?_
  rintro e w1 ⟨rfl, hb⟩
  go_wp2_with fail
  go_ret
  exact ⟨rfl, hb⟩
theorem text_arg {t d : Int} (h : d < 0 ∨ 6 < d) : TextIs t d ⟨#[]⟩ 2 := Or.inl ⟨h, rfl, rfl⟩
set_option maxRecDepth 100000 in
set_option maxHeartbeats 4000000 in
theorem text_bad (t d : Int) (w : World) (h : d < 0 ∨ 6 < d) :
    Calls Tryz.prog 69 #[.int .i64 t, .int .i64 d] w (TextPost t d w) := by
  have N := Lib.hid (text_arg (t := t) h)
  rcases h with h | h
  all_goals
    go_enter Tryz.func69, Tryz.ntmps69
    go_wp2_with fail
    go_ret2
    exact ⟨⟨#[]⟩, 2, rfl, N.out, Below.refl _ _⟩
set_option maxRecDepth 100000 in
set_option maxHeartbeats 4000000 in
theorem text_out (t : Int) (d : Nat) (w : World) (hd : d ≤ 6) (h0 : -9223372036854775808 ≤ t) (h1 : t ≤ 9223372036854775807) (h : t < bgv (-10227) 1972 1 ∨ bgv 36525 2100 1 ≤ t) :
    Calls Tryz.prog 69 #[.int .i64 t, .int .i64 d] w (TextPost t d w) := by
  have N := Lib.hid (show TextIs t d ⟨#[]⟩ 16 from Or.inr (Or.inl ⟨by omega, by omega, h, rfl, rfl⟩))
  have TU := Lib.hid (fun w' => toutc_out t w' h0 h1 h)
  have i0 : ¬ (d : Int) < 0 := by omega
  have i1 : ¬ 6 < (d : Int) := by omega
  clear h
  go_enter Tryz.func69, Tryz.ntmps69
  go_wp2_with fail
  refine (TU.out _).mono ?_
  rintro e w1 ⟨rfl, hb⟩
  have B1 := Lib.hid (hb.alloc hb.size (.cells (List.toArray [.int .i64 0, .int .i64 0, .int .i64 0, .int .i64 0, .int .i64 0, .int .i64 0, .int .i64 0]) 75))
  clear hb TU
  go_wp2_with (refine wpList_store_new rfl _ (.tmp 6) (.tmp 19) rfl _ _ rfl rfl rinfo7 rfl ?_ ?_; simp [Value.oneCell'])
  go_ret2
  exact ⟨⟨#[]⟩, 16, rfl, N.out, B1.out⟩
set_option maxRecDepth 100000 in
set_option maxHeartbeats 8000000 in
theorem text_in (t n y m z k : Int) (d : Nat) (w : World) (hd : d ≤ 6) (hT : Tab w) (h : DayOf t n y m z k) (h1 : bgv (-10227) 1972 1 ≤ t) (h2 : t < bgv 36525 2100 1) :
    Calls Tryz.prog 69 #[.int .i64 t, .int .i64 d] w (TextPost t d w) := by
  have TU := fun w' => toutc_in t n y m z k w' h h1 h2
  have TI : ∀ s, s = textS y.toNat m.toNat (n - mo y m + 1).toNat (mins (t - bgv n y m) / 60).toNat (mins (t - bgv n y m) % 60).toNat ((t - bgv n y m) / 1000000 - 60 * mins (t - bgv n y m)).toNat ((t - bgv n y m) % 1000000).toNat d → TextIs t d s 0 :=
    fun s hs => Or.inr (Or.inr ⟨by omega, by omega, h1, h2, n, y, m, z, k, h, by rw [Int.toNat_natCast]; exact hs, rfl⟩)
  obtain ⟨Y, M, D, H, I, S, U, e1, e2, e3, e4, e5, e6, e7, b1, b2, b3, b4, b5, b6, b7⟩ := date_nat h
  rw [e3, e4, e5, e6, e7] at TU TI
  rw [e1, e2] at TI
  simp only [Int.toNat_natCast] at TI
  rw [e1, e2] at TU
  clear e1 e2 e3 e4 e5 e6 e7 h h1 h2
  replace TU := Lib.hid TU
  replace TI := Lib.hid TI
  have i0 : ¬ (d : Int) < 0 := by omega
  have i1 : ¬ 6 < (d : Int) := by omega
  obtain ⟨A0, e0⟩ : ∃ A, A = dS Y 4 := ⟨_, rfl⟩
  have z0 : A0.size = 4 := by rw [e0]; exact dS_size _ _
  obtain ⟨A1, e1⟩ : ∃ A, A = A0 ++ (⟨#[45]⟩ : ByteArray) := ⟨_, rfl⟩
  have z1 : A1.size = 5 := by rw [e1, ByteArray.size_append, z0, show (⟨#[45]⟩ : ByteArray).size = 1 from rfl]
  have a1 := add_fact e1 (by rw [z0, show (⟨#[45]⟩ : ByteArray).size = 1 from rfl]; omega)
  obtain ⟨A2, e2⟩ : ∃ A, A = A1 ++ ((dS M 2) : ByteArray) := ⟨_, rfl⟩
  have z2 : A2.size = 7 := by rw [e2, ByteArray.size_append, z1, show ((dS M 2) : ByteArray).size = 2 from dS_size _ _]
  have a2 := add_fact e2 (by rw [z1, show ((dS M 2) : ByteArray).size = 2 from dS_size _ _]; omega)
  obtain ⟨A3, e3⟩ : ∃ A, A = A2 ++ (⟨#[45]⟩ : ByteArray) := ⟨_, rfl⟩
  have z3 : A3.size = 8 := by rw [e3, ByteArray.size_append, z2, show (⟨#[45]⟩ : ByteArray).size = 1 from rfl]
  have a3 := add_fact e3 (by rw [z2, show (⟨#[45]⟩ : ByteArray).size = 1 from rfl]; omega)
  obtain ⟨A4, e4⟩ : ∃ A, A = A3 ++ ((dS D 2) : ByteArray) := ⟨_, rfl⟩
  have z4 : A4.size = 10 := by rw [e4, ByteArray.size_append, z3, show ((dS D 2) : ByteArray).size = 2 from dS_size _ _]
  have a4 := add_fact e4 (by rw [z3, show ((dS D 2) : ByteArray).size = 2 from dS_size _ _]; omega)
  obtain ⟨A5, e5⟩ : ∃ A, A = A4 ++ (⟨#[84]⟩ : ByteArray) := ⟨_, rfl⟩
  have z5 : A5.size = 11 := by rw [e5, ByteArray.size_append, z4, show (⟨#[84]⟩ : ByteArray).size = 1 from rfl]
  have a5 := add_fact e5 (by rw [z4, show (⟨#[84]⟩ : ByteArray).size = 1 from rfl]; omega)
  obtain ⟨A6, e6⟩ : ∃ A, A = A5 ++ ((dS H 2) : ByteArray) := ⟨_, rfl⟩
  have z6 : A6.size = 13 := by rw [e6, ByteArray.size_append, z5, show ((dS H 2) : ByteArray).size = 2 from dS_size _ _]
  have a6 := add_fact e6 (by rw [z5, show ((dS H 2) : ByteArray).size = 2 from dS_size _ _]; omega)
  obtain ⟨A7, e7⟩ : ∃ A, A = A6 ++ (⟨#[58]⟩ : ByteArray) := ⟨_, rfl⟩
  have z7 : A7.size = 14 := by rw [e7, ByteArray.size_append, z6, show (⟨#[58]⟩ : ByteArray).size = 1 from rfl]
  have a7 := add_fact e7 (by rw [z6, show (⟨#[58]⟩ : ByteArray).size = 1 from rfl]; omega)
  obtain ⟨A8, e8⟩ : ∃ A, A = A7 ++ ((dS I 2) : ByteArray) := ⟨_, rfl⟩
  have z8 : A8.size = 16 := by rw [e8, ByteArray.size_append, z7, show ((dS I 2) : ByteArray).size = 2 from dS_size _ _]
  have a8 := add_fact e8 (by rw [z7, show ((dS I 2) : ByteArray).size = 2 from dS_size _ _]; omega)
  obtain ⟨A9, e9⟩ : ∃ A, A = A8 ++ (⟨#[58]⟩ : ByteArray) := ⟨_, rfl⟩
  have z9 : A9.size = 17 := by rw [e9, ByteArray.size_append, z8, show (⟨#[58]⟩ : ByteArray).size = 1 from rfl]
  have a9 := add_fact e9 (by rw [z8, show (⟨#[58]⟩ : ByteArray).size = 1 from rfl]; omega)
  obtain ⟨A10, e10⟩ : ∃ A, A = A9 ++ ((dS S 2) : ByteArray) := ⟨_, rfl⟩
  have z10 : A10.size = 19 := by rw [e10, ByteArray.size_append, z9, show ((dS S 2) : ByteArray).size = 2 from dS_size _ _]
  have a10 := add_fact e10 (by rw [z9, show ((dS S 2) : ByteArray).size = 2 from dS_size _ _]; omega)
  have EB := Lib.hid (show baseS Y M D H I S = A10 by unfold baseS; rw [← e0, ← e1, ← e2, ← e3, ← e4, ← e5, ← e6, ← e7, ← e8, ← e9, ← e10])
  have PY := fun w' ht => pads_any Y 4 w' ht (by omega) (by omega) b1
  have PU := Lib.hid (fun w' ht => pads_any U 6 w' ht (by omega) (by omega) b7)
  rw [← e0] at PY
  replace PY := Lib.hid PY
  have xs : (dS U 6).size = 6 := dS_size _ _
  have i6 : (d : Int) ≤ 6 := by omega
  clear e0 e1 e2 e3 e4 e5 e6 e7 e8 e9 e10 z0 z1 z2 z3 z4 z5 z6 z7 z8 z9
  go_enter Tryz.func69, Tryz.ntmps69
  go_wp2_with fail
  refine (TU.out _).mono ?_
  rintro e w1 ⟨rfl, hb⟩
  have B1 := hb
  clear hb TU
  go_wp2_with (refine wpList_store_new rfl _ (.tmp 6) (.tmp 19) rfl _ _ rfl rfl rinfo7 rfl ?_ ?_; simp [Value.oneCell'])
  have r0 := rangeAt_new w1 [.int .i64 (Y : Nat), .int .i64 (M : Nat), .int .i64 (D : Nat), .int .i64 (H : Nat), .int .i64 (I : Nat), .int .i64 (S : Nat), .int .i64 (U : Nat)] 75
  have X0 : XS w w1.heap.size (w1.alloc (.cells (List.toArray [.int .i64 (Y : Nat), .int .i64 (M : Nat), .int .i64 (D : Nat), .int .i64 (H : Nat), .int .i64 (I : Nat), .int .i64 (S : Nat), .int .i64 (U : Nat)]) 75)) := ⟨by simp, (hT.below B1).below ((Below.refl _ w1).alloc (Nat.le_refl _) _), B1.alloc B1.size _⟩
  have q0 := r0 0 _ rfl
  have q1 := r0 1 _ rfl
  have q2 := r0 2 _ rfl
  have q3 := r0 3 _ rfl
  have q4 := r0 4 _ rfl
  have q5 := r0 5 _ rfl
  have q6 := r0 6 _ rfl
  rw [Nat.zero_add] at q0 q1 q2 q3 q4 q5 q6
  clear r0 B1
  generalize w1.heap.size = b at *
  generalize w1.alloc (.cells (List.toArray [.int .i64 (Y : Nat), .int .i64 (M : Nat), .int .i64 (D : Nat), .int .i64 (H : Nat), .int .i64 (I : Nat), .int .i64 (S : Nat), .int .i64 (U : Nat)]) 75) = W at *
  have X1 := X0.drew
  go_region_held3 (fun w' => XS w b w' ∧ w'.cell? ⟨b, 0, none⟩ = some (.int .i64 (Y : Nat)) ∧ w'.cell? ⟨b, 1, none⟩ = some (.int .i64 (M : Nat)) ∧ w'.cell? ⟨b, 2, none⟩ = some (.int .i64 (D : Nat)) ∧ w'.cell? ⟨b, 3, none⟩ = some (.int .i64 (H : Nat)) ∧ w'.cell? ⟨b, 4, none⟩ = some (.int .i64 (I : Nat)) ∧ w'.cell? ⟨b, 5, none⟩ = some (.int .i64 (S : Nat)) ∧ w'.cell? ⟨b, 6, none⟩ = some (.int .i64 (U : Nat))) (first | go_keep | assumption) (first | (go_at_call 123; go_split_ands; refine (PY.out _ (XS.tab (by assumption))).mono ?_; rintro e w2 ⟨rfl, hb⟩; have hk := XS.call (by assumption) hb; have q0 := (hb.cell (p := ⟨b, 0, none⟩) (XS.lt (by assumption))).trans (by assumption); have q1 := (hb.cell (p := ⟨b, 1, none⟩) (XS.lt (by assumption))).trans (by assumption); have q2 := (hb.cell (p := ⟨b, 2, none⟩) (XS.lt (by assumption))).trans (by assumption); have q3 := (hb.cell (p := ⟨b, 3, none⟩) (XS.lt (by assumption))).trans (by assumption); have q4 := (hb.cell (p := ⟨b, 4, none⟩) (XS.lt (by assumption))).trans (by assumption); have q5 := (hb.cell (p := ⟨b, 5, none⟩) (XS.lt (by assumption))).trans (by assumption); have q6 := (hb.cell (p := ⟨b, 6, none⟩) (XS.lt (by assumption))).trans (by assumption); clear hb) | (go_at_call 122; go_split_ands; refine (two_any _ _ (XS.tab (by assumption)) (by assumption)).mono ?_; rintro e w2 ⟨rfl, hb⟩; have hk := XS.call (by assumption) hb; have q0 := (hb.cell (p := ⟨b, 0, none⟩) (XS.lt (by assumption))).trans (by assumption); have q1 := (hb.cell (p := ⟨b, 1, none⟩) (XS.lt (by assumption))).trans (by assumption); have q2 := (hb.cell (p := ⟨b, 2, none⟩) (XS.lt (by assumption))).trans (by assumption); have q3 := (hb.cell (p := ⟨b, 3, none⟩) (XS.lt (by assumption))).trans (by assumption); have q4 := (hb.cell (p := ⟨b, 4, none⟩) (XS.lt (by assumption))).trans (by assumption); have q5 := (hb.cell (p := ⟨b, 5, none⟩) (XS.lt (by assumption))).trans (by assumption); have q6 := (hb.cell (p := ⟨b, 6, none⟩) (XS.lt (by assumption))).trans (by assumption); clear hb))
  go_split_ands
  by_cases hc : 0 < d
  · have hc' : (0 : Int) < (d : Int) := by omega
    have E := Lib.hid (show textS Y M D H I S U d = A10 ++ ((⟨#[46]⟩ : ByteArray) ++ (dS U 6).extract 0 d) ++ (⟨#[90]⟩ : ByteArray) by unfold textS; rw [if_pos hc, EB.out])
    go_wp2_with fail
    refine (PU.out _ (XS.tab (by assumption))).mono ?_
    rintro e w3 ⟨rfl, hb3⟩
    have X3 := XS.call (by assumption) hb3
    go_wp2_with fail
    go_ret2
    exact ⟨_, 0, rfl, TI.out _ (E.out).symm, X3.below⟩
  · have hc' : ¬ (0 : Int) < (d : Int) := by omega
    have E := Lib.hid (show textS Y M D H I S U d = A10 ++ (⟨#[90]⟩ : ByteArray) by unfold textS; rw [if_neg hc, EB.out])
    go_wp2_with fail
    go_ret2
    exact ⟨_, 0, rfl, TI.out _ E.out.symm, XS.below (by assumption)⟩
end At
end Go.Proofs.YtaghilgfldaaiaaGreatDoor
/-
  The day texts of times: Day of package moment.
-/
namespace Go.Proofs.YtaghilgfldaaiaaGreatDoor
namespace At
open Go.RowKit Lw Ap Go.Proofs.YtaghilgfldaaiaaGreatDoor.Mp Go.Proofs.YtaghilgfldaaiaaGreatDoor.Mw

def dbS (Y M D : Nat) : ByteArray := dS Y 4 ++ (⟨#[32]⟩ : ByteArray) ++ dS M 2 ++ (⟨#[32]⟩ : ByteArray) ++ dS D 2
def daytS (Y M D q d : Nat) : ByteArray := if 0 < d then dbS Y M D ++ ((⟨#[46]⟩ : ByteArray) ++ dS q d) else dbS Y M D
/-- The digits of the part of a day. -/
def fracQ (p L : Int) (d : Nat) : Nat := p.toNat * 10 ^ d / L.toNat
/-- What Day returns: the text, and the error. -/
def DayIs (t d : Int) (s : ByteArray) (c : Int) : Prop :=
  ((d < 0 ∨ 9 < d) ∧ s = ⟨#[]⟩ ∧ c = 2) ∨ (0 ≤ d ∧ d ≤ 9 ∧ (t < bgv (-10227) 1972 1 ∨ bgv 36525 2100 1 ≤ t) ∧ s = ⟨#[]⟩ ∧ c = 16) ∨
  (0 ≤ d ∧ d ≤ 9 ∧ bgv (-10227) 1972 1 ≤ t ∧ t < bgv 36525 2100 1 ∧ ∃ n y m z k, DayOf t n y m z k ∧ s = daytS y.toNat m.toNat (n - mo y m + 1).toNat (fracQ (t - bgv n y m) (bgv (n + 1) z k - bgv n y m) d.toNat) d.toNat ∧ c = 0)
theorem DayIs.uniq {t d : Int} {s s' : ByteArray} {c c' : Int} (a : DayIs t d s c) (b : DayIs t d s' c') : s = s' ∧ c = c' := by
  rcases a with ⟨a0, a1, a2⟩ | ⟨a0, a1, a2, a3, a4⟩ | ⟨a0, a1, a2, a3, n, y, m, z, k, a4, a5, a6⟩ <;> rcases b with ⟨b0, b1, b2⟩ | ⟨b0, b1, b2, b3, b4⟩ | ⟨b0, b1, b2, b3, n', y', m', z', k', b4, b5, b6⟩
  · exact ⟨by rw [a1, b1], by omega⟩
  · omega
  · omega
  · omega
  · exact ⟨by rw [a3, b3], by omega⟩
  · omega
  · omega
  · omega
  · obtain ⟨rfl, rfl, rfl, rfl, rfl⟩ := a4.uniq b4
    exact ⟨by rw [a5, b5], by omega⟩
end At
end Go.Proofs.YtaghilgfldaaiaaGreatDoor
/-
  Plain laws of MomentRounds: texts and times correspond; no walk here.
-/
namespace Go.Proofs.YtaghilgfldaaiaaGreatDoor
namespace At
open Go.RowKit Lw Ap Go.Proofs.YtaghilgfldaaiaaGreatDoor.Mp Go.Proofs.YtaghilgfldaaiaaGreatDoor.Mw

/-! ### Strings as lists -/
theorem toL_inj {s t : ByteArray} (h : s.data.toList = t.data.toList) : s = t := by
  cases s; cases t
  simp only at h
  rw [Array.toList_inj.1 h]
theorem ext_L (s : ByteArray) (i j : Nat) (hj : j ≤ s.size) : (s.extract i j).data.toList = (s.data.toList.drop i).take (j - i) := by
  simp
theorem bt_L (s : ByteArray) (k : Nat) (hk : k < s.size) : bt s k = ((s.data.toList.getD k 0).toNat : Int) := by
  rw [bt_of s k hk]
  have h : k < s.data.toList.length := by simpa using hk
  rw [List.getD_eq_getElem?_getD, List.getElem?_eq_getElem h]
  rfl
theorem app_L (a b : ByteArray) : (a ++ b).data.toList = a.data.toList ++ b.data.toList := by simp
theorem dS_L (n k : Nat) : (dS n k).data.toList = decL n k := rfl
/-- A digit. -/
abbrev isD (c : UInt8) : Prop := 48 ≤ (c.toNat : Int) ∧ (c.toNat : Int) ≤ 57
theorem dec_all (n k : Nat) : allD (decL n k) := (decL_num k n).2
theorem dec_val {n k : Nat} (h : n < 10 ^ k) : numV (decL n k) = n := by
  rw [numV_yes (dec_all n k), (decL_num k n).1, Nat.mod_eq_of_lt h]
theorem dec2 (n : Nat) : ∃ a b, decL n 2 = [a, b] ∧ isD a ∧ isD b := by
  refine ⟨_, _, rfl, ?_, ?_⟩
  · exact dec_all n 2 _ (by simp [decL])
  · exact dec_all n 2 _ (by simp [decL])
theorem dec4 (n : Nat) : ∃ a b c d, decL n 4 = [a, b, c, d] ∧ isD a ∧ isD b ∧ isD c ∧ isD d := by
  refine ⟨_, _, _, _, rfl, ?_, ?_, ?_, ?_⟩
  · exact dec_all n 4 _ (by simp [decL])
  · exact dec_all n 4 _ (by simp [decL])
  · exact dec_all n 4 _ (by simp [decL])
  · exact dec_all n 4 _ (by simp [decL])
/-- The first nineteen bytes, and the rest. -/
abbrev l19 (a b c d e f g h i j k l m n : UInt8) (r : List UInt8) : List UInt8 := a :: b :: c :: d :: 45 :: e :: f :: 45 :: g :: h :: 84 :: i :: j :: 58 :: k :: l :: 58 :: m :: n :: r
theorem lt_19 {k : Nat} (h : k < 19) : k = 0 ∨ k = 1 ∨ k = 2 ∨ k = 3 ∨ k = 4 ∨ k = 5 ∨ k = 6 ∨ k = 7 ∨ k = 8 ∨ k = 9 ∨ k = 10 ∨ k = 11 ∨ k = 12 ∨ k = 13 ∨ k = 14 ∨ k = 15 ∨ k = 16 ∨ k = 17 ∨ k = 18 := by omega
theorem okD {s p : ByteArray} {k : Nat} (hk : k < s.size) (hp : bt p k = 48) (h : isD (s.data.toList.getD k 0)) : okAt s p k :=
  ⟨fun _ => by rw [bt_L s k hk]; exact h, fun g => absurd hp g⟩
theorem okC {s p : ByteArray} {k : Nat} (hk : k < s.size) (hp : ¬ bt p k = 48) (h : ((s.data.toList.getD k 0).toNat : Int) = bt p k) : okAt s p k :=
  ⟨fun g => absurd g hp, fun _ => by rw [bt_L s k hk]; exact h⟩
theorem like19 {s : ByteArray} {a b c d e f g h i j k l m n : UInt8} (hs : s.data.toList = l19 a b c d e f g h i j k l m n [])
    (ha : isD a) (hb : isD b) (hc : isD c) (hd : isD d) (he : isD e) (hf : isD f) (hg : isD g) (hh : isD h) (hi : isD i) (hj : isD j) (hk : isD k) (hl : isD l) (hm : isD m) (hn : isD n) : likeP s P19 := by
  have sz : s.size = 19 := by have := congrArg List.length hs; simpa using this
  refine ⟨sz, fun q hq => ?_⟩
  rw [sz] at hq
  rcases lt_19 hq with rfl | rfl | rfl | rfl | rfl | rfl | rfl | rfl | rfl | rfl | rfl | rfl | rfl | rfl | rfl | rfl | rfl | rfl | rfl
  all_goals first
    | (refine okD (by omega) (by decide) ?_; rw [hs]; assumption)
    | (refine okC (by omega) (by decide) ?_; rw [hs]; rfl)
/-! ### The parts of such a string -/
theorem nm_L {s : ByteArray} {l : List UInt8} (hs : s.data.toList = l) (i j : Nat) (hj : j ≤ s.size) : nm s i j = numV ((l.drop i).take (j - i)) := by
  unfold nm
  rw [ext_L s i j hj, hs]
/-- The numbers of a text of a time. -/
theorem text_nums {s : ByteArray} {a b c d e f g h i j k l m n : UInt8} {r : List UInt8} (hs : s.data.toList = l19 a b c d e f g h i j k l m n r) :
    nm s 0 4 = numV [a, b, c, d] ∧ nm s 5 7 = numV [e, f] ∧ nm s 8 10 = numV [g, h] ∧ nm s 11 13 = numV [i, j] ∧ nm s 14 16 = numV [k, l] ∧ nm s 17 19 = numV [m, n] := by
  have sz : 19 ≤ s.size := by have := congrArg List.length hs; simp at this; omega
  refine ⟨?_, ?_, ?_, ?_, ?_, ?_⟩ <;> rw [nm_L hs _ _ (by omega)] <;> rfl
theorem base_L (Y M D H I S : Nat) : (baseS Y M D H I S).data.toList = decL Y 4 ++ (45 :: (decL M 2 ++ (45 :: (decL D 2 ++ (84 :: (decL H 2 ++ (58 :: (decL I 2 ++ (58 :: decL S 2))))))))) := by
  unfold baseS
  simp only [app_L, dS_L, List.append_assoc]
  rfl
theorem text_L (Y M D H I S U d : Nat) : (textS Y M D H I S U d).data.toList = decL Y 4 ++ (45 :: (decL M 2 ++ (45 :: (decL D 2 ++ (84 :: (decL H 2 ++ (58 :: (decL I 2 ++ (58 :: (decL S 2 ++ ((if 0 < d then 46 :: (decL U 6).take d else []) ++ [90]))))))))))) := by
  unfold textS
  by_cases h : 0 < d
  · rw [if_pos h, if_pos h]
    simp only [app_L, base_L, List.append_assoc, List.cons_append]
    have e : ((dS U 6).extract 0 d).data.toList = (decL U 6).take d := by
      by_cases h6 : d ≤ 6
      · rw [ext_L _ _ _ (by rw [dS_size]; exact h6)]; rfl
      · simp [dS_L]
    rw [e]
    rfl
  · rw [if_neg h, if_neg h]
    simp only [app_L, base_L, List.append_assoc, List.cons_append]
    rfl
end At
end Go.Proofs.YtaghilgfldaaiaaGreatDoor
