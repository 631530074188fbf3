/-
  The walks of place, isHalf and Check of package desig, and of HalfLetter, orderLetter and Check of the reference.
-/
import Derived.Test.YtdjndoafnoidbaaDoorRows
import Derived.Test.YtdjndoafnoidbaaDoorLaw
import Derived.Test.YtdjndoafnoidbaaDoorDPl
import Derived.WalkKit
import Derived.ProofKit
import Derived.Outline
import Derived.Lib.Hide
import Derived.Lib.LaidTab
import Derived.Lib.SmallJoins
import Derived.Deep.QuietTactic
import Derived.BigQuiet
import Derived.WalkLawsBesides
import Derived.WalkSpells
namespace Go.Proofs.YtdjndoafnoidbaaDoor
namespace Dw
open Go.RowKit Dp Lw

theorem ret_int {k : IntKind} {a b : Int} (h : a = b) : Ending.returned (.int k a) = .returned (.int k b) := by rw [h]
theorem ret_bool {a b : Bool} (h : a = b) : Ending.returned (.bool a) = .returned (.bool b) := by rw [h]

theorem gOrd : Tryd.prog.globalNamed "planisphere/desig.orders" = some 0 := by kernel_rfl
/-- The table of the order letters holds what its initialiser lays. -/
def Tab (w : World) : Prop := Lib.TabIs Tryd.prog w "planisphere/desig.orders" .i32 ordL
theorem Tab.below {w w' : World} (h : Tab w) (hb : Below w.heap.size w w') : Tab w' := Joins.tab_stays gOrd h hb (Nat.le_refl _)
theorem Tab.alloc {w : World} (h : Tab w) (o : Obj) : Tab (w.alloc o) := h.below ((Below.refl _ _).alloc (Nat.le_refl _) _)
theorem Tab.cell {w : World} (h : Tab w) (j : Nat) (hj : j < 25) : w.cell? ⟨0, j, none⟩ = some (.int .i32 (ordAt j)) := Lib.TabIs.cell h gOrd j hj

set_option maxHeartbeats 400000 in
theorem index_any (c : Int) (w : World) (hT : Tab w) (h0 : 0 ≤ c) (h1 : c < 256) :
    Calls Tryd.prog 49 #[.slice (some ⟨0, 0, none⟩) 25 25, .int .i32 c] w fun e w' => e = .returned (.int .i64 (placeI c)) ∧ w = w' := by
  go_enter Tryd.func49, Tryd.ntmps49
  go_wp2
  go_loop [5, 8] (fun x i => ∃ j : Nat, j ≤ 25 ∧ i = .int .i64 j ∧ Before c j) (fun _ i => 25 - (intOf i).toNat)
  case atStart => exact ⟨0, by omega, rfl, before_0 c⟩
  case round =>
    obtain ⟨j, hj, rfl, hB⟩ := hrel
    by_cases hlt : j < 25
    · have ck := hT.cell j hlt
      have i1 : (j : Int) < 25 := by omega
      by_cases he : ordAt j = c
      · have e1 : (c == ordAt j) = true := beq_iff_eq.2 he.symm
        have hp := Lib.hid (place_ord j hlt)
        have He := Lib.hid he
        clear he
        go_wp2
        go_ret
        exact ⟨ret_int (by rw [← He.out, hp.out]), rfl⟩
      · have e1 : (c == ordAt j) = false := beq_eq_false_iff_ne.2 (fun e => he e.symm)
        have HB := Lib.hid (before_s hB he)
        clear he hB
        go_wp2
        go_round
        case rel => exact ⟨j + 1, by omega, by go_num, HB.out⟩
        case measure => simp [intOf]; omega
    · obtain rfl : j = 25 := by omega
      have hp := Lib.hid (place_none h0 h1 hB)
      go_wp2
      go_ret
      exact ⟨ret_int hp.out.symm, rfl⟩

set_option maxHeartbeats 400000 in
theorem place_any (c : Int) (w : World) (hT : Tab w) (h0 : 0 ≤ c) (h1 : c < 256) :
    Calls Tryd.prog 33 #[.int .u8 c] w fun e w' => e = .returned (.int .i64 (placeI c)) ∧ w = w' := by
  go_enter Tryd.func33, Tryd.ntmps33
  go_wp2_with fail
  refine (index_any _ _ hT h0 h1).mono ?_
  rintro e w' ⟨rfl, rfl⟩
  go_wp2_with fail
  go_ret
  exact ⟨rfl, rfl⟩

set_option maxHeartbeats 400000 in
theorem isHalf_any (c : Int) (w : World) (hT : Tab w) (h0 : 0 ≤ c) (h1 : c < 256) :
    Calls Tryd.prog 32 #[.int .u8 c] w fun e w' => e = .returned (.bool (decide (0 ≤ placeI c) && decide (placeI c < 24))) ∧ w = w' := by
  go_enter Tryd.func32, Tryd.ntmps32
  go_wp2_with fail
  refine (place_any _ _ hT h0 h1).mono ?_
  rintro e w' ⟨rfl, rfl⟩
  go_wp2_with fail
  all_goals
    go_ret
    exact ⟨ret_bool (by first | (simp [*]; done) | (simp; omega)), rfl⟩

abbrev desigV (n y h s c : Int) : Value := .agg #[.int .i64 n, .int .i64 y, .int .u8 h, .int .u8 s, .int .i64 c]

set_option maxHeartbeats 2000000 in
theorem check_any (n y h s c : Int) (w : World) (hT : Tab w) (h0 : 0 ≤ h) (h1 : h < 256) (s0 : 0 ≤ s) (s1 : s < 256) :
    Calls Tryd.prog 24 #[desigV n y h s c] w fun e w' => e = .returned (.int .i64 (errC n y h s c)) ∧ Below w.heap.size w w' := by
  have hT2 : ∀ o o', Tab ((w.alloc o).alloc o') := fun o o' => (hT.alloc o).alloc o'
  have hhP := Lib.hid (halfP_iff h)
  have hsP := Lib.hid (secP_iff s)
  have HT2 := Lib.hid hT2
  clear hT2
  by_cases hn : n = 0
  · subst hn
    by_cases hc : c ≤ 619
    · have d1 : decide (c ≤ 619) = true := by simpa using hc
      go_enter Tryd.func24, Tryd.ntmps24
      go_wp2_with (first | (go_at_call 32; refine (isHalf_any _ _ (HT2.out _ _) h0 h1).mono ?_; rintro e w' ⟨rfl, rfl⟩) | (go_at_call 33; refine (place_any _ _ (HT2.out _ _) s0 s1).mono ?_; rintro e w' ⟨rfl, rfl⟩))
      all_goals go_ret
      all_goals
        refine ⟨ret_int ?_, ((Below.refl _ _).alloc (Nat.le_refl _) _).alloc (by simp) _⟩
        have g1 := hhP.out
        have g2 := hsP.out
        unfold halfP at g1
        unfold secP at g2
        unfold errC okD halfP secP
        first | exact (if_pos (by omega)).symm | exact (if_neg (by omega)).symm
    · have d1 : decide (c ≤ 619) = false := by simpa using hc
      go_enter Tryd.func24, Tryd.ntmps24
      go_wp2_with (first | (go_at_call 32; refine (isHalf_any _ _ (HT2.out _ _) h0 h1).mono ?_; rintro e w' ⟨rfl, rfl⟩) | (go_at_call 33; refine (place_any _ _ (HT2.out _ _) s0 s1).mono ?_; rintro e w' ⟨rfl, rfl⟩))
      all_goals go_ret
      all_goals
        refine ⟨ret_int ?_, ((Below.refl _ _).alloc (Nat.le_refl _) _).alloc (by simp) _⟩
        have g1 := hhP.out
        have g2 := hsP.out
        unfold halfP at g1
        unfold secP at g2
        unfold errC okD halfP secP
        first | exact (if_pos (by omega)).symm | exact (if_neg (by omega)).symm
  · have e1 : (n != 0) = true := bne_iff_ne.2 hn
    by_cases hc : n ≤ 15396335
    · have d1 : decide (n ≤ 15396335) = true := by simpa using hc
      go_enter Tryd.func24, Tryd.ntmps24
      go_wp2_with (first | (go_at_call 32; refine (isHalf_any _ _ (HT2.out _ _) h0 h1).mono ?_; rintro e w' ⟨rfl, rfl⟩) | (go_at_call 33; refine (place_any _ _ (HT2.out _ _) s0 s1).mono ?_; rintro e w' ⟨rfl, rfl⟩))
      all_goals go_ret
      all_goals
        refine ⟨ret_int ?_, ((Below.refl _ _).alloc (Nat.le_refl _) _).alloc (by simp) _⟩
        have g1 := hhP.out
        have g2 := hsP.out
        unfold halfP at g1
        unfold secP at g2
        unfold errC okD halfP secP
        first | exact (if_pos (by omega)).symm | exact (if_neg (by omega)).symm
    · have d1 : decide (n ≤ 15396335) = false := by simpa using hc
      go_enter Tryd.func24, Tryd.ntmps24
      go_wp2_with (first | (go_at_call 32; refine (isHalf_any _ _ (HT2.out _ _) h0 h1).mono ?_; rintro e w' ⟨rfl, rfl⟩) | (go_at_call 33; refine (place_any _ _ (HT2.out _ _) s0 s1).mono ?_; rintro e w' ⟨rfl, rfl⟩))
      all_goals go_ret
      all_goals
        refine ⟨ret_int ?_, ((Below.refl _ _).alloc (Nat.le_refl _) _).alloc (by simp) _⟩
        have g1 := hhP.out
        have g2 := hsP.out
        unfold halfP at g1
        unfold secP at g2
        unfold errC okD halfP secP
        first | exact (if_pos (by omega)).symm | exact (if_neg (by omega)).symm
end Dw
end Go.Proofs.YtdjndoafnoidbaaDoor
