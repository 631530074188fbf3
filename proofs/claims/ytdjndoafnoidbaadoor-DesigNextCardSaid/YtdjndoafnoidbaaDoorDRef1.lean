/-
  The walks of HalfLetter, orderLetter and Check of the reference.
-/
import Derived.Test.YtdjndoafnoidbaaDoorDWalk1
namespace Go.Proofs.YtdjndoafnoidbaaDoor
namespace Dw
open Go.RowKit Dp Lw

set_option maxHeartbeats 400000 in
theorem halfLetter_any (c : Int) (w : World) : Calls Tryd.prog 27 #[.int .u8 c] w fun e w' => e = .returned (.bool (halfB c)) ∧ w = w' := by
  by_cases h3 : c = 73
  · subst h3
    go_enter Tryd.func27, Tryd.ntmps27
    go_wp2
    go_ret
    exact ⟨ret_bool (halfB_false (by unfold halfP; omega)), rfl⟩
  · have e1 : (c != 73) = true := bne_iff_ne.2 h3
    by_cases h1 : 65 ≤ c
    · by_cases h2 : c ≤ 89
      · go_enter Tryd.func27, Tryd.ntmps27
        go_wp2
        go_ret
        exact ⟨ret_bool (halfB_true ⟨h1, h2, h3⟩), rfl⟩
      · go_enter Tryd.func27, Tryd.ntmps27
        go_wp2
        go_ret
        exact ⟨ret_bool (halfB_false (by unfold halfP; omega)), rfl⟩
    · go_enter Tryd.func27, Tryd.ntmps27
      go_wp2
      go_ret
      exact ⟨ret_bool (halfB_false (by unfold halfP; omega)), rfl⟩
set_option maxHeartbeats 400000 in
theorem orderLetter_any (c : Int) (w : World) : Calls Tryd.prog 45 #[.int .u8 c] w fun e w' => e = .returned (.bool (secB c)) ∧ w = w' := by
  by_cases h3 : c = 73
  · subst h3
    go_enter Tryd.func45, Tryd.ntmps45
    go_wp2
    go_ret
    exact ⟨ret_bool (secB_false (by unfold secP; omega)), rfl⟩
  · have e1 : (c != 73) = true := bne_iff_ne.2 h3
    by_cases h1 : 65 ≤ c
    · by_cases h2 : c ≤ 90
      · go_enter Tryd.func45, Tryd.ntmps45
        go_wp2
        go_ret
        exact ⟨ret_bool (secB_true ⟨h1, h2, h3⟩), rfl⟩
      · go_enter Tryd.func45, Tryd.ntmps45
        go_wp2
        go_ret
        exact ⟨ret_bool (secB_false (by unfold secP; omega)), rfl⟩
    · go_enter Tryd.func45, Tryd.ntmps45
      go_wp2
      go_ret
      exact ⟨ret_bool (secB_false (by unfold secP; omega)), rfl⟩

set_option maxHeartbeats 2000000 in
theorem rcheck_any (n y h s c : Int) (w : World) :
    Calls Tryd.prog 25 #[desigV n y h s c] w fun e w' => e = .returned (.int .i64 (errC n y h s c)) ∧ Below w.heap.size w w' := by
  by_cases hn : n = 0
  · subst hn
    by_cases hh : halfP h
    · have b1 := (halfB_true hh).symm
      by_cases hs : secP s
      · have b2 := (secB_true hs).symm
        go_enter Tryd.func25, Tryd.ntmps25
        go_wp2_with (first | (go_at_call 27; refine (halfLetter_any _ _).mono ?_; rintro e w' ⟨rfl, rfl⟩) | (go_at_call 45; refine (orderLetter_any _ _).mono ?_; rintro e w' ⟨rfl, rfl⟩))
        all_goals go_ret
        all_goals
          refine ⟨ret_int ?_, (Below.refl _ _).alloc (Nat.le_refl _) _⟩
          try unfold halfP at hh
          try unfold secP at hs
          unfold errC okD halfP secP
          first | exact (if_pos (by omega)).symm | exact (if_neg (by omega)).symm
      · have b2 := (secB_false hs).symm
        go_enter Tryd.func25, Tryd.ntmps25
        go_wp2_with (first | (go_at_call 27; refine (halfLetter_any _ _).mono ?_; rintro e w' ⟨rfl, rfl⟩) | (go_at_call 45; refine (orderLetter_any _ _).mono ?_; rintro e w' ⟨rfl, rfl⟩))
        all_goals go_ret
        all_goals
          refine ⟨ret_int ?_, (Below.refl _ _).alloc (Nat.le_refl _) _⟩
          try unfold halfP at hh
          try unfold secP at hs
          unfold errC okD halfP secP
          first | exact (if_pos (by omega)).symm | exact (if_neg (by omega)).symm
    · have b1 := (halfB_false hh).symm
      go_enter Tryd.func25, Tryd.ntmps25
      go_wp2_with (first | (go_at_call 27; refine (halfLetter_any _ _).mono ?_; rintro e w' ⟨rfl, rfl⟩) | (go_at_call 45; refine (orderLetter_any _ _).mono ?_; rintro e w' ⟨rfl, rfl⟩))
      all_goals go_ret
      all_goals
        refine ⟨ret_int ?_, (Below.refl _ _).alloc (Nat.le_refl _) _⟩
        try unfold halfP at hh
        try unfold secP at hs
        unfold errC okD halfP secP
        first | exact (if_pos (by omega)).symm | exact (if_neg (by omega)).symm
  · have e1 : (n != 0) = true := bne_iff_ne.2 hn
    go_enter Tryd.func25, Tryd.ntmps25
    go_wp2_with (first | (go_at_call 27; refine (halfLetter_any _ _).mono ?_; rintro e w' ⟨rfl, rfl⟩) | (go_at_call 45; refine (orderLetter_any _ _).mono ?_; rintro e w' ⟨rfl, rfl⟩))
    all_goals go_ret
    all_goals
      refine ⟨ret_int ?_, (Below.refl _ _).alloc (Nat.le_refl _) _⟩
      try unfold halfP at hh
      try unfold secP at hs
      unfold errC okD halfP secP
      first | exact (if_pos (by omega)).symm | exact (if_neg (by omega)).symm
end Dw
end Go.Proofs.YtdjndoafnoidbaaDoor
