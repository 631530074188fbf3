/-
  The walk of Parse of the reference.
-/
import Derived.Test.YtmgehfakcnmdnaaDoorMParse
import Derived.Test.YtmgehfakcnmdnaaDoorMRef5
import Derived.IntWalk
namespace Go.Proofs.YtmgehfakcnmdnaaDoor
namespace Ap
open Go.RowKit Lw Go.Proofs.YtmgehfakcnmdnaaDoor.Mp

theorem via {p q : Prop} (hp : p) (h : Hid p → q) : q := h (Lib.hid hp)
theorem rinfo7 : (Tryd.prog.info? 37).map (·.size) = some 7 := by kernel_rfl
theorem nm_any (s : ByteArray) (i j : Nat) (hj : j ≤ s.size) (h : j ≤ i + 18) (w : World) : Calls Tryd.prog 13 #[.string (s.extract i j)] w fun e w' => e = .returned (.int .i64 (nm s i j)) ∧ w' = w :=
  (number_any (s.extract i j) w (by rw [size_ext s _ _ hj]; omega)).mono fun _ _ g => ⟨g.1, g.2.symm⟩
theorem nm_bd (s : ByteArray) (i j : Nat) (hj : j ≤ s.size) (h : j ≤ i + 9) : -1 ≤ nm s i j ∧ nm s i j < 1000000000 := by
  unfold nm
  by_cases g : allD (s.extract i j).data.toList
  · rw [numV_yes g]
    have e : (s.extract i j).data.toList.take (s.extract i j).data.toList.length = (s.extract i j).data.toList := List.take_length
    have := numL_bd _ _ (Nat.le_refl _) (by rw [e]; exact g)
    rw [e] at this
    have hl : (s.extract i j).data.toList.length ≤ 9 := by
      have : (s.extract i j).data.toList.length = (s.extract i j).size := rfl
      rw [this, size_ext s _ _ hj]; omega
    have h9 : ∀ r : Nat, r ≤ 9 → (10 : Int) ^ r ≤ 1000000000 := by decide
    have := h9 _ hl
    omega
  · have : numV (s.extract i j).data.toList = -1 := if_neg g
    omega
theorem rparse_not {s : ByteArray} (h : ¬ textP s) : ParseIs s 0 12 := Or.inr ⟨fun g => h g.1, rfl, rfl⟩
set_option maxRecDepth 100000 in
set_option maxHeartbeats 4000000 in
theorem rparse_short (s : ByteArray) (w : World) (hs : s.size ≤ 100) (h : s.size < 20 ∨ s.size = 21 ∨ 27 < s.size) :
    Calls Tryd.prog 5 #[.string s] w (ParsePost s w) := by
  have N := Lib.hid (rparse_not (s := s) fun g => by have := g.1; have := g.2.1; have := g.2.2.1; omega)
  rcases h with h | h | h
  · have i0 : (s.size : Int) < 20 := by omega
    go_enter Tryd.func5, Tryd.ntmps5
    go_wp2_with fail
    go_ret2
    exact ⟨0, 12, rfl, N.out, Below.refl _ _⟩
  · have i0 : (s.size : Int) = 21 := by omega
    go_enter Tryd.func5, Tryd.ntmps5
    go_wp2_with fail
    go_ret2
    exact ⟨0, 12, rfl, N.out, Below.refl _ _⟩
  · have i0 : 27 < (s.size : Int) := by omega
    go_enter Tryd.func5, Tryd.ntmps5
    go_wp2_with fail
    go_ret2
    exact ⟨0, 12, rfl, N.out, Below.refl _ _⟩
/-- The end of the walk: the date is made and taken. -/
theorem parse_end {s : ByteArray} (tp : textP s) : ∀ a c, FromIs (nm s 0 4) (nm s 5 7) (nm s 8 10) (nm s 11 13) (nm s 14 16) (nm s 17 19) (microV s) a c → (c = 0 ∧ ParseIs s a 0) ∨ (c = 2 ∧ ParseIs s 0 12) := fun a c hf => by
  rcases hf with ⟨f1, f2, f3⟩ | ⟨f1, f2, f3⟩
  · exact Or.inl ⟨f3, Or.inl ⟨⟨tp, f1⟩, f2, rfl⟩⟩
  · exact Or.inr ⟨f3, Or.inr ⟨fun k => f1 k.2, rfl, rfl⟩⟩
set_option maxRecDepth 100000 in
set_option maxHeartbeats 8000000 in
theorem rparse_long (s : ByteArray) (w : World) (h20 : 20 ≤ s.size) (h21 : s.size ≠ 21) (h27 : s.size ≤ 27) :
    Calls Tryd.prog 5 #[.string s] w (ParsePost s w) := by
  have i0 : ¬ (s.size : Int) < 20 := by omega
  have i1 : ((s.size : Int) == 21) = false := beq_eq_false_iff_ne.2 (by omega)
  have i2 : ¬ 27 < (s.size : Int) := by omega
  have i3 : (20 : Int) ≤ (s.size : Int) := by omega
  have LK := fun w' => like_any (s.extract 0 19) P19 w' (by rw [size_ext s _ _ (by omega)]; omega)
  have hx := bt_of s (s.size - 1) (by omega)
  have hx19 := bt_of s 19 (by omega)
  by_cases h90 : bt s (s.size - 1) = 90
  · rw [h90] at hx
    by_cases lk : likeP (s.extract 0 19) P19
    · rw [decide_eq_true lk] at LK
      replace LK := Lib.hid LK
      by_cases hz : s.size = 20
      · have i4 : ¬ (20 : Int) < (s.size : Int) := by omega
        have mv : microV s = 0 := if_pos hz
        have PE := Lib.hid (parse_end (s := s) ⟨h20, h21, h27, h90, lk, fun h => absurd h (by omega)⟩)
        rw [mv] at PE
        clear hx19 h90 lk mv
        go_enter Tryd.func5, Tryd.ntmps5
        go_wp2_with fail
        refine (LK.out _).mono ?_
        rintro e w1 ⟨rfl, hb1⟩
        have B1 := Lib.hid hb1
        clear hb1 LK
        go_wp2_with fail
        refine' via ?hp (fun key => ?hq)
        case hq =>
          go_region_held3 (fun _ => True) (trivial) (first | (go_at_call 13; refine (nm_any s _ _ (by omega) (by omega) _).mono ?_; rintro e w' ⟨rfl, rfl⟩))
          all_goals exact key.out
        case hp =>
          go_wp2_with fail
          refine (Mw.rfrom_any _ _ _ _ _ _ _ _).mono ?_
          rintro e w4 ⟨ti, c, rfl, hfi, hb4⟩
          have B4 := Lib.hid (below_then (B1.out.alloc B1.out.size _).drew hb4)
          rcases PE.out ti c hfi with ⟨rfl, hpi⟩ | ⟨rfl, hpi⟩
          · go_wp2_with fail
            go_ret2
            exact ⟨ti, 0, rfl, hpi, B4.out⟩
          · go_wp2_with fail
            go_ret2
            exact ⟨0, 12, rfl, hpi, B4.out⟩
      · have h22 : 22 ≤ s.size := by omega
        have i4 : (20 : Int) < (s.size : Int) := by omega
        have i5 : (19 : Int) < (s.size : Int) := by omega
        have j4 : (4 : Int) ≤ (s.size : Int) := by omega
        have j7 : (7 : Int) ≤ (s.size : Int) := by omega
        have j10 : (10 : Int) ≤ (s.size : Int) := by omega
        have j13 : (13 : Int) ≤ (s.size : Int) := by omega
        have j16 : (16 : Int) ≤ (s.size : Int) := by omega
        have j19 : (19 : Int) ≤ (s.size : Int) := by omega
        have NN := Lib.hid (nm_any s 20 (s.size - 1) (by omega) (by omega))
        have nb := nm_bd s 20 (s.size - 1) (by omega) (by omega)
        by_cases e46 : bt s 19 = 46
        · rw [e46] at hx19
          by_cases nn : 0 ≤ nm s 20 (s.size - 1)
          · have mv : microV s = nm s 20 (s.size - 1) * tenI (27 - s.size) := if_neg hz
            have PE := Lib.hid (parse_end (s := s) ⟨h20, h21, h27, h90, lk, fun _ => ⟨e46, nn⟩⟩)
            rw [mv] at PE
            have TN := fun w' => rten_any (27 - s.size) w' (by omega)
            rw [show (((27 - s.size : Nat)) : Int) = 27 - (s.size : Int) by omega] at TN
            replace TN := Lib.hid TN
            have tb : 1 ≤ tenI (27 - s.size) ∧ tenI (27 - s.size) ≤ 100000 := by
              have : ∀ r : Nat, r ≤ 5 → 1 ≤ tenI r ∧ tenI r ≤ 100000 := by decide
              exact this _ (by omega)
            have mb : 0 ≤ nm s 20 (s.size - 1) * tenI (27 - s.size) ∧ nm s 20 (s.size - 1) * tenI (27 - s.size) ≤ 1000000000 * 100000 :=
              ⟨Int.mul_nonneg nn (by omega), Int.mul_le_mul (by omega) tb.2 (by omega) (by omega)⟩
            have wm : IntKind.i64.wrap (nm s 20 (s.size - 1) * tenI (27 - s.size)) = nm s 20 (s.size - 1) * tenI (27 - s.size) := IntWalk.i64_in _ (by omega)
            clear h90 lk mv e46
            generalize nm s 20 (s.size - 1) = a6 at *
            generalize tenI (27 - s.size) = T at *
            go_enter Tryd.func5, Tryd.ntmps5
            go_wp2_with fail
            refine (LK.out _).mono ?_
            rintro e w1 ⟨rfl, hb1⟩
            have B1 := Lib.hid hb1
            clear hb1 LK
            go_wp2_with fail
            refine (NN.out _).mono ?_
            rintro e w' ⟨rfl, rfl⟩
            go_wp2_with fail
            refine (NN.out _).mono ?_
            rintro e w' ⟨rfl, rfl⟩
            go_wp2_with fail
            refine (TN.out _).mono ?_
            rintro e w' ⟨rfl, rfl⟩
            go_wp2_with fail
            refine' via ?hp (fun key => ?hq)
            case hq =>
              go_region_held3 (fun _ => True) (trivial) (first | (go_at_call 13; refine (nm_any s _ _ (by omega) (by omega) _).mono ?_; rintro e w' ⟨rfl, rfl⟩))
              all_goals exact key.out
            case hp =>
              go_wp2_with fail
              refine (Mw.rfrom_any _ _ _ _ _ _ _ _).mono ?_
              rintro e w4 ⟨ti, c, rfl, hfi, hb4⟩
              have B4 := Lib.hid (below_then (B1.out.alloc B1.out.size _).drew hb4)
              rcases PE.out ti c hfi with ⟨rfl, hpi⟩ | ⟨rfl, hpi⟩
              · go_wp2_with fail
                go_ret2
                exact ⟨ti, 0, rfl, hpi, B4.out⟩
              · go_wp2_with fail
                go_ret2
                exact ⟨0, 12, rfl, hpi, B4.out⟩
          · have N := Lib.hid (rparse_not (s := s) fun g => nn (g.2.2.2.2.2 (by omega)).2)
            have n0 : nm s 20 (s.size - 1) < 0 := by omega
            clear nn e46 h90 lk
            generalize nm s 20 (s.size - 1) = a6 at *
            go_enter Tryd.func5, Tryd.ntmps5
            go_wp2_with fail
            refine (LK.out _).mono ?_
            rintro e w1 ⟨rfl, hb1⟩
            go_wp2_with fail
            refine (NN.out _).mono ?_
            rintro e w' ⟨rfl, rfl⟩
            go_wp2_with fail
            go_ret2
            exact ⟨0, 12, rfl, N.out, hb1⟩
        · have N := Lib.hid (rparse_not (s := s) fun g => e46 (g.2.2.2.2.2 (by omega)).1)
          clear h90 lk nb
          go_enter Tryd.func5, Tryd.ntmps5
          go_wp2_with fail
          refine (LK.out _).mono ?_
          rintro e w1 ⟨rfl, hb1⟩
          go_wp2_with fail
          go_ret2
          exact ⟨0, 12, rfl, N.out, hb1⟩
    · have N := Lib.hid (rparse_not (s := s) fun g => lk g.2.2.2.2.1)
      rw [decide_eq_false lk] at LK
      clear hx19 lk
      go_enter Tryd.func5, Tryd.ntmps5
      go_wp2_with fail
      refine (LK _).mono ?_
      rintro e w1 ⟨rfl, hb1⟩
      go_wp2_with fail
      go_ret2
      exact ⟨0, 12, rfl, N.out, hb1⟩
  · have N := Lib.hid (rparse_not (s := s) fun g => h90 g.2.2.2.1)
    clear hx19
    go_enter Tryd.func5, Tryd.ntmps5
    go_wp2_with fail
    go_ret2
    exact ⟨0, 12, rfl, N.out, Below.refl _ _⟩
end Ap
end Go.Proofs.YtmgehfakcnmdnaaDoor
