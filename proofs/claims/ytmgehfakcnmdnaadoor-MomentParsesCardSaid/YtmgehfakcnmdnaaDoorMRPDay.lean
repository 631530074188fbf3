/-
  The walk of ParseDay of the reference.
-/
import Derived.Test.YtmgehfakcnmdnaaDoorMPDay
import Derived.Test.YtmgehfakcnmdnaaDoorMRParse
namespace Go.Proofs.YtmgehfakcnmdnaaDoor
namespace Ap
open Go.RowKit Lw Go.Proofs.YtmgehfakcnmdnaaDoor.Mp

theorem rpday_not {s : ByteArray} (h : ¬ dayP s) : PDayIs s 0 12 := Or.inr ⟨fun g => h g.1, rfl, rfl⟩
set_option maxRecDepth 100000 in
set_option maxHeartbeats 4000000 in
theorem rpday_short (s : ByteArray) (w : World) (hs : s.size ≤ 100) (h : s.size < 10 ∨ s.size = 11 ∨ 20 < s.size) :
    Calls Tryd.prog 7 #[.string s] w (PDayPost s w) := by
  have N := Lib.hid (rpday_not (s := s) fun g => by have := g.1; have := g.2.1; have := g.2.2.1; omega)
  rcases h with h | h | h
  · have i0 : (s.size : Int) < 10 := by omega
    go_enter Tryd.func7, Tryd.ntmps7
    go_wp2_with fail
    go_ret2
    exact ⟨0, 12, rfl, N.out, Below.refl _ _⟩
  · have i0 : (s.size : Int) = 11 := by omega
    go_enter Tryd.func7, Tryd.ntmps7
    go_wp2_with fail
    go_ret2
    exact ⟨0, 12, rfl, N.out, Below.refl _ _⟩
  · have i0 : 20 < (s.size : Int) := by omega
    go_enter Tryd.func7, Tryd.ntmps7
    go_wp2_with fail
    go_ret2
    exact ⟨0, 12, rfl, N.out, Below.refl _ _⟩
set_option maxRecDepth 100000 in
set_option maxHeartbeats 8000000 in
theorem rpday_long (s : ByteArray) (w : World) (h10 : 10 ≤ s.size) (h11 : s.size ≠ 11) (h20 : s.size ≤ 20) :
    Calls Tryd.prog 7 #[.string s] w (PDayPost s w) := by
  have i0 : ¬ (s.size : Int) < 10 := by omega
  have i1 : ((s.size : Int) == 11) = false := beq_eq_false_iff_ne.2 (by omega)
  have i2 : ¬ 20 < (s.size : Int) := by omega
  have i3 : (10 : Int) ≤ (s.size : Int) := by omega
  have j4 : (4 : Int) ≤ (s.size : Int) := by omega
  have j7 : (7 : Int) ≤ (s.size : Int) := by omega
  have LK := fun w' => like_any (s.extract 0 10) P10 w' (by rw [size_ext s _ _ (by omega)]; omega)
  by_cases lk : likeP (s.extract 0 10) P10
  · rw [decide_eq_true lk] at LK
    replace LK := Lib.hid LK
    have HLK := Lib.hid lk
    clear lk
    go_enter Tryd.func7, Tryd.ntmps7
    go_wp2_with fail
    refine (LK.out _).mono ?_
    rintro e w1 ⟨rfl, hb1⟩
    have B1 := Lib.hid hb1
    clear hb1 LK
    go_wp2_with fail
    refine' via ?hp (fun key => ?hq)
    case hq =>
      go_region_held3 (fun _ => True) (trivial) (first | (go_at_call 13; refine (nm_any s _ _ (by omega) (by omega) _).mono ?_; rintro e w' ⟨rfl, rfl⟩))
      all_goals exact key.out
    case hp =>
      go_wp2_with fail
      refine (Mw.rfrom_any _ _ _ _ _ _ _ _).mono ?_
      rintro e w4 ⟨ti, c, rfl, hfi, hb4⟩
      have B4 := Lib.hid (below_then (B1.out.alloc B1.out.size _).drew hb4)
      have r0 : w4.rangeAt w1.heap.size 0 [.int .i64 (nm s 0 4), .int .i64 (nm s 5 7), .int .i64 (nm s 8 10), .int .i64 0, .int .i64 0, .int .i64 0, .int .i64 0] := rangeAt_below (show (World.drew (w1.alloc (.cells (List.toArray [.int .i64 (nm s 0 4), .int .i64 (nm s 5 7), .int .i64 (nm s 8 10), .int .i64 0, .int .i64 0, .int .i64 0, .int .i64 0]) 37))).rangeAt w1.heap.size 0 [.int .i64 (nm s 0 4), .int .i64 (nm s 5 7), .int .i64 (nm s 8 10), .int .i64 0, .int .i64 0, .int .i64 0, .int .i64 0] from rangeAt_new w1 [.int .i64 (nm s 0 4), .int .i64 (nm s 5 7), .int .i64 (nm s 8 10), .int .i64 0, .int .i64 0, .int .i64 0, .int .i64 0] 37) hb4 (by simp)
      have q0 := r0 0 _ rfl
      have q1 := r0 1 _ rfl
      have q2 := r0 2 _ rfl
      rw [Nat.zero_add] at q0 q1 q2
      clear r0 hb4
      rcases hfi with ⟨f1, f2, rfl⟩ | ⟨f1, rfl, rfl⟩
      · have hw := f1.1
        have F1 := Lib.hid f1
        have tbd := time_bd hw
        rw [← f2] at tbd
        have F2 := Lib.hid f2
        by_cases hz : s.size = 10
        · have i4 : ¬ (10 : Int) < (s.size : Int) := by omega
          have FIN := Lib.hid (show PDayIs s ti 0 from Or.inl ⟨⟨⟨h10, h11, h20, HLK.out, fun h => absurd h (by omega)⟩, f1⟩, by unfold dayV; rw [← f2, show partV s = 0 from if_pos hz, Int.add_zero], rfl⟩)
          clear f1 f2 hw hz
          go_wp2_with fail
          go_ret2
          exact ⟨ti, 0, rfl, FIN.out, B4.out⟩
        · have i4 : (10 : Int) < (s.size : Int) := by omega
          have i5 : (11 : Int) ≤ (s.size : Int) := by omega
          have NN := Lib.hid (nm_any s 11 s.size (Nat.le_refl _) (by omega))
          have hx10 := bt_of s 10 (by omega)
          have nb := nm_bd s 11 s.size (Nat.le_refl _) (by omega)
          by_cases e46 : bt s 10 = 46
          · rw [e46] at hx10
            by_cases nn : 0 ≤ nm s 11 s.size
            · obtain ⟨n, hn⟩ : ∃ n : Nat, nm s 11 s.size = (n : Int) := ⟨(nm s 11 s.size).toNat, by omega⟩
              obtain ⟨D, eD⟩ : ∃ D : Nat, dayLen (nm s 0 4) (nm s 5 7) (nm s 8 10) = (D : Int) := ⟨(dayLen (nm s 0 4) (nm s 5 7) (nm s 8 10)).toNat, by have := dayLen_bd (nm s 0 4) (nm s 5 7) (nm s 8 10); omega⟩
              obtain ⟨T, eT⟩ : ∃ T : Nat, T = 10 ^ (s.size - 11) := ⟨_, rfl⟩
              have dl := dayLen_bd (nm s 0 4) (nm s 5 7) (nm s 8 10)
              have TN : ∀ w', Calls Tryd.prog 14 #[.int .i64 ((s.size - 11 : Nat) : Int)] w' fun e w'' => e = .returned (.int .i64 (T : Int)) ∧ w' = w'' := fun w' => by rw [eT]; exact rten_any (s.size - 11) w' (by omega)
              rw [show (((s.size - 11 : Nat)) : Int) = (s.size : Int) - 11 by omega] at TN
              replace TN := Lib.hid TN
              have ad : allD (s.extract 11 s.size).data.toList := (numV_nn _).1 nn
              have n10 : n < T := by
                have e : (s.extract 11 s.size).data.toList.take (s.extract 11 s.size).data.toList.length = (s.extract 11 s.size).data.toList := List.take_length
                have := (numL_bd _ _ (Nat.le_refl _) (by rw [e]; exact ad)).2
                have hv : numL (s.extract 11 s.size).data.toList = (n : Int) := by rw [← numV_yes ad]; exact hn
                have hl : (s.extract 11 s.size).data.toList.length = s.size - 11 := by
                  have : (s.extract 11 s.size).data.toList.length = (s.extract 11 s.size).size := rfl
                  rw [this, size_ext s _ _ (Nat.le_refl _)]
                rw [e, hv, hl] at this
                rw [eT]
                exact_mod_cast this
              have T10 : T ≤ 1000000000 := by
                have h9 : ∀ r : Nat, r ≤ 9 → 10 ^ r ≤ 1000000000 := by decide
                rw [eT]; exact h9 _ (by omega)
              have PQ : n * D < T * 18446744073709551616 := Nat.lt_of_lt_of_le (Nat.mul_lt_mul_of_pos_right n10 (by omega)) (Nat.mul_le_mul_left _ (by omega))
              have qb : n * D / T ≤ D := by
                have : n * D ≤ T * D := Nat.mul_le_mul_right _ (Nat.le_of_lt n10)
                have h2 := Nat.div_le_div_right (c := T) this
                rw [Nat.mul_div_cancel_left _ (by omega)] at h2
                exact h2
              have PA := Lib.hid (fun w' => Dv.part_any n D T w' (by omega) (by omega) (by omega) PQ (by omega))
              have SE := Lib.hid (fun w' => Mw.seconds_any (nm s 0 4) (nm s 5 7) (nm s 8 10) w' hw)
              have sl := secs_len (nm s 0 4) (nm s 5 7) (nm s 8 10)
              rw [eD] at sl
              have wD : IntKind.i64.wrap (D : Int) = (D : Int) := IntWalk.i64_in _ (by omega)
              have D0 : D ≤ 86401000000 := by omega
              rw [hn] at NN
              have FIN : Hid (∀ v : Int, v = ti + (((n * D / T : Nat) : Int) + (if 0 < n * D % T then 1 else 0)) → PDayIs s v 0) := Lib.hid fun v hv => Or.inl ⟨⟨⟨h10, h11, h20, HLK.out, fun _ => ⟨e46, nn⟩⟩, F1.out⟩, by
                rw [hv]
                unfold dayV partV
                rw [if_neg hz, hn, eD, ← F2.out]
                have eT2 : tenI (s.size - 11) = (T : Int) := by rw [eT]; rfl
                rw [eT2]
                unfold upI
                congr 1
                have e1 : (n : Int) * (D : Int) / (T : Int) = ((n * D / T : Nat) : Int) := by rw [← Int.natCast_mul, ← Int.natCast_ediv]
                have e2 : (n : Int) * (D : Int) % (T : Int) = ((n * D % T : Nat) : Int) := by rw [← Int.natCast_mul, ← Int.natCast_emod]
                rw [e1, e2]
                congr 1
                by_cases g : 0 < n * D % T
                · rw [if_pos g, if_pos (by omega)]
                · rw [if_neg g, if_neg (by omega)], rfl⟩
              clear nn e46 f1 f2 hw hz hn eD eT dl ad n10 PQ nb T10
              generalize n * D / T = q at *
              generalize n * D % T = r at *
              go_wp2_with fail
              refine (NN.out _).mono ?_
              rintro e w' ⟨rfl, rfl⟩
              go_wp2_with fail
              refine (SE.out _).mono ?_
              rintro e w5 ⟨rfl, hb5⟩
              have B5 := Lib.hid (below_then B4.out hb5)
              clear hb5 SE q0 q1 q2
              go_wp2_with fail
              refine (TN.out _).mono ?_
              rintro e w' ⟨rfl, rfl⟩
              go_wp2_with fail
              refine (PA.out _).mono ?_
              rintro e w6 ⟨rfl, hb6⟩
              have B6 := Lib.hid (below_then B5.out hb6)
              clear hb6
              by_cases hr : 0 < r
              · have F := Lib.hid (FIN.out (ti + ((q : Int) + 1)) (by rw [if_pos hr]))
                rw [decide_eq_true hr]
                go_wp2_with fail
                go_ret2
                exact ⟨_, 0, rfl, F.out, B6.out⟩
              · have F := Lib.hid (FIN.out (ti + (q : Int)) (by rw [if_neg hr, Int.add_zero]))
                rw [decide_eq_false hr]
                go_wp2_with fail
                go_ret2
                exact ⟨_, 0, rfl, F.out, B6.out⟩
            · have N := Lib.hid (rpday_not (s := s) fun g => nn (g.2.2.2.2 (by omega)).2)
              have n0 : nm s 11 s.size < 0 := by omega
              clear nn e46 f1 f2 hw hz
              go_wp2_with fail
              refine (NN.out _).mono ?_
              rintro e w' ⟨rfl, rfl⟩
              go_wp2_with fail
              go_ret2
              exact ⟨0, 12, rfl, N.out, B4.out⟩
          · have N := Lib.hid (rpday_not (s := s) fun g => e46 (g.2.2.2.2 (by omega)).1)
            clear f1 f2 hw hz nb
            go_wp2_with fail
            refine (NN.out _).mono ?_
            rintro e w' ⟨rfl, rfl⟩
            go_wp2_with fail
            go_ret2
            exact ⟨0, 12, rfl, N.out, B4.out⟩
      · have N := Lib.hid (show PDayIs s 0 12 from Or.inr ⟨fun g => f1 g.2, rfl, rfl⟩)
        clear f1
        go_wp2_with fail
        go_ret2
        exact ⟨0, 12, rfl, N.out, B4.out⟩
  · have N := Lib.hid (rpday_not (s := s) fun g => lk g.2.2.2.1)
    rw [decide_eq_false lk] at LK
    clear lk
    go_enter Tryd.func7, Tryd.ntmps7
    go_wp2_with fail
    refine (LK _).mono ?_
    rintro e w1 ⟨rfl, hb1⟩
    go_wp2_with fail
    go_ret2
    exact ⟨0, 12, rfl, N.out, hb1⟩
end Ap
end Go.Proofs.YtmgehfakcnmdnaaDoor
