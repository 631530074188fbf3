/-
  Lemmas and walks, texts joined: TKRP, TKRB, TKRF.
-/
import Derived.StillTailTactics
import Derived.RegionTactic
import Derived.Test.YtjgcbeihgeaimaaGreatDoorTa09
import Derived.Test.YtjgcbeihgeaimaaGreatDoorTa05
import Derived.Test.YtjgcbeihgeaimaaGreatDoorTa06
set_option linter.unusedSimpArgs false
set_option linter.unusedVariables false
/-
  The reference's tracklets: pairs, Pairs.
-/
namespace Go.Proofs.YtjgcbeihgeaimaaGreatDoor
namespace Tw
open Go.RowKit Lw Tk _root_.Go.Proofs.YtjgcbeihgeaimaaGreatDoor.Op Ow Wd

theorem alw_self {u : Rl} (hu : okR u) (a : Ob) : ¬ alw u a a := fun h => by
  have h1 := h.2.1
  have h2 : 1 ≤ u.least := hu.1.1
  unfold dT at h1
  omega
set_option maxRecDepth 100000 in
set_option maxHeartbeats 8000000 in
theorem rpairs_any (x : Option Addr) (cap : Nat) (l : List Ob) (u : Rl) (w : World) (hl : SlA w x l) (hm : l.length ≤ 200) (hok : ∀ o ∈ l, okO o) (hu : okR u) :
    Calls Tryz.prog 17 #[.slice x l.length cap, rlV u] w fun e w' => ∃ V, e = .returned V ∧ OwnG 51 2 prE w' w.heap.size V ((allA l u l.length).map pN) ∧ Below w.heap.size w w' := by
  have F0 := Lib.hid ((Fr.start w).alloc (rlC u) 24)
  have PA := Lib.hid (fun B off (hx : x = some ⟨B, off, none⟩) i j (hi : i < l.length) (hj : j < l.length) w' (hb : Below w.heap.size w w') => pair_at hl hok hx hi hj hb)
  have GX := Lib.hid (fun i (hi : i < l.length) => hl.get hi)
  clear hl hok
  go_enter Tryz.func17, Tryz.ntmps17
  go_wp2_with fail
  have O0 := Lib.hid (OwnG.nil (E := 51) (k := 2) (enc := prE) (w.alloc (.cells (rlC u).toArray 24)) (w.heap.size + 1) (by simp))
  go_loopw [5, 6] (fun v z wr => ∃ k : Nat, z = .int .i64 (k : Int) ∧ k ≤ l.length ∧ Hid (OwnG 51 2 prE wr (w.heap.size + 1) v ((allA l u k).map pN)) ∧ Hid (Fr w [(w.heap.size, rlC u)] wr)) (fun _ z _ => ((l.length : Int) - intOf z).toNat)
  case atStart => exact ⟨0, rfl, by omega, O0, F0⟩
  case round =>
    clear O0 F0
    obtain ⟨k, rfl, hk, OO, FF⟩ := hrel
    have hkk : IntKind.i64.wrap ((k : Int) + 1) = ((k + 1 : Nat) : Int) := by rw [IntKind.wrap_i64]; omega
    by_cases hkn : k < l.length
    · have ki : (k : Int) < (l.length : Int) := by omega
      obtain ⟨B, off, hx, -⟩ := GX.out k hkn
      subst hx
      go_wp2_with fail
      go_loopw [5, 7] (fun v z ws => ∃ j : Nat, z = .int .i64 (j : Int) ∧ j ≤ l.length ∧ Hid (OwnG 51 2 prE ws (w.heap.size + 1) v ((allA l u k ++ rowA l u ⟨k, hkn⟩ j).map pN)) ∧ Hid (Fr w [(w.heap.size, rlC u)] ws)) (fun _ z _ => ((l.length : Int) - intOf z).toNat)
      case atStart => exact ⟨0, rfl, by omega, Lib.hid (by rw [rowA, List.append_nil]; exact OO.out), FF⟩
      case round =>
        clear OO FF
        obtain ⟨j, rfl, hj, OO, FF⟩ := hrel
        have hjj : IntKind.i64.wrap ((j : Int) + 1) = ((j + 1 : Nat) : Int) := by rw [IntKind.wrap_i64]; omega
        by_cases hjn : j < l.length
        · have ji : (j : Int) < (l.length : Int) := by omega
          by_cases ha : alw u (l[k]'hkn) (l[j]'hjn)
          · have hne : k ≠ j := fun e => by subst e; exact alw_self hu _ ha
            have e1 : ((k : Int) == (j : Int)) = false := beq_eq_false_iff_ne.2 (by omega)
            have al := rallowed_any l.length cap k j B off u _ _ wr (PA.out B off rfl k j hkn hjn wr FF.out.below) hu
            rw [decide_eq_true ha] at al
            have RY := Lib.hid (rowA_yes (i := ⟨k, hkn⟩) hjn ha)
            have hll : ((allA l u k ++ rowA l u ⟨k, hkn⟩ j).map pN).length ≤ 1000000 := by
              rw [List.length_map]
              have : (allA l u k ++ rowA l u ⟨k, hkn⟩ j).length < l.length * l.length := allA_bound l u ⟨k, hkn⟩ hjn
              have := Nat.mul_le_mul hm hm
              omega
            have c0 := FF.out.cell 0 0 rfl rfl
            have c1 := FF.out.cell 0 1 rfl rfl
            have c2 := FF.out.cell 0 2 rfl rfl
            have c3 := FF.out.cell 0 3 rfl rfl
            have c4 := FF.out.cell 0 4 rfl rfl
            go_wp2_with (first | (go_at_call 33; refine al.mono ?_; rintro e w2 ⟨rfl, hb⟩; have F2 := Lib.hid (FF.out.call hb); have O2 := Lib.hid (OO.out.below hb); clear hb) | (at_builtin; refine wp_appG 26 (.agg #[.int .i64 0, .int .i64 0]) 16 info_pr Tryz.underlying26 rfl (by decide) (by decide) (fun _ => rfl) prE_one _ rfl (.tmp 30) (.tmp 34) rfl (w.heap.size + 1) _ _ (k, j) rfl rfl O2.out hll ?_; intro v' w3 hO hb3; have O3 := Lib.hid hO; have F3 := Lib.hid (F2.out.grow hb3 (by omega) (fun p hp => by rcases List.mem_singleton.1 hp with rfl; exact Nat.lt_succ_self _)); clear hO hb3))
            go_roundw
            case rel => exact ⟨j + 1, rfl, by omega, Lib.hid (by rw [RY.out, ← List.append_assoc, List.map_append]; exact O3.out), F3⟩
            case measure => simp [intOf]; omega
          · have RN := Lib.hid (rowA_no (i := ⟨k, hkn⟩) hjn ha)
            by_cases hne : k = j
            · have e1 : ((k : Int) == (j : Int)) = true := by rw [hne]; exact beq_self_eq_true _
              go_wp2_with fail
              go_roundw
              case rel => exact ⟨j + 1, rfl, by omega, Lib.hid (by rw [RN.out]; exact OO.out), FF⟩
              case measure => simp [intOf]; omega
            · have e1 : ((k : Int) == (j : Int)) = false := beq_eq_false_iff_ne.2 (by omega)
              have al := rallowed_any l.length cap k j B off u _ _ wr (PA.out B off rfl k j hkn hjn wr FF.out.below) hu
              rw [decide_eq_false ha] at al
              have c0 := FF.out.cell 0 0 rfl rfl
              have c1 := FF.out.cell 0 1 rfl rfl
              have c2 := FF.out.cell 0 2 rfl rfl
              have c3 := FF.out.cell 0 3 rfl rfl
              have c4 := FF.out.cell 0 4 rfl rfl
              go_wp2_with (go_at_call 33; refine al.mono ?_; rintro e w2 ⟨rfl, hb⟩; have F2 := Lib.hid (FF.out.call hb); have O2 := Lib.hid (OO.out.below hb); clear hb)
              go_roundw
              case rel => exact ⟨j + 1, rfl, by omega, Lib.hid (by rw [RN.out]; exact O2.out), F2⟩
              case measure => simp [intOf]; omega
        · obtain rfl : j = l.length := by omega
          have ON := Lib.hid (by have := OO.out; rw [← allA_succ hkn] at this; exact this)
          go_wp2_with fail
          go_roundw
          case rel => exact ⟨k + 1, rfl, by omega, ON, FF⟩
          case measure => simp [intOf]; omega
    · obtain rfl : k = l.length := by omega
      go_wp2_with fail
      refine bodyPost_ret (results_tmp rfl _ _ _) rfl ⟨_, rfl, OO.out.least (by omega), FF.out.below⟩
set_option maxRecDepth 100000 in
set_option maxHeartbeats 8000000 in
theorem rpairs2_any (x : Option Addr) (cap : Nat) (l : List Ob) (u : Rl) (w : World) (hl : SlA w x l) (hm : l.length ≤ 1000000) (hb : OBs l) :
    Calls Tryz.prog 6 #[.slice x l.length cap, rlV u] w fun e w' => ∃ V, e = .returned (.tuple #[V, .int .i64 (stT l u)]) ∧ OwnG 51 2 prE w' w.heap.size V (pairsL l u) ∧ Below w.heap.size w w' := by
  have F0 := Lib.hid ((Fr.start w).alloc (rlC u) 24)
  have c0 := F0.out.cell 0 0 rfl rfl
  have c1 := F0.out.cell 0 1 rfl rfl
  have c2 := F0.out.cell 0 2 rfl rfl
  have c3 := F0.out.cell 0 3 rfl rfl
  have c4 := F0.out.cell 0 4 rfl rfl
  have ST := rstart_any x cap l u _ (hl.below F0.out.below) hm hb
  by_cases h0 : stT l u = 0
  · obtain ⟨hlen, hok, hu⟩ := stT_ok h0
    have PP := Lib.hid (fun w' (hbw : Below w.heap.size w w') => rpairs_any x cap l u w' (hl.below hbw) hlen hok hu)
    have EP : pairsL l u = (allA l u l.length).map pN := if_pos h0
    rw [h0] at ST ⊢
    rw [EP]
    clear hl hb h0
    go_enter Tryz.func6, Tryz.ntmps6
    go_wp2_with (first | (go_at_call 16; refine ST.mono ?_; rintro e w1 ⟨rfl, hb⟩; have F1 := F0.out.call hb; have c0 := F1.cell 0 0 rfl rfl; have c1 := F1.cell 0 1 rfl rfl; have c2 := F1.cell 0 2 rfl rfl; have c3 := F1.cell 0 3 rfl rfl; have c4 := F1.cell 0 4 rfl rfl; have F1 := Lib.hid F1; clear hb) | (go_at_call 17; refine (PP.out _ F1.out.below).mono ?_; rintro e w2 ⟨V, rfl, hO, hb2⟩))
    exact bodyPost_ret (results_tmp2 rfl _ _ _) rfl ⟨V, rfl, hO.least F1.out.below.size, below_then F1.out.below hb2⟩
  · have EP : pairsL l u = [] := if_neg h0
    rw [EP]
    generalize stT l u = c at *
    clear hl hb
    go_enter Tryz.func6, Tryz.ntmps6
    go_wp2_with (go_at_call 16; refine ST.mono ?_; rintro e w1 ⟨rfl, hb⟩; have F1 := Lib.hid (F0.out.call hb); clear hb)
    exact bodyPost_ret (results_tmp2 rfl _ _ _) rfl ⟨.slice none 0 0, rfl, OwnG.nil _ _ F1.out.below.size, F1.out.below⟩
end Tw
end Go.Proofs.YtjgcbeihgeaimaaGreatDoor
/-
  The reference's tracklets: Between.
-/
namespace Go.Proofs.YtjgcbeihgeaimaaGreatDoor
namespace Tw
open Go.RowKit Lw Tk _root_.Go.Proofs.YtjgcbeihgeaimaaGreatDoor.Op Ow Wd

theorem sub_pair (e x s : Int) (T : Nat) (V1 V2 : Value) (p1 : Int) (q1 : Nat) (w : World) (he : e.natAbs ≤ 648000000000) (h1 : FracZ 0 w V1 e 1) (h2 : FracZ 0 w V2 p1 q1) (hI : IsFrac (x * s) T p1 q1) (lp : (canon p1.natAbs).length ≤ 4) (lq : (canon q1).length ≤ 2) :
    Calls Tryz.prog 46 #[V1, V2] w fun en w' => ∃ V p2 q2, en = .returned (.tuple #[V, .int .i64 0]) ∧ IsFrac (e * (q1 : Int) - p1 * ((1 : Nat) : Int)) (1 * q1) p2 q2 ∧ FracZ 0 w' V p2 q2 ∧ (canon p2.natAbs).length ≤ 5 ∧ (canon q2).length ≤ 2 ∧ Below w.heap.size w w' := by
  have le : (canon e.natAbs).length ≤ 2 := canon_len 2 _ (by omega)
  refine (rfsub_any V1 V2 e p1 1 q1 w h1 (by decide) (by simp) (by omega) one_len h2 hI.pos hI.cop (by omega) (by omega)).mono ?_
  rintro en w' ⟨V, p2, q2, rfl, hJ, hV, hb⟩
  refine ⟨V, p2, q2, rfl, hJ, hV.mono (Nat.zero_le _), Nat.le_trans (canon_mono hJ.pn) ?_, Nat.le_trans (canon_mono hJ.qd) (by rw [Nat.one_mul]; exact lq), hb⟩
  refine sub_len _ _ 4 ?_ ?_
  · have := canon_mul_len e.natAbs q1
    rw [Int.natAbs_mul, Int.natAbs_natCast]; omega
  · rw [show ((1 : Nat) : Int) = 1 from rfl, Int.mul_one]; exact lp
set_option maxRecDepth 100000 in
set_option maxHeartbeats 8000000 in
theorem rbetween_any (n c i j k B off : Nat) (u : Rl) (a b d : Ob) (w : World) (hP : PairAt w B off n i j a b) (hQ : PairAt w B off n i k a d) (hu : okR u) :
    Calls Tryz.prog 26 #[.slice (some ⟨B, off, none⟩) n c, rlV u, .int .i64 i, .int .i64 j, .int .i64 k] w fun e w' => e = .returned (.bool (decide (k = i ∨ k = j ∨ btw u a b d))) ∧ Below w.heap.size w w' := by
  have F0 := Lib.hid ((Fr.start w).alloc (rlC u) 24)
  have i0 : (0 : Int) ≤ (i : Int) := by omega
  have i1 : (i : Int) < (n : Int) := by have := hP.hi; omega
  have j0 : (0 : Int) ≤ (j : Int) := by omega
  have j1 : (j : Int) < (n : Int) := by have := hP.hj; omega
  have k0 : (0 : Int) ≤ (k : Int) := by omega
  have k1 : (k : Int) < (n : Int) := by have := hQ.hj; omega
  by_cases hki : k = i
  · rw [decide_eq_true (Or.inl hki)]
    have e1 : ((k : Int) == (i : Int)) = true := by rw [hki]; exact beq_self_eq_true _
    clear hP hQ hu
    go_enter Tryz.func26, Tryz.ntmps26
    go_wp2_with fail
    all_goals first | exact bodyPost_ret (results_tmp rfl _ _ _) rfl ⟨rfl, F0.out.below⟩ | (exfalso; omega) | (exfalso; simp_all)
  by_cases hkj : k = j
  · rw [decide_eq_true (Or.inr (Or.inl hkj))]
    have e1 : ((k : Int) == (i : Int)) = false := beq_eq_false_iff_ne.2 (by omega)
    have e2 : ((k : Int) == (j : Int)) = true := by rw [hkj]; exact beq_self_eq_true _
    clear hP hQ hu
    go_enter Tryz.func26, Tryz.ntmps26
    go_wp2_with fail
    all_goals first | exact bodyPost_ret (results_tmp rfl _ _ _) rfl ⟨rfl, F0.out.below⟩ | (exfalso; omega) | (exfalso; simp_all)
  have e1 : ((k : Int) == (i : Int)) = false := beq_eq_false_iff_ne.2 (by omega)
  have e2 : ((k : Int) == (j : Int)) = false := beq_eq_false_iff_ne.2 (by omega)
  have ER : decide (k = i ∨ k = j ∨ btw u a b d) = decide (btw u a b d) := decide_eq_decide.2 ⟨fun h => by rcases h with h | h | h; exact absurd h hki; exact absurd h hkj; exact h, fun h => Or.inr (Or.inr h)⟩
  rw [ER]
  have AW1 := Lib.hid (fun w' => raway_any a b w' hP.ok hP.kb)
  have AW2 := Lib.hid (fun w' => raway_any a d w' hQ.ok hQ.kb)
  have RA := Lib.hid (fun w' (hb : Below w.heap.size w w') => (hP.below hb).ra)
  have RB := Lib.hid (fun w' (hb : Below w.heap.size w w') => (hP.below hb).rb)
  have RD := Lib.hid (fun w' (hb : Below w.heap.size w w') => (hQ.below hb).rb)
  have SA := Lib.hid (fun w' (hb : Below w.heap.size w w') => (hP.below hb).siteA)
  have SD := Lib.hid (fun w' (hb : Below w.heap.size w w') => (hQ.below hb).siteB)
  have TA := Lib.hid (fun w' (hb : Below w.heap.size w w') => (hP.below hb).timeA)
  have TB := Lib.hid (fun w' (hb : Below w.heap.size w w') => (hP.below hb).timeB)
  have TD := Lib.hid (fun w' (hb : Below w.heap.size w w') => (hQ.below hb).timeB)
  have hd := hP.dif
  have he := hQ.dif
  have ho := hu.2.2.1
  have WX := Lib.hid (fun w' => whole_any (dX a d) w' (by have := he.x0; omega) (by have := he.x1; omega))
  have WY := Lib.hid (fun w' => whole_any (dY a d) w' (by have := he.y0; omega) (by have := he.y1; omega))
  have OX := Lib.hid (fun (T : Nat) w' (h0 : 0 < T) (h1 : T < 9223372036854775808) => over_pair (dX a b) (dT a d) T w' (by have := hd.x0; have := hd.x1; omega) (by have := he.t0; have := he.t1; omega) h0 h1)
  have OY := Lib.hid (fun (T : Nat) w' (h0 : 0 < T) (h1 : T < 9223372036854775808) => over_pair (dY a b) (dT a d) T w' (by have := hd.y0; have := hd.y1; omega) (by have := he.t0; have := he.t1; omega) h0 h1)
  have SX := Lib.hid (fun T V1 V2 p1 q1 w' => sub_pair (dX a d) (dX a b) (dT a d) T V1 V2 p1 q1 w' (by have := he.x0; have := he.x1; omega))
  have SY := Lib.hid (fun T V1 V2 p1 q1 w' => sub_pair (dY a d) (dY a b) (dT a d) T V1 V2 p1 q1 w' (by have := he.y0; have := he.y1; omega))
  have MS := Lib.hid (fun V p q w' (hI : 0 < q ∧ Nat.gcd p.natAbs q = 1) (hV : FracZ 0 w' V p q) (lp : (canon p.natAbs).length ≤ 5) (lq : (canon q).length ≤ 2) => most_any V p q u.off w' hV hI.1 hI.2 (by omega) (by omega) (by omega) (by omega))
  have t0 : -9223372036854775808 ≤ b.t - a.t := by have := hd.t0; unfold dT at this; omega
  have t1 : b.t - a.t < 9223372036854775808 := by have := hd.t1; unfold dT at this; omega
  have t2 : -9223372036854775808 ≤ d.t - a.t := by have := he.t0; unfold dT at this; omega
  have t3 : d.t - a.t < 9223372036854775808 := by have := he.t1; unfold dT at this; omega
  have t4 : dT a b < 9223372036854775808 := t1
  have DT : Hid (b.t - a.t = dT a b) := Lib.hid rfl
  have DS : Hid (d.t - a.t = dT a d) := Lib.hid rfl
  have YES : Hid (d.site = a.site → 0 < dT a d → dT a d < dT a b → (dX a d * dT a b - dX a b * dT a d).natAbs ≤ mag u.off (dT a b) → decide (btw u a b d) = decide ((dY a d * dT a b - dY a b * dT a d).natAbs ≤ mag u.off (dT a b))) := Lib.hid (fun h1 h2 h3 h4 => decide_eq_decide.2 ⟨fun h => h.2.2.2.2, fun h => ⟨h1, h2, h3, h4, h⟩⟩)
  have NOX : Hid (¬ (dX a d * dT a b - dX a b * dT a d).natAbs ≤ mag u.off (dT a b) → decide (btw u a b d) = false) := Lib.hid (fun h1 => decide_eq_false (fun h => h1 h.2.2.2.1))
  have NOS : Hid (¬ (d.site = a.site ∧ 0 < dT a d ∧ dT a d < dT a b) → decide (btw u a b d) = false) := Lib.hid (fun h1 => decide_eq_false (fun h => h1 ⟨h.1, h.2.1, h.2.2.1⟩))
  generalize decide (btw u a b d) = R at *
  have L1 : Hid (d.t ≤ a.t ↔ dT a d ≤ 0) := Lib.hid (by unfold dT; omega)
  have L2 : Hid (b.t ≤ d.t ↔ dT a b ≤ dT a d) := Lib.hid (by unfold dT; omega)
  generalize dX a b = dx at *
  generalize dY a b = dy at *
  generalize dT a b = dt at *
  generalize dX a d = ex at *
  generalize dY a d = ey at *
  generalize dT a d = ds at *
  clear hP hQ hu hd he hki hkj ER
  go_enter Tryz.func26, Tryz.ntmps26
  go_wp2_with fail
  have at1 := SA.out _ F0.out.below
  have at2 := TA.out _ F0.out.below
  have bt2 := TB.out _ F0.out.below
  have dt1 := SD.out _ F0.out.below
  have dt2 := TD.out _ F0.out.below
  by_cases hs : d.site = a.site
  rotate_left
  · have es := site_ne hs
    obtain rfl := NOS.out (fun h => hs h.1)
    clear YES NOX NOS OX OY MS RA RB RD AW1 AW2 SA SD TA TB TD SX SY WX WY L1 L2
    go_quiet (fail)
    go_wp2_with fail
    first | exact bodyPost_ret (results_tmp rfl _ _ _) rfl ⟨rfl, drewN_below2 F0.out.below _⟩ | exact bodyPost_ret (results_tmp rfl _ _ _) rfl ⟨rfl, drewN_below2 (drewN_below2 F0.out.below _) _⟩
  have es := site_eq hs
  by_cases h1 : d.t ≤ a.t
  · have := L1.out.1 h1
    obtain rfl := NOS.out (fun h => by omega)
    clear YES NOX NOS OX OY MS RA RB RD AW1 AW2 SA SD TA TB TD SX SY WX WY L1 L2
    go_quiet (fail)
    go_wp2_with fail
    first | exact bodyPost_ret (results_tmp rfl _ _ _) rfl ⟨rfl, drewN_below2 F0.out.below _⟩ | exact bodyPost_ret (results_tmp rfl _ _ _) rfl ⟨rfl, drewN_below2 (drewN_below2 F0.out.below _) _⟩
  by_cases h2 : b.t ≤ d.t
  · have := L2.out.1 h2
    obtain rfl := NOS.out (fun h => by omega)
    clear YES NOX NOS OX OY MS RA RB RD AW1 AW2 SA SD TA TB TD SX SY WX WY L1 L2
    go_quiet (fail)
    go_wp2_with fail
    first | exact bodyPost_ret (results_tmp rfl _ _ _) rfl ⟨rfl, drewN_below2 F0.out.below _⟩ | exact bodyPost_ret (results_tmp rfl _ _ _) rfl ⟨rfl, drewN_below2 (drewN_below2 F0.out.below _) _⟩
  have g1 : 0 < ds := Int.not_le.1 (fun h => h1 (L1.out.2 h))
  have g2 : ds < dt := Int.not_le.1 (fun h => h2 (L2.out.2 h))
  have YES2 := Lib.hid (YES.out hs g1 g2)
  clear NOS YES L1 L2
  go_quiet (fail)
  have F2 := Lib.hid (F0.out.drewN nq)
  clear F0 at1 at2 bt2 dt1 dt2 es h1 h2 hs
  obtain ⟨T, rfl⟩ : ∃ T : Nat, dt = (T : Int) := ⟨dt.toNat, by omega⟩
  have T0 : 0 < T := by omega
  have T1 : T < 9223372036854775808 := by omega
  go_wp2_with fail
  generalize (w.alloc (.cells (rlC u).toArray 24)).drewN nq = wz at *
  have KR := fun w' (h : Fr w [(w.heap.size, rlC u)] w') => (show w'.rangeAt B (off + i * 8) (obsC a) ∧ w'.rangeAt B (off + j * 8) (obsC b) ∧ w'.rangeAt B (off + k * 8) (obsC d) from ⟨RA.out _ h.below, RB.out _ h.below, RD.out _ h.below⟩)
  have FQ := F2
  clear F2
  refine wp_region_held_drew (S := fun w' => w'.rangeAt B (off + i * 8) (obsC a) ∧ w'.rangeAt B (off + j * 8) (obsC b) ∧ w'.rangeAt B (off + k * 8) (obsC d)) (by kernel_rfl) (KR _ FQ.out.drew) (fun hHeld => ?_)
  have FQ := Lib.hid FQ.out.drew
  refine wpAnyH_take (i := 0) (oi := ?oi0x1) (v := ?v0x1) ?hi0x1 (by kernel_rfl) (by kernel_rfl) (by kernel_rfl) ?hq0x1 ?hy0x1 hHeld ?rest0x1
  case hi0x1 => ((try simp only [List.getElem?_toArray, List.getElem?_cons_succ, List.getElem?_cons_zero]); (try rfl))
  case hq0x1 => exact fun _ _ _ h => h
  case hy0x1 => exact Or.inl ⟨by rfl, by intro w hSw; clear hSw; go_simp; try with_reducible rfl⟩
  try simp only [Act.put, List.setIfInBounds_toArray, List.set_cons_zero, List.set_cons_succ]
  refine wpAnyH_take (i := 1) (oi := ?oi1x2) (v := ?v1x2) ?hi1x2 (by kernel_rfl) (by kernel_rfl) (by kernel_rfl) ?hq1x2 ?hy1x2 hHeld ?rest1x2
  case hi1x2 => ((try simp only [List.getElem?_toArray, List.getElem?_cons_succ, List.getElem?_cons_zero]); (try rfl))
  case hq1x2 => exact fun _ _ _ h => h
  case hy1x2 => exact Or.inl ⟨by rfl, by intro w hSw; clear hSw; go_simp; try with_reducible rfl⟩
  try simp only [Act.put, List.setIfInBounds_toArray, List.set_cons_zero, List.set_cons_succ]
  refine wpAnyH_take (i := 2) (oi := ?oi2x3) (v := ?v2x3) ?hi2x3 (by kernel_rfl) (by kernel_rfl) (by kernel_rfl) ?hq2x3 ?hy2x3 hHeld ?rest2x3
  case hi2x3 => ((try simp only [List.getElem?_toArray, List.getElem?_cons_succ, List.getElem?_cons_zero]); (try rfl))
  case hq2x3 => exact fun _ _ _ h => h
  case hy2x3 => exact Or.inl ⟨by rfl, by intro w hSw; clear hSw; go_simp; try with_reducible rfl⟩
  try simp only [Act.put, List.setIfInBounds_toArray, List.set_cons_zero, List.set_cons_succ]
  refine wpAnyH_take (i := 3) (oi := ?oi3x4) (v := ?v3x4) ?hi3x4 (by kernel_rfl) (by kernel_rfl) (by kernel_rfl) ?hq3x4 ?hy3x4 hHeld ?rest3x4
  case hi3x4 => ((try simp only [List.getElem?_toArray, List.getElem?_cons_succ, List.getElem?_cons_zero]); (try rfl))
  case hq3x4 => exact fun _ _ _ h => h
  case hy3x4 =>
    refine' yieldsIf_load_mid ?_ 44 (.tmp 69) ?_ B (off + i * 8) ?_ (obsC a) _ ?_ Tryz.underlying44 ?_ info8
    · rfl
    · rfl
    · rfl
    · exact fun _ h => h.1
    · rfl
  try simp only [Act.put, List.setIfInBounds_toArray, List.set_cons_zero, List.set_cons_succ]
  refine wpAnyH_take (i := 4) (oi := ?oi4x5) (v := ?v4x5) ?hi4x5 (by kernel_rfl) (by kernel_rfl) (by kernel_rfl) ?hq4x5 ?hy4x5 hHeld ?rest4x5
  case hi4x5 => ((try simp only [List.getElem?_toArray, List.getElem?_cons_succ, List.getElem?_cons_zero]); (try rfl))
  case hq4x5 => exact fun _ _ _ h => h
  case hy4x5 => exact Or.inl ⟨by rfl, by intro w hSw; clear hSw; go_simp; try with_reducible rfl⟩
  try simp only [Act.put, List.setIfInBounds_toArray, List.set_cons_zero, List.set_cons_succ]
  refine wpAnyH_take (i := 5) (oi := ?oi5x6) (v := ?v5x6) ?hi5x6 (by kernel_rfl) (by kernel_rfl) (by kernel_rfl) ?hq5x6 ?hy5x6 hHeld ?rest5x6
  case hi5x6 => ((try simp only [List.getElem?_toArray, List.getElem?_cons_succ, List.getElem?_cons_zero]); (try rfl))
  case hq5x6 => exact fun _ _ _ h => h
  case hy5x6 => exact Or.inl ⟨by rfl, by intro w hSw; clear hSw; go_simp; try with_reducible rfl⟩
  try simp only [Act.put, List.setIfInBounds_toArray, List.set_cons_zero, List.set_cons_succ]
  refine wpAnyH_take (i := 6) (oi := ?oi6x7) (v := ?v6x7) ?hi6x7 (by kernel_rfl) (by kernel_rfl) (by kernel_rfl) ?hq6x7 ?hy6x7 hHeld ?rest6x7
  case hi6x7 => ((try simp only [List.getElem?_toArray, List.getElem?_cons_succ, List.getElem?_cons_zero]); (try rfl))
  case hq6x7 => exact fun _ _ _ h => h
  case hy6x7 => exact Or.inl ⟨by rfl, by intro w hSw; clear hSw; go_simp; try with_reducible rfl⟩
  try simp only [Act.put, List.setIfInBounds_toArray, List.set_cons_zero, List.set_cons_succ]
  refine wpAnyH_take (i := 7) (oi := ?oi7x8) (v := ?v7x8) ?hi7x8 (by kernel_rfl) (by kernel_rfl) (by kernel_rfl) ?hq7x8 ?hy7x8 hHeld ?rest7x8
  case hi7x8 => ((try simp only [List.getElem?_toArray, List.getElem?_cons_succ, List.getElem?_cons_zero]); (try rfl))
  case hq7x8 => exact fun _ _ _ h => h
  case hy7x8 =>
    refine' yieldsIf_load_mid ?_ 44 (.tmp 73) ?_ B (off + j * 8) ?_ (obsC b) _ ?_ Tryz.underlying44 ?_ info8
    · rfl
    · rfl
    · rfl
    · exact fun _ h => h.2.1
    · rfl
  try simp only [Act.put, List.setIfInBounds_toArray, List.set_cons_zero, List.set_cons_succ]
  refine wpAnyH_ready (rs := [8]) (by kernel_rfl) (by simp) ?_
  refine AllReadyH.cons rfl (fun K' hK => ?_) AllReadyH.nil
  clear hHeld
  go_simp
  refine (AW1.out _).mono ?_
  rintro e w4 ⟨rfl, hb⟩
  have FQ := Lib.hid (FQ.out.call hb)
  clear hb
  refine hK.out _ _ (KR _ FQ.out) (fun hHeld => ?_)
  clear hK
  try simp only [Act.put, List.setIfInBounds_toArray, List.set_cons_zero, List.set_cons_succ]
  refine wpAnyH_take (i := 9) (oi := ?oi9x9) (v := ?v9x9) ?hi9x9 (by kernel_rfl) (by kernel_rfl) (by kernel_rfl) ?hq9x9 ?hy9x9 hHeld ?rest9x9
  case hi9x9 => ((try simp only [List.getElem?_toArray, List.getElem?_cons_succ, List.getElem?_cons_zero]); (try rfl))
  case hq9x9 => exact fun _ _ _ h => h
  case hy9x9 => exact Or.inl ⟨by rfl, by intro w hSw; clear hSw; go_simp; try with_reducible rfl⟩
  try simp only [Act.put, List.setIfInBounds_toArray, List.set_cons_zero, List.set_cons_succ]
  refine wpAnyH_take (i := 10) (oi := ?oi10x10) (v := ?v10x10) ?hi10x10 (by kernel_rfl) (by kernel_rfl) (by kernel_rfl) ?hq10x10 ?hy10x10 hHeld ?rest10x10
  case hi10x10 => ((try simp only [List.getElem?_toArray, List.getElem?_cons_succ, List.getElem?_cons_zero]); (try rfl))
  case hq10x10 => exact fun _ _ _ h => h
  case hy10x10 => exact Or.inl ⟨by rfl, by intro w hSw; clear hSw; go_simp; try with_reducible rfl⟩
  try simp only [Act.put, List.setIfInBounds_toArray, List.set_cons_zero, List.set_cons_succ]
  refine wpAnyH_take (i := 11) (oi := ?oi11x11) (v := ?v11x11) ?hi11x11 (by kernel_rfl) (by kernel_rfl) (by kernel_rfl) ?hq11x11 ?hy11x11 hHeld ?rest11x11
  case hi11x11 => ((try simp only [List.getElem?_toArray, List.getElem?_cons_succ, List.getElem?_cons_zero]); (try rfl))
  case hq11x11 => exact fun _ _ _ h => h
  case hy11x11 => exact Or.inl ⟨by rfl, by intro w hSw; clear hSw; go_simp; try with_reducible rfl⟩
  try simp only [Act.put, List.setIfInBounds_toArray, List.set_cons_zero, List.set_cons_succ]
  refine wpAnyH_take (i := 12) (oi := ?oi12x12) (v := ?v12x12) ?hi12x12 (by kernel_rfl) (by kernel_rfl) (by kernel_rfl) ?hq12x12 ?hy12x12 hHeld ?rest12x12
  case hi12x12 => ((try simp only [List.getElem?_toArray, List.getElem?_cons_succ, List.getElem?_cons_zero]); (try rfl))
  case hq12x12 => exact fun _ _ _ h => h
  case hy12x12 => exact Or.inl ⟨by rfl, by intro w hSw; clear hSw; go_simp; try with_reducible rfl⟩
  try simp only [Act.put, List.setIfInBounds_toArray, List.set_cons_zero, List.set_cons_succ]
  refine wpAnyH_take (i := 13) (oi := ?oi13x13) (v := ?v13x13) ?hi13x13 (by kernel_rfl) (by kernel_rfl) (by kernel_rfl) ?hq13x13 ?hy13x13 hHeld ?rest13x13
  case hi13x13 => ((try simp only [List.getElem?_toArray, List.getElem?_cons_succ, List.getElem?_cons_zero]); (try rfl))
  case hq13x13 => exact fun _ _ _ h => h
  case hy13x13 => exact Or.inl ⟨by rfl, by intro w hSw; clear hSw; go_simp; try with_reducible rfl⟩
  try simp only [Act.put, List.setIfInBounds_toArray, List.set_cons_zero, List.set_cons_succ]
  refine wpAnyH_done (by kernel_rfl) ?_ _
  clear hHeld
  go_wp2_with fail
  refine wp_region_held_drew (S := fun w' => w'.rangeAt B (off + i * 8) (obsC a) ∧ w'.rangeAt B (off + j * 8) (obsC b) ∧ w'.rangeAt B (off + k * 8) (obsC d)) (by kernel_rfl) (KR _ FQ.out.drew) (fun hHeld => ?_)
  have FQ := Lib.hid FQ.out.drew
  refine wpAnyH_take (i := 0) (oi := ?oi0x14) (v := ?v0x14) ?hi0x14 (by kernel_rfl) (by kernel_rfl) (by kernel_rfl) ?hq0x14 ?hy0x14 hHeld ?rest0x14
  case hi0x14 => ((try simp only [List.getElem?_toArray, List.getElem?_cons_succ, List.getElem?_cons_zero]); (try rfl))
  case hq0x14 => exact fun _ _ _ h => h
  case hy0x14 => exact Or.inl ⟨by rfl, by intro w hSw; clear hSw; go_simp; try with_reducible rfl⟩
  try simp only [Act.put, List.setIfInBounds_toArray, List.set_cons_zero, List.set_cons_succ]
  refine wpAnyH_take (i := 1) (oi := ?oi1x15) (v := ?v1x15) ?hi1x15 (by kernel_rfl) (by kernel_rfl) (by kernel_rfl) ?hq1x15 ?hy1x15 hHeld ?rest1x15
  case hi1x15 => ((try simp only [List.getElem?_toArray, List.getElem?_cons_succ, List.getElem?_cons_zero]); (try rfl))
  case hq1x15 => exact fun _ _ _ h => h
  case hy1x15 => exact Or.inl ⟨by rfl, by intro w hSw; clear hSw; go_simp; try with_reducible rfl⟩
  try simp only [Act.put, List.setIfInBounds_toArray, List.set_cons_zero, List.set_cons_succ]
  refine wpAnyH_take (i := 2) (oi := ?oi2x16) (v := ?v2x16) ?hi2x16 (by kernel_rfl) (by kernel_rfl) (by kernel_rfl) ?hq2x16 ?hy2x16 hHeld ?rest2x16
  case hi2x16 => ((try simp only [List.getElem?_toArray, List.getElem?_cons_succ, List.getElem?_cons_zero]); (try rfl))
  case hq2x16 => exact fun _ _ _ h => h
  case hy2x16 => exact Or.inl ⟨by rfl, by intro w hSw; clear hSw; go_simp; try with_reducible rfl⟩
  try simp only [Act.put, List.setIfInBounds_toArray, List.set_cons_zero, List.set_cons_succ]
  refine wpAnyH_take (i := 3) (oi := ?oi3x17) (v := ?v3x17) ?hi3x17 (by kernel_rfl) (by kernel_rfl) (by kernel_rfl) ?hq3x17 ?hy3x17 hHeld ?rest3x17
  case hi3x17 => ((try simp only [List.getElem?_toArray, List.getElem?_cons_succ, List.getElem?_cons_zero]); (try rfl))
  case hq3x17 => exact fun _ _ _ h => h
  case hy3x17 =>
    refine' yieldsIf_load_mid ?_ 44 (.tmp 81) ?_ B (off + i * 8) ?_ (obsC a) _ ?_ Tryz.underlying44 ?_ info8
    · rfl
    · rfl
    · rfl
    · exact fun _ h => h.1
    · rfl
  try simp only [Act.put, List.setIfInBounds_toArray, List.set_cons_zero, List.set_cons_succ]
  refine wpAnyH_take (i := 4) (oi := ?oi4x18) (v := ?v4x18) ?hi4x18 (by kernel_rfl) (by kernel_rfl) (by kernel_rfl) ?hq4x18 ?hy4x18 hHeld ?rest4x18
  case hi4x18 => ((try simp only [List.getElem?_toArray, List.getElem?_cons_succ, List.getElem?_cons_zero]); (try rfl))
  case hq4x18 => exact fun _ _ _ h => h
  case hy4x18 => exact Or.inl ⟨by rfl, by intro w hSw; clear hSw; go_simp; try with_reducible rfl⟩
  try simp only [Act.put, List.setIfInBounds_toArray, List.set_cons_zero, List.set_cons_succ]
  refine wpAnyH_take (i := 5) (oi := ?oi5x19) (v := ?v5x19) ?hi5x19 (by kernel_rfl) (by kernel_rfl) (by kernel_rfl) ?hq5x19 ?hy5x19 hHeld ?rest5x19
  case hi5x19 => ((try simp only [List.getElem?_toArray, List.getElem?_cons_succ, List.getElem?_cons_zero]); (try rfl))
  case hq5x19 => exact fun _ _ _ h => h
  case hy5x19 => exact Or.inl ⟨by rfl, by intro w hSw; clear hSw; go_simp; try with_reducible rfl⟩
  try simp only [Act.put, List.setIfInBounds_toArray, List.set_cons_zero, List.set_cons_succ]
  refine wpAnyH_take (i := 6) (oi := ?oi6x20) (v := ?v6x20) ?hi6x20 (by kernel_rfl) (by kernel_rfl) (by kernel_rfl) ?hq6x20 ?hy6x20 hHeld ?rest6x20
  case hi6x20 => ((try simp only [List.getElem?_toArray, List.getElem?_cons_succ, List.getElem?_cons_zero]); (try rfl))
  case hq6x20 => exact fun _ _ _ h => h
  case hy6x20 => exact Or.inl ⟨by rfl, by intro w hSw; clear hSw; go_simp; try with_reducible rfl⟩
  try simp only [Act.put, List.setIfInBounds_toArray, List.set_cons_zero, List.set_cons_succ]
  refine wpAnyH_take (i := 7) (oi := ?oi7x21) (v := ?v7x21) ?hi7x21 (by kernel_rfl) (by kernel_rfl) (by kernel_rfl) ?hq7x21 ?hy7x21 hHeld ?rest7x21
  case hi7x21 => ((try simp only [List.getElem?_toArray, List.getElem?_cons_succ, List.getElem?_cons_zero]); (try rfl))
  case hq7x21 => exact fun _ _ _ h => h
  case hy7x21 =>
    refine' yieldsIf_load_mid ?_ 44 (.tmp 85) ?_ B (off + k * 8) ?_ (obsC d) _ ?_ Tryz.underlying44 ?_ info8
    · rfl
    · rfl
    · rfl
    · exact fun _ h => h.2.2
    · rfl
  try simp only [Act.put, List.setIfInBounds_toArray, List.set_cons_zero, List.set_cons_succ]
  refine wpAnyH_ready (rs := [8]) (by kernel_rfl) (by simp) ?_
  refine AllReadyH.cons rfl (fun K' hK => ?_) AllReadyH.nil
  clear hHeld
  go_simp
  refine (AW2.out _).mono ?_
  rintro e w5 ⟨rfl, hb⟩
  have FQ := Lib.hid (FQ.out.call hb)
  clear hb
  refine hK.out _ _ (KR _ FQ.out) (fun hHeld => ?_)
  clear hK
  try simp only [Act.put, List.setIfInBounds_toArray, List.set_cons_zero, List.set_cons_succ]
  refine wpAnyH_take (i := 9) (oi := ?oi9x22) (v := ?v9x22) ?hi9x22 (by kernel_rfl) (by kernel_rfl) (by kernel_rfl) ?hq9x22 ?hy9x22 hHeld ?rest9x22
  case hi9x22 => ((try simp only [List.getElem?_toArray, List.getElem?_cons_succ, List.getElem?_cons_zero]); (try rfl))
  case hq9x22 => exact fun _ _ _ h => h
  case hy9x22 => exact Or.inl ⟨by rfl, by intro w hSw; clear hSw; go_simp; try with_reducible rfl⟩
  try simp only [Act.put, List.setIfInBounds_toArray, List.set_cons_zero, List.set_cons_succ]
  refine wpAnyH_take (i := 10) (oi := ?oi10x23) (v := ?v10x23) ?hi10x23 (by kernel_rfl) (by kernel_rfl) (by kernel_rfl) ?hq10x23 ?hy10x23 hHeld ?rest10x23
  case hi10x23 => ((try simp only [List.getElem?_toArray, List.getElem?_cons_succ, List.getElem?_cons_zero]); (try rfl))
  case hq10x23 => exact fun _ _ _ h => h
  case hy10x23 => exact Or.inl ⟨by rfl, by intro w hSw; clear hSw; go_simp; try with_reducible rfl⟩
  try simp only [Act.put, List.setIfInBounds_toArray, List.set_cons_zero, List.set_cons_succ]
  refine wpAnyH_take (i := 11) (oi := ?oi11x24) (v := ?v11x24) ?hi11x24 (by kernel_rfl) (by kernel_rfl) (by kernel_rfl) ?hq11x24 ?hy11x24 hHeld ?rest11x24
  case hi11x24 => ((try simp only [List.getElem?_toArray, List.getElem?_cons_succ, List.getElem?_cons_zero]); (try rfl))
  case hq11x24 => exact fun _ _ _ h => h
  case hy11x24 => exact Or.inl ⟨by rfl, by intro w hSw; clear hSw; go_simp; try with_reducible rfl⟩
  try simp only [Act.put, List.setIfInBounds_toArray, List.set_cons_zero, List.set_cons_succ]
  refine wpAnyH_take (i := 12) (oi := ?oi12x25) (v := ?v12x25) ?hi12x25 (by kernel_rfl) (by kernel_rfl) (by kernel_rfl) ?hq12x25 ?hy12x25 hHeld ?rest12x25
  case hi12x25 => ((try simp only [List.getElem?_toArray, List.getElem?_cons_succ, List.getElem?_cons_zero]); (try rfl))
  case hq12x25 => exact fun _ _ _ h => h
  case hy12x25 => exact Or.inl ⟨by rfl, by intro w hSw; clear hSw; go_simp; try with_reducible rfl⟩
  try simp only [Act.put, List.setIfInBounds_toArray, List.set_cons_zero, List.set_cons_succ]
  refine wpAnyH_take (i := 13) (oi := ?oi13x26) (v := ?v13x26) ?hi13x26 (by kernel_rfl) (by kernel_rfl) (by kernel_rfl) ?hq13x26 ?hy13x26 hHeld ?rest13x26
  case hi13x26 => ((try simp only [List.getElem?_toArray, List.getElem?_cons_succ, List.getElem?_cons_zero]); (try rfl))
  case hq13x26 => exact fun _ _ _ h => h
  case hy13x26 => exact Or.inl ⟨by rfl, by intro w hSw; clear hSw; go_simp; try with_reducible rfl⟩
  try simp only [Act.put, List.setIfInBounds_toArray, List.set_cons_zero, List.set_cons_succ]
  refine wpAnyH_done (by kernel_rfl) ?_ _
  clear hHeld
  go_wp2_with fail
  clear KR AW1 AW2 RA RB RD
  have at2 := TA.out _ FQ.out.below
  have bt2 := TB.out _ FQ.out.below
  have dt2 := TD.out _ FQ.out.below
  go_quiet (fail)
  have FQ := Lib.hid (FQ.out.drewN nq)
  clear at2 bt2 dt2
  go_wp2_with fail
  rw [DT.out, DS.out]
  clear t0 t1 t2 t3 t4 DT DS SA SD TA TB TD
  refine (WX.out _).mono ?_
  rintro e vx1 ⟨VWx, rfl, hV, hb⟩
  have HW := Lib.hid (hV.mono (Nat.zero_le _))
  have FQ := Lib.hid (FQ.out.call hb)
  clear hV hb
  go_wp2_with fail
  refine (OX.out T _ T0 T1).mono ?_
  rintro e vx2 ⟨VOx, p1x, q1x, rfl, hI, hV, lp, lq, hb⟩
  have HW := Lib.hid (HW.out.below hb)
  have HO := Lib.hid hV
  have FQ := Lib.hid (FQ.out.call hb)
  have II := Lib.hid (And.intro hI (And.intro lp lq))
  clear hV hb hI lp lq WX OX
  go_wp2_with fail
  refine (SX.out T _ _ _ _ _ HW.out HO.out II.out.1 II.out.2.1 II.out.2.2).mono ?_
  rintro e vx3 ⟨V, p2x, q2x, rfl, hJ, hV, l1, l2, hb⟩
  obtain ⟨xx, kx, cx, xx', kx', cx', rfl, m1, m2, -, -⟩ := hV
  have ba := (Below.refl _ vx3).alloc (Nat.le_refl _) (.cells (frC (decide (p2x < 0)) xx kx cx xx' kx' cx').toArray 95)
  have NRx := Lib.hid (near_iff II.out.1 hJ T0 ho.1)
  have GQx := Lib.hid (And.intro (And.intro hJ.pos hJ.cop) (And.intro l1 l2))
  have HX := Lib.hid (FracZ.below (B := 0) ⟨xx, kx, cx, xx', kx', cx', rfl, m1, m2, fun _ _ _ => Nat.zero_le _, fun _ _ _ => Nat.zero_le _⟩ ba)
  have FQ := Lib.hid ((FQ.out.call hb).alloc (frC (decide (p2x < 0)) xx kx cx xx' kx' cx') 95)
  clear hJ l1 l2 m1 m2 ba hb HW HO II SX
  go_wp2_with fail
  refine (WY.out _).mono ?_
  rintro e vy1 ⟨VWy, rfl, hV, hb⟩
  have HW := Lib.hid (hV.mono (Nat.zero_le _))
  have FQ := Lib.hid (FQ.out.call hb)
  have HX := Lib.hid (HX.out.below hb)
  clear hV hb
  go_wp2_with fail
  refine (OY.out T _ T0 T1).mono ?_
  rintro e vy2 ⟨VOy, p1y, q1y, rfl, hI, hV, lp, lq, hb⟩
  have HW := Lib.hid (HW.out.below hb)
  have HO := Lib.hid hV
  have FQ := Lib.hid (FQ.out.call hb)
  have II := Lib.hid (And.intro hI (And.intro lp lq))
  have HX := Lib.hid (HX.out.below hb)
  clear hV hb hI lp lq WY OY
  go_wp2_with fail
  refine (SY.out T _ _ _ _ _ HW.out HO.out II.out.1 II.out.2.1 II.out.2.2).mono ?_
  rintro e vy3 ⟨V, p2y, q2y, rfl, hJ, hV, l1, l2, hb⟩
  obtain ⟨xy, ky, cy, xy', ky', cy', rfl, m1, m2, -, -⟩ := hV
  have ba := (Below.refl _ vy3).alloc (Nat.le_refl _) (.cells (frC (decide (p2y < 0)) xy ky cy xy' ky' cy').toArray 95)
  have NRy := Lib.hid (near_iff II.out.1 hJ T0 ho.1)
  have GQy := Lib.hid (And.intro (And.intro hJ.pos hJ.cop) (And.intro l1 l2))
  have HY := Lib.hid (FracZ.below (B := 0) ⟨xy, ky, cy, xy', ky', cy', rfl, m1, m2, fun _ _ _ => Nat.zero_le _, fun _ _ _ => Nat.zero_le _⟩ ba)
  have HX := Lib.hid (HX.out.below (below_then hb ba))
  have FQ := Lib.hid ((FQ.out.call hb).alloc (frC (decide (p2y < 0)) xy ky cy xy' ky' cy') 95)
  clear hJ l1 l2 m1 m2 ba hb HW HO II SY
  have cx0 := FQ.out.cell 1 0 rfl rfl
  have cx1 := FQ.out.cell 1 1 rfl rfl
  have cx2 := FQ.out.cell 1 2 rfl rfl
  have cx3 := FQ.out.cell 1 3 rfl rfl
  have cu0 := FQ.out.cell 2 0 rfl rfl
  have cu1 := FQ.out.cell 2 1 rfl rfl
  have cu2 := FQ.out.cell 2 2 rfl rfl
  have cu3 := FQ.out.cell 2 3 rfl rfl
  have cu4 := FQ.out.cell 2 4 rfl rfl
  go_wp2_with fail
  refine (MS.out _ _ _ _ GQx.out.1 HX.out GQx.out.2.1 GQx.out.2.2).mono ?_
  rintro e wm ⟨rfl, hb⟩
  have HY := Lib.hid (HY.out.below hb)
  have FQ := Lib.hid (FQ.out.call hb)
  clear hb HX cx0 cx1 cx2 cx3 cu0 cu1 cu2 cu3 cu4
  by_cases hx : (ex * (T : Int) - dx * ds).natAbs ≤ mag u.off (T : Int)
  rotate_left
  · obtain rfl := NOX.out hx
    rw [decide_eq_false (fun h => hx (NRx.out.1 h))]
    go_wp2_with fail
    exact bodyPost_ret (results_tmp rfl _ _ _) rfl ⟨rfl, FQ.out.below⟩
  obtain rfl := YES2.out hx
  rw [decide_eq_true (NRx.out.2 hx)]
  clear NOX YES2
  have cx0 := FQ.out.cell 0 0 rfl rfl
  have cx1 := FQ.out.cell 0 1 rfl rfl
  have cx2 := FQ.out.cell 0 2 rfl rfl
  have cx3 := FQ.out.cell 0 3 rfl rfl
  have cu0 := FQ.out.cell 2 0 rfl rfl
  have cu1 := FQ.out.cell 2 1 rfl rfl
  have cu2 := FQ.out.cell 2 2 rfl rfl
  have cu3 := FQ.out.cell 2 3 rfl rfl
  have cu4 := FQ.out.cell 2 4 rfl rfl
  go_wp2_with fail
  refine (MS.out _ _ _ _ GQy.out.1 HY.out GQy.out.2.1 GQy.out.2.2).mono ?_
  rintro e wn ⟨rfl, hb⟩
  have FQ := Lib.hid (FQ.out.call hb)
  clear hb HY cx0 cx1 cx2 cx3 cu0 cu1 cu2 cu3 cu4
  go_wp2_with fail
  refine bodyPost_ret (results_tmp rfl _ _ _) rfl ⟨?_, FQ.out.below⟩
  exact bool_ret (decide_eq_decide.2 NRy.out)
end Tw
end Go.Proofs.YtjgcbeihgeaimaaGreatDoor
/-
  The reference's tracklets: Find.
-/
namespace Go.Proofs.YtjgcbeihgeaimaaGreatDoor
namespace Tw
open Go.RowKit Lw Tk _root_.Go.Proofs.YtjgcbeihgeaimaaGreatDoor.Op Ow Wd

theorem wp_appG2 {α : Type} {E : TypeId} {k : Nat} {enc : α → List Value} (T : TypeId) (z : Value) (bytes : Nat) (hinfo : (Tryz.prog.info? E).map (fun i => (i.zero, i.size, i.bytes)) = some (some z, k, bytes)) (hu : Tryz.prog.underlying T = some (.slice E)) (hz : z.cells.size = k) (h0 : 0 < k) (hb9 : bytes ≤ 1000)
    (hk : ∀ x, (enc x).length = k) (h1 : ∀ x, ∀ u ∈ enc x, u.oneCell' = true)
    {ops : Array Oper} {rest : List Oper} {o : Oper} {a : Act} {Q : Exit → Act → World → Prop} (w : World) (hgd : o.guard = none) (s x : Operand)
    (ho : o.op = .call { callee := .builtin .append, args := #[s, x], argTypes := #[T, T] })
    (B : Nat) (v : Value) (l : List α) (q : α) (hs : a.eval s = v) (hx : a.eval x = .slice (some ⟨w.heap.size, 0, none⟩) 1 1) (hown : OwnG E k enc w B v l) (hl : l.length ≤ 1000000)
    (h : ∀ v' w', OwnG E k enc w' B v' (l ++ [q]) → Below B w w' → (w.alloc (.cells (enc q).toArray E)).grownBy w' v.ownBlock → wpList Tryz.prog ops Q rest (a.put o.dst v') w') : wpList Tryz.prog ops Q (o :: rest) a (w.alloc (.cells (enc q).toArray E)) := by
  obtain ⟨i0, hi, hz0, hz1, hz2⟩ := info_parts hinfo
  have ho' := hown.1.alloc (.cells (enc q).toArray E)
  have nw := newsG (rangeAt_new w (enc q) E)
  have b1 : Below B w (w.alloc (.cells (enc q).toArray E)) := (Below.refl _ _).alloc hown.2 _
  refine wpList_append_own _ hgd s x T ho B E i0 z k bytes hu hi hz0 hz1 hz2 hz h0 v l.length (l.flatMap enc) hs ho' ⟨w.heap.size, 0, none⟩ 1 1 (enc q) hx (by rw [hk, Nat.one_mul]) nw (h1 q) (by unfold maxLen; omega) (Nat.le_trans (Nat.mul_le_mul (show l.length + 1 ≤ 1000001 by omega) hb9) (by decide)) (Nat.le_trans hown.2 b1.size) ?_
  intro v' w' h1 h2 _
  have e : (l ++ [q]).flatMap enc = l.flatMap enc ++ enc q := by simp
  have hb : Below B w w' := b1.trans ((Below.refl B _).grown h2 (Nat.le_trans hown.2 b1.size) (fun k hk => (hown.1.lt k hk).1))
  refine h v' w' ⟨?_, Nat.le_trans hown.2 hb.size⟩ hb h2
  rw [e, List.length_append]
  exact h1
def setTo (l : List Ob) (u : Rl) (z : Fin l.length × Fin l.length) (k : Nat) : List Nat := (List.range k).filter fun k => if h : k < l.length then decide (k = z.1.1 ∨ k = z.2.1 ∨ btw u l[z.1] l[z.2] (l[k]'h)) else false
theorem setTo_yes {l : List Ob} {u : Rl} {z : Fin l.length × Fin l.length} {k : Nat} (hk : k < l.length) (h : k = z.1.1 ∨ k = z.2.1 ∨ btw u l[z.1] l[z.2] (l[k]'hk)) : setTo l u z (k + 1) = setTo l u z k ++ [k] := by
  unfold setTo
  rw [List.range_succ, List.filter_append, List.filter_cons, if_pos (by rw [dif_pos hk]; exact decide_eq_true h)]
  rfl
theorem setTo_no {l : List Ob} {u : Rl} {z : Fin l.length × Fin l.length} {k : Nat} (hk : k < l.length) (h : ¬ (k = z.1.1 ∨ k = z.2.1 ∨ btw u l[z.1] l[z.2] (l[k]'hk))) : setTo l u z (k + 1) = setTo l u z k := by
  unfold setTo
  rw [List.range_succ, List.filter_append, List.filter_cons, if_neg (by rw [dif_pos hk, decide_eq_false h]; exact Bool.false_ne_true)]
  simp
theorem setTo_len (l : List Ob) (u : Rl) (z : Fin l.length × Fin l.length) (k : Nat) : (setTo l u z k).length ≤ k := Nat.le_trans (List.length_filter_le _ _) (by simp)
set_option maxRecDepth 100000 in
set_option maxHeartbeats 16000000 in
theorem rfind_any (x : Option Addr) (cap : Nat) (l : List Ob) (u : Rl) (w : World) (hl : SlA w x l) (hm0 : l.length ≤ 1000000) (hs : stT l u = 0 → l.length ≤ 9) (hb : OBs l) :
    Calls Tryz.prog 8 #[.slice x l.length cap, rlV u] w fun e w' => ∃ V, e = .returned (.tuple #[V, .int .i64 (stT l u)]) ∧ Below w.heap.size w w' ∧
      SetsAt w' V (if stT l u = 0 then refTo ((allA l u l.length).map (setOf l u)) u.count.toNat ((allA l u l.length).map (setOf l u)).length else []) := by
  have F0 := Lib.hid ((Fr.start w).alloc (rlC u) 24)
  have c0 := F0.out.cell 0 0 rfl rfl
  have c1 := F0.out.cell 0 1 rfl rfl
  have c2 := F0.out.cell 0 2 rfl rfl
  have c3 := F0.out.cell 0 3 rfl rfl
  have c4 := F0.out.cell 0 4 rfl rfl
  have ST := rstart_any x cap l u _ (hl.below F0.out.below) (by omega) hb
  by_cases h0 : stT l u = 0
  rotate_left
  · rw [if_neg h0]
    generalize stT l u = c at *
    clear hl hb
    go_enter Tryz.func8, Tryz.ntmps8
    go_wp2_with (go_at_call 16; refine ST.mono ?_; rintro e w1 ⟨rfl, hb⟩; have F1 := Lib.hid (F0.out.call hb); clear hb)
    exact bodyPost_ret (results_tmp2 rfl _ _ _) rfl ⟨.slice none 0 0, rfl, F1.out.below, none, 0, [], rfl, rfl, ⟨fun i h => by cases h⟩, fun i h => by cases h⟩
  rw [if_pos h0]
  obtain ⟨hlen, hok, hu⟩ := stT_ok h0
  have hm := hs h0
  clear hs
  have PP := Lib.hid (fun w' (hbw : Below w.heap.size w w') => rpairs_any x cap l u w' (hl.below hbw) hlen hok hu)
  have PA := Lib.hid (fun B off (hx : x = some ⟨B, off, none⟩) i j (hi : i < l.length) (hj : j < l.length) w' (hb : Below w.heap.size w w') => pair_at hl hok hx hi hj hb)
  have GX := Lib.hid (fun i (hi : i < l.length) => hl.get hi)
  rw [h0] at ST ⊢
  clear hl hb h0 hok
  obtain ⟨P, hP⟩ : ∃ P, allA l u l.length = P := ⟨_, rfl⟩
  have hPl : P.length ≤ 100 := by
    rw [← hP]
    exact Nat.le_trans (allA_len l u _) (Nat.mul_le_mul (show l.length ≤ 10 by omega) (show l.length ≤ 10 by omega))
  obtain ⟨PN, hPN⟩ : ∃ PN, P.map pN = PN := ⟨_, rfl⟩
  have hPNl : PN.length = P.length := by rw [← hPN, List.length_map]
  rw [hP] at PP ⊢
  rw [hPN] at PP
  have HPN := Lib.hid hPN
  obtain ⟨K, hK⟩ : ∃ K, P.map (setOf l u) = K := ⟨_, rfl⟩
  rw [hK]
  have HKd := Lib.hid hK
  clear hP hPN hK
  go_enter Tryz.func8, Tryz.ntmps8
  go_wp2_with (first | (go_at_call 16; refine ST.mono ?_; rintro e w1 ⟨rfl, hb⟩; have F1 := F0.out.call hb; have c0 := F1.cell 0 0 rfl rfl; have c1 := F1.cell 0 1 rfl rfl; have c2 := F1.cell 0 2 rfl rfl; have c3 := F1.cell 0 3 rfl rfl; have c4 := F1.cell 0 4 rfl rfl; have F1 := Lib.hid F1; clear hb) | (go_at_call 17; refine (PP.out _ F1.out.below).mono ?_; rintro e w2 ⟨Vp, rfl, hOp, hb2⟩; have F2 := Lib.hid (F1.out.call hb2); obtain ⟨Ap, capp, rfl, -, -⟩ := OwnG.form (enc := prE) (fun _ => rfl) hOp; have OP := Lib.hid hOp; have hw1 := (F1.out.least 0 rfl).2; clear hb2 hOp))
  clear c0 c1 c2 c3 c4 F0 ST PP F1
  have O0 := Lib.hid (OwnG.nil (E := 62) (k := 1) (enc := slE) w2 (w.heap.size + 1) (Nat.succ_le_of_lt (F2.out.least 0 rfl).2))
  have I0 : Hid (ItemsG w2 (w.heap.size + 1) [] ((P.take 0).map (setOf l u))) := Lib.hid ⟨by simp, fun i h => by cases h⟩
  go_loopw [8, 9] (fun v z wr => ∃ (n : Nat) (S : List Sl), z = .int .i64 (n : Int) ∧ n ≤ PN.length ∧ S.length = n ∧ Hid (OwnG 62 1 slE wr (w.heap.size + 1) v S) ∧ Hid (ItemsG wr (w.heap.size + 1) S ((P.take n).map (setOf l u))) ∧ Hid (Fr w [(w.heap.size, rlC u)] wr) ∧ Hid (OwnG 51 2 prE wr w1.heap.size (.slice Ap PN.length capp) PN)) (fun _ z _ => ((PN.length : Int) - intOf z).toNat)
  case atStart => exact ⟨0, [], rfl, by omega, rfl, O0, I0, F2, OP⟩
  case round =>
    clear O0 I0 F2 OP
    obtain ⟨n, S, rfl, hn, hS, OS, IT, FF, OP⟩ := hrel
    by_cases hnP : n < PN.length
    · have ni : (n : Int) < (PN.length : Int) := by omega
      have n0 : (0 : Int) ≤ (n : Int) := by omega
      have hnn : IntKind.i64.wrap ((n : Int) + 1) = ((n + 1 : Nat) : Int) := by rw [IntKind.wrap_i64]; omega
      have hnp : n < P.length := by omega
      have ez : PN[n] = pN P[n] := by simp only [← HPN.out, List.getElem_map]
      have STK := Lib.hid (show (P.take (n + 1)).map (setOf l u) = (P.take n).map (setOf l u) ++ [setOf l u P[n]] from by rw [← List.take_append_getElem hnp, List.map_append]; rfl)
      generalize P[n] = z at *
      obtain ⟨g, rfl⟩ : ∃ g, Ap = some ⟨g, 0, none⟩ := by
        obtain ⟨A', cap', e', r', -⟩ := OwnG.form (enc := prE) (fun _ => rfl) OP.out
        obtain ⟨g, ea, -, -⟩ := r'.row n hnP
        injection e' with e1 e2 e3
        exact ⟨g, e1.trans ea⟩
      have PR := Lib.hid (show ∀ w' (hb : Below wr.heap.size wr w'), w'.cell? ⟨g, n * 2, none⟩ = some (.int .i64 (z.1.1 : Int)) ∧ w'.cell? ⟨g, n * 2 + 1, none⟩ = some (.int .i64 (z.2.1 : Int)) from fun w' hb => by
        obtain ⟨A', cap', e', r', -⟩ := OwnG.form (enc := prE) (fun _ => rfl) (OP.out.below hb)
        obtain ⟨g', ea, -, row⟩ := r'.row n hnP
        injection e' with e1 e2 e3
        rw [← e1] at ea
        cases ea
        rw [ez] at row
        exact ⟨row 0 _ rfl, row 1 _ rfl⟩)
      obtain ⟨B, off, hx, -⟩ := GX.out z.1.1 z.1.2
      subst hx
      have RB := Lib.hid (fun k (hk : k < l.length) w' (hb : Below w.heap.size w w') => rbetween_any l.length cap z.1.1 z.2.1 k B off u l[z.1] l[z.2] (l[k]'hk) w' (PA.out B off rfl z.1.1 z.2.1 z.1.2 z.2.2 w' hb) (PA.out B off rfl z.1.1 k z.1.2 hk w' hb) hu)
      clear ez
      go_wp2_with fail
      have Oi := Lib.hid (OwnG.nil (E := 3) (k := 1) (enc := inE) wr wr.heap.size (Nat.le_refl _))
      go_loopw [10, 11] (fun v zz ws => ∃ k : Nat, zz = .int .i64 (k : Int) ∧ k ≤ l.length ∧ Hid (OwnG 3 1 inE ws wr.heap.size v (setTo l u z k)) ∧ Hid (Below wr.heap.size wr ws)) (fun _ zz _ => ((l.length : Int) - intOf zz).toNat)
      case atStart => exact ⟨0, rfl, by omega, Oi, Lib.hid (Below.refl _ _)⟩
      case round =>
        clear Oi
        obtain ⟨k, rfl, hk, Oi, BB⟩ := hrel
        by_cases hkl : k < l.length
        · have ki : (k : Int) < (l.length : Int) := by omega
          have hkk : IntKind.i64.wrap ((k : Int) + 1) = ((k + 1 : Nat) : Int) := by rw [IntKind.wrap_i64]; omega
          obtain ⟨p0, p1⟩ := PR.out _ BB.out
          have FK := FF.out.call BB.out
          have c0 := FK.cell 0 0 rfl rfl
          have c1 := FK.cell 0 1 rfl rfl
          have c2 := FK.cell 0 2 rfl rfl
          have c3 := FK.cell 0 3 rfl rfl
          have c4 := FK.cell 0 4 rfl rfl
          have rb := RB.out k hkl wr.drew (below_then FK.below (Below.refl _ _).drew)
          clear FK
          by_cases hq : k = z.1.1 ∨ k = z.2.1 ∨ btw u l[z.1] l[z.2] (l[k]'hkl)
          · rw [decide_eq_true hq] at rb
            have SY := Lib.hid (setTo_yes hkl hq)
            have hsl := setTo_len l u z k
            clear hq
            go_wp2_with fail
            go_still_tail 13, (by kernel_rfl)
            change wpList _ _ _ _ _ wr.drew
            go_wp2_with (first | (go_at_call 26; refine rb.mono ?_; rintro e w3 ⟨rfl, hb⟩; have B3 := Lib.hid (below_then BB.out (below_then (Below.refl _ wr).drew hb)); have O3 := Lib.hid (Oi.out.below (below_then (Below.refl _ wr).drew hb)); clear hb) | (at_builtin; refine wp_appG 62 (.int .i64 0) 8 info_in Tryz.underlying62 rfl (by decide) (by decide) (fun _ => rfl) inE_one _ rfl (.tmp 53) (.tmp 55) rfl _ _ _ k rfl rfl O3.out (by omega) ?_; intro v' w4 hO hb4; have O4 := Lib.hid hO; have B4 := Lib.hid (B3.out.trans hb4); clear hO hb4))
            go_roundw
            case rel => exact ⟨k + 1, rfl, by omega, by rw [SY.out]; exact O4, B4⟩
            case measure => simp [intOf]; omega
          · rw [decide_eq_false hq] at rb
            have SN := Lib.hid (setTo_no hkl hq)
            clear hq
            go_wp2_with fail
            go_still_tail 13, (by kernel_rfl)
            change wpList _ _ _ _ _ wr.drew
            go_wp2_with (go_at_call 26; refine rb.mono ?_; rintro e w3 ⟨rfl, hb⟩; have B3 := Lib.hid (below_then BB.out (below_then (Below.refl _ wr).drew hb)); have O3 := Lib.hid (Oi.out.below (below_then (Below.refl _ wr).drew hb)); clear hb)
            go_roundw
            case rel => exact ⟨k + 1, rfl, by omega, by rw [SN.out]; exact O3, B3⟩
            case measure => simp [intOf]; omega
        · obtain rfl : k = l.length := by omega
          have ITA := IT.out.below BB.out
          have OSA := OS.out.below BB.out
          have OPA := Lib.hid (OP.out.below BB.out)
          have FFA := Lib.hid (FF.out.call BB.out)
          have OiA := Oi.out.least (Nat.le_trans OS.out.2 (Nat.le_refl _))
          obtain ⟨A3, cap3, rfl, -, -⟩ := OwnG.form (enc := inE) (fun _ => rfl) OiA
          have IT3 := Lib.hid (ITA.snoc (s := ⟨A3, (setTo l u z l.length).length, cap3⟩) OiA)
          have OS3 := Lib.hid OSA
          have hSl : S.length ≤ 1000000 := by omega
          clear ITA OSA OiA RB PR
          go_wp2_with (at_builtin; refine wp_appG2 32 (.slice none 0 0) 24 info_sl Tryz.underlying32 rfl (by decide) (by decide) (fun _ => rfl) slE_one _ rfl (.tmp 57) (.tmp 59) rfl (w.heap.size + 1) _ S ⟨A3, (setTo l u z l.length).length, cap3⟩ rfl rfl OS3.out hSl ?_; intro v' w4 hO4 hb4 hgr; have OS4 := Lib.hid hO4; have IT4 := Lib.hid (IT3.out.kept OS3.out (by decide) hgr); have OP4 := Lib.hid (OPA.out.kept OS3.out (by decide) hgr); have FF4 := Lib.hid (FFA.out.grow hb4 (by omega) (fun p hp => by rcases List.mem_singleton.1 hp with rfl; exact Nat.lt_succ_self _)); clear hO4 hb4 hgr)
          go_roundw
          case rel => exact ⟨n + 1, S ++ [⟨A3, (setTo l u z l.length).length, cap3⟩], rfl, by omega, by simp [hS], OS4, by rw [STK.out]; exact IT4, FF4, OP4⟩
          case measure => simp [intOf]; omega
    · obtain rfl : n = PN.length := by omega
      have ni : ¬ ((PN.length : Int) < (P.length : Int)) := by omega
      have hK := HKd.out
      have IT2 := IT.out
      rw [hPNl, List.take_length, hK] at IT2
      have hKl : K.length = S.length := IT2.1.symm
      have EN := Lib.hid (fun i (h : i < S.length) (h2 : i < K.length) => (IT2.facts i h h2).1)
      have RI := Lib.hid (fun i (h : i < S.length) (h2 : i < K.length) w' (hb : Below wr.heap.size wr w') => (IT2.facts i h h2).2.below hb)
      obtain ⟨A8, cap8, rfl, R8, -⟩ := OwnG.form (enc := slE) (fun _ => rfl) OS.out
      have RS := Lib.hid (show ∀ i (h : i < S.length) (h2 : i < K.length) w' (hb : Below wr.heap.size wr w'), ∃ g, A8 = some ⟨g, 0, none⟩ ∧ w'.cell? ⟨g, i, none⟩ = some (.slice S[i].a K[i].length S[i].c) from fun i h h2 w' hb => by
        rw [← EN.out i h h2]
        exact rowS (R8.below hb) h)
      have FR := Lib.hid (fun w' (hb : Below wr.heap.size wr w') => FF.out.call hb)
      have hIn : ∀ s ∈ K, Inc s := fun s hs => by
        rw [← hK] at hs
        obtain ⟨z, -, rfl⟩ := List.mem_map.1 hs
        exact inc_filter _ _
      have hK9 : ∀ s ∈ K, s.length ≤ 9 := fun s hs => by
        rw [← hK] at hs
        obtain ⟨z, -, rfl⟩ := List.mem_map.1 hs
        exact Nat.le_trans (setTo_len l u z l.length) hm
      have hSl : S.length ≤ 100 := by omega
      have BW := Lib.hid FF.out.below
      clear IT2 IT OS R8 OP FF PA GX HPN hK hS hPNl
      go_wp2_with fail
      rename World => W2
      have O0 := Lib.hid (OwnG.nil (E := 62) (k := 1) (enc := slE) W2 W2.heap.size (Nat.le_refl _))
      go_loopw [12, 13] (fun v z ws => ∃ (n : Nat) (L : List (Sl × List Nat)), z = .int .i64 (n : Int) ∧ n ≤ S.length ∧ L.length ≤ n ∧ Hid (L.map Prod.snd = refTo K u.count.toNat n) ∧ Hid (∀ p ∈ L, p.1.n = p.2.length ∧ p.2.length ≤ 9 ∧ ∀ w', Below W2.heap.size W2 w' → RowsG 1 inE w' p.1.a p.2) ∧ Hid (OwnG 62 1 slE ws W2.heap.size v (L.map Prod.fst)) ∧ Hid (Below W2.heap.size W2 ws)) (fun _ z _ => ((S.length : Int) - intOf z).toNat)
      case atStart => exact ⟨0, [], rfl, by omega, by simp, Lib.hid rfl, Lib.hid (fun p h => by cases h), O0, Lib.hid (Below.refl _ _)⟩
      case round =>
        clear O0
        obtain ⟨n, L, rfl, hn, hL, EL, PL, OO, BB⟩ := hrel
        by_cases hnS : n < S.length
        · have ni : (n : Int) < (S.length : Int) := by omega
          have n0 : (0 : Int) ≤ (n : Int) := by omega
          have hnn : IntKind.i64.wrap ((n : Int) + 1) = ((n + 1 : Nat) : Int) := by rw [IntKind.wrap_i64]; omega
          have hnK : n < K.length := by omega
          obtain ⟨g8, rfl, s0⟩ := RS.out n hnS hnK _ BB.out
          have c4 := (FR.out _ BB.out).cell 0 4 rfl rfl
          have E0 := Lib.hid (show decide (u.count ≤ (K[n].length : Int)) = goodTo K u.count.toNat n 0 from by
            unfold goodTo
            rw [getElem!_pos K n hnK]
            simp only [List.range_zero, List.all_nil, Bool.and_true]
            exact decide_eq_decide.2 (by omega))
          go_wp2_with fail
          go_quiet (fail)
          go_wp2_with fail
          rw [E0.out]
          clear s0 c4
          have OD := Lib.hid (OO.out.below (drewN_below2 (Below.refl _ _) nq))
          have BD := Lib.hid (drewN_below2 BB.out nq)
          generalize wr.drewN nq = wq at *
          go_loopw [14, 15] (fun bv z ws => ∃ m : Nat, bv = .bool (goodTo K u.count.toNat n m) ∧ z = .int .i64 (m : Int) ∧ m ≤ S.length ∧ Hid (∃ q, ws = wq.drewN q)) (fun _ z _ => ((S.length : Int) - intOf z).toNat)
          case atStart => exact ⟨0, rfl, rfl, by omega, Lib.hid ⟨0, rfl⟩⟩
          case round =>
            obtain ⟨m, rfl, rfl, hm', QQ⟩ := hrel
            have BQ := below_then BD.out (drawn_below QQ.out)
            cases hg : goodTo K u.count.toNat n m
            · have GN := goodTo_no hg (by omega)
              have ER : Hid (L.map Prod.snd = refTo K u.count.toNat (n + 1)) := Lib.hid (by rw [refTo, if_neg (by rw [GN]; exact Bool.false_ne_true)]; exact EL.out)
              have OQ := Lib.hid (OD.out.below (drawn_below QQ.out))
              have BQ := Lib.hid BQ
              clear EL
              by_cases hmS : m < S.length
              · have mi : (m : Int) < (S.length : Int) := by omega
                go_wp2_with fail
                go_roundw
                case rel => exact ⟨n + 1, L, rfl, by omega, by omega, ER, PL, OQ, BQ⟩
                case measure => simp [intOf]; omega
              · have mi : ¬ (m : Int) < (S.length : Int) := by omega
                go_wp2_with fail
                go_roundw
                case rel => exact ⟨n + 1, L, rfl, by omega, by omega, ER, PL, OQ, BQ⟩
                case measure => simp [intOf]; omega
            · by_cases hmS : m < S.length
              · have mi : (m : Int) < (S.length : Int) := by omega
                have m0 : (0 : Int) ≤ (m : Int) := by omega
                have hmm : IntKind.i64.wrap ((m : Int) + 1) = ((m + 1 : Nat) : Int) := by rw [IntKind.wrap_i64]; omega
                have hmK : m < K.length := by omega
                obtain ⟨_, e1, s1⟩ := RS.out n hnS hnK _ BQ
                cases e1
                obtain ⟨_, e1, s2⟩ := RS.out m hmS hmK _ BQ
                cases e1
                have LG := larger_is hnK hmK
                obtain ⟨d, hd⟩ : ∃ d, decide (gre K[n] K[m] = []) = d := ⟨_, rfl⟩
                have GS : goodTo K u.count.toNat n (m + 1) = !(larger K n m && d) := by rw [goodTo_step, hg, Bool.true_and, getElem!_pos K n hnK, getElem!_pos K m hmK, hd]
                rw [LG] at GS
                have PT := fun w' hb => part_any _ _ S[n].c S[m].c _ _ w' (RI.out n hnS hnK w' hb) (RI.out m hmS hmK w' hb) (Nat.le_trans (hK9 _ (List.getElem_mem hnK)) (by decide)) (Nat.le_trans (hK9 _ (List.getElem_mem hmK)) (by decide))
                simp only [hd] at PT
                have PT := Lib.hid PT
                by_cases h1 : K[n].length < K[m].length
                · have q1 : (K[n].length : Int) < (K[m].length : Int) := by omega
                  rw [decide_eq_true h1, Bool.true_or, Bool.true_and] at GS
                  have GS := Lib.hid GS
                  clear LG hg hd BQ E0
                  go_wp2_with fail
                  go_quiet (fail)
                  go_wp2_with fail
                  have Dz := Lib.hid (drawn_more QQ.out nq)
                  clear s1 s2 QQ
                  generalize wr.drewN nq = wz at *
                  have BZ := below_then BD.out (drawn_below Dz.out)
                  obtain ⟨_, e1, s1⟩ := RS.out n hnS hnK _ BZ
                  cases e1
                  obtain ⟨_, e1, s2⟩ := RS.out m hmS hmK _ BZ
                  cases e1
                  have PZ := Lib.hid (fun k => PT.out (wz.drewN k) (below_then BD.out (drawn_below (drawn_more Dz.out k))))
                  clear PT BZ
                  go_quiet ((go_at_call 27; first | exact quiet_draws (PZ.out _) | exact quiet_add_draws (PZ.out _)))
                  go_wp2_with fail
                  go_roundw
                  case rel => exact ⟨m + 1, by rw [GS.out] <;> rfl, rfl, by omega, Lib.hid (drawn_more Dz.out _)⟩
                  case measure => simp [intOf]; omega
                · have q1 : ¬ (K[n].length : Int) < (K[m].length : Int) := by omega
                  rw [decide_eq_false h1, Bool.false_or] at GS
                  by_cases h2 : K[m].length = K[n].length
                  · have q2 : ((K[m].length : Int) == (K[n].length : Int)) = true := by rw [h2]; exact beq_self_eq_true _
                    rw [decide_eq_true h2, Bool.true_and] at GS
                    by_cases h3 : m < n
                    · have q3 : (m : Int) < (n : Int) := by omega
                      rw [decide_eq_true h3, Bool.true_and] at GS
                      have GS := Lib.hid GS
                      clear h2
                      clear LG hg hd BQ E0
                      go_wp2_with fail
                      go_quiet (fail)
                      go_wp2_with fail
                      have Dz := Lib.hid (drawn_more QQ.out nq)
                      clear s1 s2 QQ
                      generalize wr.drewN nq = wz at *
                      have BZ := below_then BD.out (drawn_below Dz.out)
                      obtain ⟨_, e1, s1⟩ := RS.out n hnS hnK _ BZ
                      cases e1
                      obtain ⟨_, e1, s2⟩ := RS.out m hmS hmK _ BZ
                      cases e1
                      have PZ := Lib.hid (fun k => PT.out (wz.drewN k) (below_then BD.out (drawn_below (drawn_more Dz.out k))))
                      clear PT BZ
                      go_quiet ((go_at_call 27; first | exact quiet_draws (PZ.out _) | exact quiet_add_draws (PZ.out _)))
                      go_wp2_with fail
                      go_roundw
                      case rel => exact ⟨m + 1, by rw [GS.out] <;> rfl, rfl, by omega, Lib.hid (drawn_more Dz.out _)⟩
                      case measure => simp [intOf]; omega
                    · have q3 : ¬ (m : Int) < (n : Int) := by omega
                      rw [decide_eq_false h3, Bool.false_and] at GS
                      have GS := Lib.hid GS
                      clear h2
                      clear LG hg hd BQ E0
                      go_wp2_with fail
                      go_quiet (fail)
                      go_wp2_with fail
                      have Dz := Lib.hid (drawn_more QQ.out nq)
                      clear s1 s2 QQ
                      generalize wr.drewN nq = wz at *
                      have BZ := below_then BD.out (drawn_below Dz.out)
                      obtain ⟨_, e1, s1⟩ := RS.out n hnS hnK _ BZ
                      cases e1
                      obtain ⟨_, e1, s2⟩ := RS.out m hmS hmK _ BZ
                      cases e1
                      clear PT BZ
                      go_quiet (fail)
                      go_wp2_with fail
                      go_roundw
                      case rel => exact ⟨m + 1, by rw [GS.out] <;> rfl, rfl, by omega, Lib.hid (drawn_more Dz.out _)⟩
                      case measure => simp [intOf]; omega
                  · have q2 : ((K[m].length : Int) == (K[n].length : Int)) = false := beq_eq_false_iff_ne.2 (by omega)
                    rw [decide_eq_false h2, Bool.false_and, Bool.false_and] at GS
                    have GS := Lib.hid GS
                    clear LG hg hd BQ E0
                    go_wp2_with fail
                    go_quiet (fail)
                    go_wp2_with fail
                    have Dz := Lib.hid (drawn_more QQ.out nq)
                    clear s1 s2 QQ
                    generalize wr.drewN nq = wz at *
                    have BZ := below_then BD.out (drawn_below Dz.out)
                    obtain ⟨_, e1, s1⟩ := RS.out n hnS hnK _ BZ
                    cases e1
                    obtain ⟨_, e1, s2⟩ := RS.out m hmS hmK _ BZ
                    cases e1
                    clear PT BZ
                    go_quiet (fail)
                    go_wp2_with fail
                    go_roundw
                    case rel => exact ⟨m + 1, by rw [GS.out] <;> rfl, rfl, by omega, Lib.hid (drawn_more Dz.out _)⟩
                    case measure => simp [intOf]; omega
              · have hme : m = S.length := by omega
                have mi : ¬ (m : Int) < (S.length : Int) := by omega
                have GA : goodAt K u.count.toNat n = true := by rw [← goodTo_full, hKl, ← hme]; exact hg
                obtain ⟨_, e1, s1⟩ := RS.out n hnS hnK _ BQ
                cases e1
                have OQ := Lib.hid (OD.out.below (drawn_below QQ.out))
                have BQ := Lib.hid BQ
                have hLl : (L.map Prod.fst).length ≤ 1000000 := by rw [List.length_map]; omega
                clear hg
                go_wp2_with (at_builtin; refine wp_appG 32 (.slice none 0 0) 24 info_sl Tryz.underlying32 rfl (by decide) (by decide) (fun _ => rfl) slE_one _ rfl (.tmp 129) (.tmp 134) rfl _ _ _ ⟨S[n].a, K[n].length, S[n].c⟩ rfl rfl OQ.out hLl ?_; intro v' w4 hO4 hb4; obtain ⟨A12, cap12, rfl, -, -⟩ := OwnG.form (enc := slE) (fun _ => rfl) hO4; have OL := Lib.hid hO4; have BL := Lib.hid (BQ.out.trans hb4); clear hO4 hb4)
                have OL2 : OwnG 62 1 slE w4 W2.heap.size (.slice A12 (L.length + 1) cap12) ((L ++ [((⟨S[n].a, K[n].length, S[n].c⟩ : Sl), K[n])]).map Prod.fst) := by
                  have := OL.out
                  rw [List.length_append, List.length_map] at this
                  rw [List.map_append]
                  exact this
                obtain ⟨g12, rfl⟩ : ∃ g, A12 = some ⟨g, 0, none⟩ := by
                  obtain ⟨A', c', e', r', -⟩ := OwnG.form (enc := slE) (fun _ => rfl) OL2
                  obtain ⟨g, ea, -⟩ := rowS r' (i := 0) (by simp)
                  injection e' with e1 e2 e3
                  exact ⟨g, e1.trans ea⟩
                have OL2 := Lib.hid OL2
                have OrdL := (refTo_is hIn (count := u.count.toNat) n (by omega)).1
                have FIN := Lib.hid (show ∀ (X Y : List (Sl × List Nat)), X ++ Y = L → (∀ x ∈ X.map Prod.snd, ltL K[n] x = false) → (∀ y ∈ Y, ltL K[n] y.2 = true) →
                    (X ++ (⟨S[n].a, K[n].length, S[n].c⟩, K[n]) :: Y).map Prod.snd = refTo K u.count.toNat (n + 1) ∧ (X ++ (⟨S[n].a, K[n].length, S[n].c⟩, K[n]) :: Y).length ≤ n + 1 ∧ (∀ p ∈ X ++ (⟨S[n].a, K[n].length, S[n].c⟩, K[n]) :: Y, p.1.n = p.2.length ∧ p.2.length ≤ 9 ∧ ∀ w', Below W2.heap.size W2 w' → RowsG 1 inE w' p.1.a p.2) from fun X Y hXY hX hY => by
                  refine ⟨?_, ?_, fun p hp => ?_⟩
                  · rw [refTo, if_pos GA, getElem!_pos K n hnK, ← EL.out, ← hXY, List.map_append, List.map_append, List.map_cons]
                    refine (insL_split hX fun y hy => ?_).symm
                    obtain ⟨q, hq, rfl⟩ := List.mem_map.1 hy
                    exact hY q hq
                  · rw [← hXY, List.length_append] at hL
                    rw [List.length_append, List.length_cons]
                    omega
                  · rcases List.mem_append.1 hp with h | h
                    · exact PL.out p (by rw [← hXY]; exact List.mem_append_left _ h)
                    · rcases List.mem_cons.1 h with rfl | h
                      · exact ⟨rfl, hK9 _ (List.getElem_mem hnK), fun w' hb => RI.out n hnS hnK w' hb⟩
                      · exact PL.out p (by rw [← hXY]; exact List.mem_append_right _ h))
                clear OL s1 GA OQ BQ E0 OD BD QQ OO BB
                go_loopw [17] (fun z ws => ∃ (k : Nat) (X Y : List (Sl × List Nat)), z = .int .i64 (k : Int) ∧ X.length = k ∧ X ++ Y = L ∧ Hid (∀ y ∈ Y, ltL K[n] y.2 = true) ∧ Hid (OwnG 62 1 slE ws W2.heap.size (.slice (some ⟨g12, 0, none⟩) (L.length + 1) cap12) ((X ++ (⟨S[n].a, K[n].length, S[n].c⟩, K[n]) :: Y).map Prod.fst)) ∧ Hid (Below W2.heap.size W2 ws)) (fun z _ => (intOf z).toNat)
                case atStart => exact ⟨L.length, L, [], rfl, rfl, by simp, Lib.hid (by simp), OL2, BL⟩
                case round =>
                  clear OL2 BL
                  obtain ⟨k, X, Y, rfl, hk, hXY, hY, OL, BL⟩ := hrel
                  have hkL : k ≤ L.length := by rw [← hXY, List.length_append]; omega
                  rcases List.eq_nil_or_concat X with rfl | ⟨X', xl, rfl⟩
                  · obtain rfl : k = 0 := by simpa using hk.symm
                    have FN := Lib.hid (FIN.out [] Y hXY (fun x h => by cases h) hY.out)
                    have OLn := Lib.hid (fun q => OL.out.below (drewN_below2 (Below.refl _ _) q))
                    have BLn := Lib.hid (fun q => drewN_below2 BL.out q)
                    clear OL BL FIN hXY hY
                    go_wp2_with fail
                    go_quiet (fail)
                    go_wp2_with fail
                    go_roundw
                    case rel => exact ⟨n + 1, _, rfl, by omega, FN.out.2.1, Lib.hid FN.out.1, Lib.hid FN.out.2.2, Lib.hid (OLn.out _), Lib.hid (BLn.out _)⟩
                    case measure => simp [intOf]; omega
                  · obtain ⟨j, hj⟩ : ∃ j, X'.length = j := ⟨_, rfl⟩
                    have hkj : k = j + 1 := by rw [← hk, List.length_concat, hj]
                    simp only [List.concat_eq_append] at hXY OL
                    have xlL : xl ∈ L := by rw [← hXY]; simp
                    obtain ⟨xn, x9, xr⟩ := PL.out xl xlL
                    have hkw : IntKind.i64.wrap ((k : Int) - 1) = (j : Int) := by rw [IntKind.wrap_i64]; omega
                    have k0 : (0 : Int) < (k : Int) := by omega
                    have kn : 0 < k := by omega
                    have HKJ := Lib.hid hkj
                    have k1 : (0 : Int) ≤ (k : Int) := by omega
                    have k2 : (k : Int) < (L.length : Int) + 1 := by omega
                    have j0 : (0 : Int) ≤ (j : Int) := by omega
                    have j2 : (j : Int) < (L.length : Int) + 1 := by omega
                    have CK := Lib.hid (show ∀ w', OwnG 62 1 slE w' W2.heap.size (.slice (some ⟨g12, 0, none⟩) (L.length + 1) cap12) ((X' ++ [xl] ++ ((⟨S[n].a, K[n].length, S[n].c⟩ : Sl), K[n]) :: Y).map Prod.fst) → (w'.cell? ⟨g12, k, none⟩ = some (.slice S[n].a K[n].length S[n].c) ∧ w'.frozen? ⟨g12, k, none⟩ = false) ∧ (w'.cell? ⟨g12, j, none⟩ = some (.slice xl.1.a xl.2.length xl.1.c) ∧ w'.frozen? ⟨g12, j, none⟩ = false) from fun w' h => by
                      have e1 := h.cellQ (pick_k X' xl _ Y)
                      have e2 := h.cellQ (pick_j X' xl _ Y)
                      rw [hj, ← hkj] at e1
                      rw [hj, xn] at e2
                      exact ⟨e1, e2⟩)
                    have BF := fun w' hb => before_any _ _ S[n].c xl.1.c _ _ w' (RI.out n hnS hnK w' hb) (xr w' hb) (Nat.le_trans (hK9 _ (List.getElem_mem hnK)) (by decide)) (Nat.le_trans x9 (by decide))
                    cases hlt : ltL K[n] xl.2
                    · simp only [hlt] at BF
                      have FN := Lib.hid (FIN.out (X' ++ [xl]) Y hXY (by
                        rw [List.map_append]
                        refine not_lt_all (Y := Y.map Prod.snd) (a := xl.2) ?_ hlt
                        have := OrdL
                        rw [← EL.out, ← hXY, List.map_append, List.map_append] at this
                        exact this) hY.out)
                      have BFk := Lib.hid (fun q => BF (wr.drewN q) (drewN_below2 BL.out q))
                      have OLn := Lib.hid (fun q => OL.out.below (drewN_below2 (Below.refl _ _) q))
                      have BLn := Lib.hid (fun q => drewN_below2 BL.out q)
                      obtain ⟨⟨d1, d2⟩, d3, d4⟩ := CK.out _ OL.out
                      clear OL BL FIN hXY hY CK BF xr xn hlt OrdL hkj
                      go_wp2_with fail
                      go_quiet ((go_at_call 28; first | exact quiet_draws (BFk.out _) | exact quiet_add_draws (BFk.out _)))
                      go_wp2_with fail
                      go_roundw
                      case rel => exact ⟨n + 1, _, rfl, by omega, FN.out.2.1, Lib.hid FN.out.1, Lib.hid FN.out.2.2, Lib.hid (OLn.out _), Lib.hid (BLn.out _)⟩
                      case measure => simp [intOf]; omega
                    · simp only [hlt] at BF
                      have hY2 := Lib.hid (show ∀ y ∈ xl :: Y, ltL K[n] y.2 = true from fun y hy => by
                        rcases List.mem_cons.1 hy with rfl | h
                        · exact hlt
                        · exact hY.out y h)
                      have XN := Lib.hid xn
                      have hXY2 := Lib.hid (show X' ++ xl :: Y = L from by rw [← hXY]; simp)
                      have BFk := Lib.hid (fun q => BF (wr.drewN q) (drewN_below2 BL.out q))
                      obtain ⟨⟨d1, d2⟩, d3, d4⟩ := CK.out _ OL.out
                      clear FIN hXY hY BF xr xn hlt OrdL hkj
                      go_wp2_with fail
                      go_quiet ((go_at_call 28; first | exact quiet_draws (BFk.out _) | exact quiet_add_draws (BFk.out _)))
                      go_wp2_with fail
                      have OL3 := Lib.hid (OL.out.below (drewN_below2 (Below.refl _ _) nq))
                      have BL3 := Lib.hid (drewN_below2 BL.out nq)
                      clear d1 d2 d3 d4 OL BL BFk
                      generalize wr.drewN nq = wy at *
                      obtain ⟨⟨d1, d2⟩, d3, d4⟩ := CK.out _ OL3.out
                      have hjk : ¬ k = j := by have := HKJ.out; omega
                      go_region
                      have hgB : W2.heap.size ≤ g12 := by
                        obtain ⟨A', c', e', -, hge⟩ := OwnG.form (enc := slE) (fun _ => rfl) OL3.out
                        injection e' with e1 e2 e3
                        exact hge g12 0 e1.symm
                      have OL5 : OwnG 62 1 slE ((wy.setCell ⟨g12, j, none⟩ (.slice S[n].a K[n].length S[n].c)).setCell ⟨g12, k, none⟩ (.slice xl.1.a xl.2.length xl.1.c)).drew W2.heap.size (.slice (some ⟨g12, 0, none⟩) (L.length + 1) cap12) ((X' ++ ((⟨S[n].a, K[n].length, S[n].c⟩ : Sl), K[n]) :: xl :: Y).map Prod.fst) := by
                        have hl : ((X' ++ [xl] ++ ((⟨S[n].a, K[n].length, S[n].c⟩ : Sl), K[n]) :: Y).map Prod.fst).length = X'.length + 1 + (Y.length + 1) := by simp; omega
                        have p1 := OL3.out.put (i := j) (s := ⟨S[n].a, K[n].length, S[n].c⟩) (by omega) rfl
                        have p2 := p1.put (i := k) (s := xl.1) (S' := (X' ++ ((⟨S[n].a, K[n].length, S[n].c⟩ : Sl), K[n]) :: xl :: Y).map Prod.fst) (by rw [List.length_set]; have := HKJ.out; omega) (by
                          have := swap_lists X' xl ((⟨S[n].a, K[n].length, S[n].c⟩ : Sl), K[n]) Y
                          rw [hj, ← HKJ.out] at this
                          exact this.symm)
                        rw [XN.out] at p2
                        exact p2.below (Below.refl _ _).drew
                      have BL5 : Below W2.heap.size W2 ((wy.setCell ⟨g12, j, none⟩ (.slice S[n].a K[n].length S[n].c)).setCell ⟨g12, k, none⟩ (.slice xl.1.a xl.2.length xl.1.c)).drew := ((BL3.out.setCell (p := ⟨g12, j, none⟩) hgB _).setCell (p := ⟨g12, k, none⟩) hgB _).drew
                      generalize ((wy.setCell ⟨g12, j, none⟩ (.slice S[n].a K[n].length S[n].c)).setCell ⟨g12, k, none⟩ (.slice xl.1.a xl.2.length xl.1.c)).drew = wz at *
                      have OL5 := Lib.hid OL5
                      have BL5 := Lib.hid BL5
                      clear d1 d2 d3 d4 CK OL3 BL3
                      go_wp2_with fail
                      go_roundw
                      case rel => exact ⟨j, X', xl :: Y, rfl, hj, hXY2.out, hY2, OL5, BL5⟩
                      case measure => have := HKJ.out; simp [intOf]; omega
        · obtain rfl : n = S.length := by omega
          obtain ⟨A12, cap12, rfl, R12, -⟩ := OwnG.form (enc := slE) (fun _ => rfl) OO.out
          have SET : SetsAt wr (.slice A12 (L.map Prod.fst).length cap12) (refTo K u.count.toNat K.length) := by
            refine ⟨A12, cap12, L.map Prod.fst, ?_, ?_, R12, fun i h h2 => ?_⟩
            · rw [hKl, ← EL.out, List.length_map, List.length_map]
            · rw [hKl, ← EL.out, List.length_map, List.length_map]
            · have hi : i < L.length := by simpa using h
              have e1 : (refTo K u.count.toNat K.length)[i]'h2 = L[i].2 := by
                simp only [hKl, ← EL.out, List.getElem_map]
              rw [e1, List.getElem_map]
              have q := PL.out _ (List.getElem_mem hi)
              exact ⟨q.1, q.2.2 _ BB.out⟩
          have SET2 := SET
          rw [hKl] at SET2
          have SET := Lib.hid SET
          have SET2 := Lib.hid SET2
          have BT := Lib.hid (below_then BW.out BB.out)
          have ni : ¬ ((S.length : Int) < (S.length : Int)) := by omega
          have LM : (L.map Prod.fst).length = L.length := List.length_map _
          go_wp2_with fail
          rw [LM] at SET SET2
          first | exact bodyPost_ret (results_tmp2 rfl _ _ _) rfl ⟨_, rfl, BT.out, SET.out⟩ | exact bodyPost_ret (results_tmp2 rfl _ _ _) rfl ⟨_, rfl, BT.out, SET2.out⟩
end Tw
end Go.Proofs.YtjgcbeihgeaimaaGreatDoor
