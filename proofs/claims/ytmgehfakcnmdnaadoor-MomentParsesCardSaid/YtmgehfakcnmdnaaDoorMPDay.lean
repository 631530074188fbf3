/-
  The walk of ParseDay of package moment.
-/
import Derived.Test.YtmgehfakcnmdnaaDoorMDayA
import Derived.Lib.AtoiErrMem
namespace Go.Proofs.YtmgehfakcnmdnaaDoor
namespace Ap
open Go.RowKit Lw Go.Proofs.YtmgehfakcnmdnaaDoor.Mp

def PDayPost (s : ByteArray) (w : World) (e : Ending) (w' : World) : Prop := ∃ t c : Int, e = .returned (.tuple #[.int .i64 t, .int .i64 c]) ∧ PDayIs s t c ∧ Below w.heap.size w w'
theorem pday_not {s : ByteArray} (h : ¬ progD s) : PDayIs s 0 12 := Or.inr ⟨fun g => h (day_prog g.1), rfl, rfl⟩
theorem time_bd {y m d : Int} (hw : wholeP y m d) : -1000000000000000 ≤ timeOf y m d 0 0 0 0 ∧ timeOf y m d 0 0 0 0 ≤ 4000000000000000 := by
  have r := wholeP_range hw
  have b := bgv_bd (dn y m d) y m (by omega) (by omega)
  unfold timeOf
  omega
set_option maxRecDepth 100000 in
set_option maxHeartbeats 8000000 in
theorem pday_any (s : ByteArray) (w : World) (hs : s.size ≤ 100) :
    Calls Tryd.prog 6 #[.string s] w (PDayPost s w) := by
  have M : maxLen = 9223372036854775807 := rfl
  have CU := cut_any s w (by omega)
  have hsz : (hdP s).size ≤ 100 := by unfold hdP; rw [size_ext s _ _ (ptS_le s)]; have := ptS_le s; omega
  have tsz : (tlP s).size ≤ 100 := by
    unfold tlP
    split
    · rw [size_ext s _ _ (by omega)]; omega
    · decide
  obtain ⟨h, eh⟩ : ∃ h, hdP s = h := ⟨_, rfl⟩
  obtain ⟨t, et⟩ : ∃ t, tlP s = t := ⟨_, rfl⟩
  have EH := Lib.hid eh
  have ET := Lib.hid et
  rw [eh] at hsz
  rw [et] at tsz
  rw [eh, et] at CU
  clear eh et
  have FH := Lib.hid (fun w' => fields_any h P10 w' (by decide) (by omega) run10)
  generalize hp : decide (ptS s < s.size) = pb at CU
  replace hp := Lib.hid hp
  go_enter Tryd.func6, Tryd.ntmps6
  go_wp2_with fail
  refine CU.mono ?_
  rintro e w1 ⟨rfl, hb1⟩
  have B1 := Lib.hid hb1
  clear hb1 CU
  go_wp2_with fail
  refine (FH.out _).mono ?_
  rintro e w2 ⟨hb2, hf⟩
  have B2 := Lib.hid (below_then B1.out hb2)
  clear hb2 FH
  rcases hf with ⟨lk, v, rfl, hown⟩ | ⟨lk, rfl⟩
  · by_cases ht : pb = true ∧ (t.size = 0 ∨ 9 < t.size)
    · obtain ⟨rfl, ht⟩ := ht
      have N := Lib.hid (pday_not (s := s) fun g => by
        have := g.2.1
        rw [ET.out] at this
        have := this (of_decide_eq_true hp.out)
        omega)
      rcases ht with ht | ht
      · have em := empty_yes ht
        clear hown lk ht
        go_wp2_with fail
        go_ret2
        exact ⟨0, 12, rfl, N.out, B2.out⟩
      · have em := empty_no (t := t) (by omega)
        have ht' : (9 : Int) < (t.size : Int) := by omega
        clear hown lk ht
        go_wp2_with fail
        go_ret2
        exact ⟨0, 12, rfl, N.out, B2.out⟩
    · have ht9 : t.size ≤ 9 ∧ (pb = true → 1 ≤ t.size) := by
        cases pb with
        | true => exact ⟨Nat.le_of_not_lt fun h => ht ⟨rfl, Or.inr h⟩, fun _ => Nat.pos_of_ne_zero fun h => ht ⟨rfl, Or.inl h⟩⟩
        | false =>
          have e : tlP s = ⟨#[]⟩ := if_neg (of_decide_eq_false hp.out)
          rw [ET.out] at e
          rw [e]
          exact ⟨by decide, fun g => by cases g⟩
      obtain ⟨ht9, ht1⟩ := ht9
      have GT : Hid (allD t.data.toList → progD s) := Lib.hid fun ad => ⟨by rw [EH.out]; exact lk, by
        rw [ET.out]
        intro hlt
        have := ht1 (hp.out.symm.trans (decide_eq_true hlt))
        omega, by rw [ET.out]; exact ad⟩
      have T9 := Lib.hid ht9
      have HO := Lib.hid (And.intro lk hown)
      have hcase : pb = false ∨ (pb = true ∧ t.toList.isEmpty = false) := by
        cases pb with
        | true => exact Or.inr ⟨rfl, empty_no (by have := ht1 rfl; omega)⟩
        | false => exact Or.inl rfl
      have i0 : 0 ≤ (t.size : Int) := by omega
      have i7 : ¬ (9 : Int) < (t.size : Int) := by omega
      clear ht ht1 ht9 lk hown hp
      obtain ⟨W, cap, hcv, hH, hBW, _⟩ := bytes_in w2 t
      have CO := contains_any t w2.heap.size cap W (by omega) hH
      have BW := Lib.hid (below_then B2.out hBW)
      have bW := Lib.hid hBW
      clear hBW hH
      by_cases ad : allD t.data.toList
      · rw [show decide (¬ allD t.data.toList) = false from decide_eq_false (not_not_intro ad)] at CO
        have g := GT.out ad
        obtain ⟨tp, hh, mv⟩ := prog_day g
        rw [EH.out] at hh
        rw [ET.out] at mv
        obtain ⟨lk, hown⟩ := HO.out
        rw [hh] at lk hown
        rw [vals10 lk (by have := tp.1; omega)] at hown
        obtain ⟨g1, cap1, rfl, hg1, hc1⟩ := row_cells hown (by simp)
        have q0 := (bW.out.cell (p := ⟨g1, 0, none⟩) hg1).trans (hc1 0 _ rfl)
        have q1 := (bW.out.cell (p := ⟨g1, 1, none⟩) hg1).trans (hc1 1 _ rfl)
        have q2 := (bW.out.cell (p := ⟨g1, 2, none⟩) hg1).trans (hc1 2 _ rfl)
        have lg1 : g1 < W.heap.size := Nat.lt_of_lt_of_le hg1 bW.out.size
        obtain ⟨n, hn, hnv⟩ := parse_u t ad T9.out
        have zs : ((⟨#[48]⟩ : ByteArray) ++ t).size = 1 + t.size := by rw [ByteArray.size_append]; rfl
        have PU := Lib.hid (fun w' => Tryd.strconv_ParseUint_10_at64_ok _ (by rw [zs]; omega) n hn w')
        have hn9 : n < 1000000000 := by
          have e : t.data.toList.take t.data.toList.length = t.data.toList := List.take_length
          have := numL_bd _ _ (Nat.le_refl _) (by rw [e]; exact ad)
          rw [e] at this
          have h9 : ∀ r : Nat, r ≤ 9 → (10 : Int) ^ r ≤ 1000000000 := by decide
          have := h9 t.data.toList.length T9.out
          omega
        rw [← hnv] at mv
        have MV0 := mv
        have TP := Lib.hid tp
        have AD := ad
        have HN := Lib.hid hnv.symm
        clear ad hown hc1 hg1 mv tp g lk hh HO GT bW hn hnv zs
        have FU := Lib.hid (fun w' => Mw.from_any (nm s 0 4) (nm s 5 7) (nm s 8 10) 0 0 0 0 w')
        obtain ⟨T, eT⟩ : ∃ T : Nat, T = 10 ^ t.size := ⟨_, rfl⟩
        have TE : Hid (∀ w', Calls Tryd.prog 23 #[.int .i64 t.size] w' fun e w'' => e = .returned (.int .u64 (T : Int)) ∧ w' = w'') := Lib.hid fun w' => by rw [eT]; exact ten_any t.size w' (by have := T9.out; omega)
        have n10 : n < T := by
          have e : t.data.toList.take t.data.toList.length = t.data.toList := List.take_length
          have := (numL_bd _ _ (Nat.le_refl _) (by rw [e]; exact AD)).2
          rw [e, HN.out] at this
          have hl : t.data.toList.length = t.size := rfl
          rw [hl] at this
          rw [eT]
          exact_mod_cast this
        have T10 : T ≤ 1000000000 := by
          have h9 : ∀ r : Nat, r ≤ 9 → 10 ^ r ≤ 1000000000 := by decide
          rw [eT]; exact h9 _ T9.out
        rw [show tenI t.size = (T : Int) by rw [eT]; rfl] at MV0
        have MV := Lib.hid MV0
        clear MV0 eT AD
        rcases (show pb = false ∨ (pb = true ∧ t.toList.isEmpty = false) from hcase) with rfl | ⟨rfl, em⟩
        all_goals
          go_wp2_with fail
          refine CO.mono ?_
          rintro e w' ⟨rfl, rfl⟩
          go_wp2_with fail
          go_region_held3 (fun w' => w'.cell? ⟨g1, 0, none⟩ = some (.int .i64 (nm s 0 4)) ∧ w'.cell? ⟨g1, 1, none⟩ = some (.int .i64 (nm s 5 7)) ∧ w'.cell? ⟨g1, 2, none⟩ = some (.int .i64 (nm s 8 10))) (go_keep) (first | (go_at_call 11; refine (FU.out _).mono ?_; rintro e w4 ⟨ti, c, rfl, hfi, hb4⟩; have m0 := (hb4.cell (p := ⟨g1, 0, none⟩) lg1).trans q0; have m1 := (hb4.cell (p := ⟨g1, 1, none⟩) lg1).trans q1; have m2 := (hb4.cell (p := ⟨g1, 2, none⟩) lg1).trans q2))
          have B4 := Lib.hid (below_then BW.out.drew hb4)
          have lg4 : g1 < w4.heap.size := Nat.lt_of_lt_of_le lg1 hb4.size
          clear q0 q1 q2 hb4
          rcases hfi with ⟨f1, f2, rfl⟩ | ⟨f1, rfl, rfl⟩
          · have hw := f1.1
            have F1 := Lib.hid f1
            have hI := wholeP_ym hw
            obtain ⟨n1, n2⟩ := wholeP_range hw
            obtain ⟨z, k, z1, z2, hzk⟩ := ym_ex (dn (nm s 0 4) (nm s 5 7) (nm s 8 10) + 1) (by omega) (by omega)
            have dd := day_diff hw hzk
            obtain ⟨D, eD⟩ : ∃ D : Nat, (D : Int) = dayLen (nm s 0 4) (nm s 5 7) (nm s 8 10) := ⟨(dayLen (nm s 0 4) (nm s 5 7) (nm s 8 10)).toNat, by have := dayLen_bd (nm s 0 4) (nm s 5 7) (nm s 8 10); omega⟩
            rw [← eD] at dd
            have dl := dayLen_bd (nm s 0 4) (nm s 5 7) (nm s 8 10)
            have D0 : D ≤ 86401000000 := by omega
            have bd := bgv_bd (dn (nm s 0 4) (nm s 5 7) (nm s 8 10)) (nm s 0 4) (nm s 5 7) (by omega) (by omega)
            have bd2 := bgv_bd (dn (nm s 0 4) (nm s 5 7) (nm s 8 10) + 1) z k (by omega) (by omega)
            have tbd := time_bd hw
            rw [← f2] at tbd
            have wD : IntKind.u64.wrap (D : Int) = (D : Int) := Dv.w_id (by omega)
            have PQ : n * D < T * 18446744073709551616 := Nat.lt_of_lt_of_le (Nat.mul_lt_mul_of_pos_right n10 (by omega)) (Nat.mul_le_mul_left _ (by omega))
            obtain ⟨H, L, hM, hD⟩ := Dv.mul_div n D T (by omega) (by omega) (by omega) PQ
            have qb : n * D / T ≤ D := by
              have : n * D ≤ T * D := Nat.mul_le_mul_right _ (Nat.le_of_lt n10)
              have h2 := Nat.div_le_div_right (c := T) this
              rw [Nat.mul_div_cancel_left _ (by omega)] at h2
              exact h2
            have FIN : Hid (∀ v : Int, v = ti + (((n * D / T : Nat) : Int) + (if 0 < n * D % T then 1 else 0)) → PDayIs s v 0) := Lib.hid fun v hv => Or.inl ⟨⟨TP.out, F1.out⟩, by
              rw [hv]
              unfold dayV
              rw [MV.out, ← eD, f2]
              unfold upI
              congr 1
              have e1 : (n : Int) * (D : Int) / (T : Int) = ((n * D / T : Nat) : Int) := by rw [← Int.natCast_mul, ← Int.natCast_ediv]
              have e2 : (n : Int) * (D : Int) % (T : Int) = ((n * D % T : Nat) : Int) := by rw [← Int.natCast_mul, ← Int.natCast_emod]
              rw [e1, e2]
              congr 1
              by_cases g : 0 < n * D % T
              · rw [if_pos g, if_pos (by omega)]
              · rw [if_neg g, if_neg (by omega)], rfl⟩
            have DY := Lib.hid (fun w' => Mw.days_any (nm s 0 4) (nm s 5 7) (nm s 8 10) w' (by have := hw.1; omega) (by have := hw.2.1; omega) hw.2.2.1 (by have := hw.2.2.2.1; omega) (by have := hw.2.2.2.2.1; omega) (by have := hw.2.2.2.2.2; have := mo_len (nm s 0 4) (nm s 5 7) hw.2.2.1 hw.2.2.2.1; omega))
            have BE := Lib.hid (fun w' => Mw.begin_any (dn (nm s 0 4) (nm s 5 7) (nm s 8 10) + 1) z k w' hzk z1 z2)
            have BG := Lib.hid (fun w' => Mw.begin_any (dn (nm s 0 4) (nm s 5 7) (nm s 8 10)) (nm s 0 4) (nm s 5 7) w' hI (by have := hw.1; omega) (by have := hw.2.1; omega))
            have HM := Lib.hid hM
            have HD := Lib.hid hD
            have P0 := Lib.hid PQ
            clear f1 f2 hw hI hzk hM hD PQ eD dl n10
            generalize n * D / T = q at *
            generalize n * D % T = r at *
            go_wp2_with fail
            refine (PU.out _).mono ?_
            rintro e w5 ⟨rfl, hw5⟩
            have hb5 : Below w4.heap.size w4 w5 := by
              rcases hw5 with h | h
              · rw [h]; exact Below.refl _ _
              · rw [h]; exact Lib.bytesWorld_below _ _ _
            have B5 := Lib.hid (below_then B4.out hb5)
            have p0 := (hb5.cell (p := ⟨g1, 0, none⟩) lg4).trans m0
            have p1 := (hb5.cell (p := ⟨g1, 1, none⟩) lg4).trans m1
            have p2 := (hb5.cell (p := ⟨g1, 2, none⟩) lg4).trans m2
            clear m0 m1 m2 hb5 hw5
            go_wp2_with fail
            go_region_held3 (fun w' => w'.cell? ⟨g1, 0, none⟩ = some (.int .i64 (nm s 0 4)) ∧ w'.cell? ⟨g1, 1, none⟩ = some (.int .i64 (nm s 5 7)) ∧ w'.cell? ⟨g1, 2, none⟩ = some (.int .i64 (nm s 8 10))) (go_keep) (first | (go_at_call 19; refine (DY.out _).mono ?_; rintro e w' ⟨rfl, rfl⟩))
            generalize dn (nm s 0 4) (nm s 5 7) (nm s 8 10) = nn at *
            clear p0 p1 p2 DY PU FU
            go_wp2_with fail
            refine (BE.out _).mono ?_
            rintro e w6 ⟨rfl, hb6⟩
            have B6 := Lib.hid (below_then B5.out.drew hb6)
            clear hb6 BE
            go_wp2_with fail
            refine (BG.out _).mono ?_
            rintro e w7 ⟨rfl, hb7⟩
            have B7 := Lib.hid (below_then B6.out hb7)
            clear hb7 BG
            generalize bgv (nn + 1) z k = b1 at *
            generalize bgv nn (nm s 0 4) (nm s 5 7) = b0 at *
            go_wp2_with fail
            refine (HM.out _).mono ?_
            rintro e w' ⟨rfl, rfl⟩
            go_wp2_with fail
            refine (TE.out _).mono ?_
            rintro e w' ⟨rfl, rfl⟩
            go_wp2_with fail
            refine (HD.out _).mono ?_
            rintro e w8 ⟨rfl, hb8⟩
            have B8 := Lib.hid (below_then B7.out hb8)
            clear hb8
            by_cases hr : 0 < r
            · have F := Lib.hid (FIN.out (ti + ((q : Int) + 1)) (by rw [if_pos hr]))
              have hr' : (0 : Int) < (r : Int) := by omega
              go_wp2_with fail
              go_ret2
              exact ⟨_, 0, rfl, F.out, B8.out⟩
            · have F := Lib.hid (FIN.out (ti + (q : Int)) (by rw [if_neg hr, Int.add_zero]))
              have hr' : ¬ (0 : Int) < (r : Int) := by omega
              go_wp2_with fail
              go_ret2
              exact ⟨_, 0, rfl, F.out, B8.out⟩
          · have N := Lib.hid (show PDayIs s 0 12 from Or.inr ⟨fun g => f1 (g.2), rfl, rfl⟩)
            go_wp2_with fail
            go_ret2
            exact ⟨0, 12, rfl, N.out, B4.out⟩
      · rw [show decide (¬ allD t.data.toList) = true from decide_eq_true ad] at CO
        have N := Lib.hid (pday_not (s := s) fun g => ad (by have := g.2.2; rwa [ET.out] at this))
        clear ad GT HO
        rcases hcase with rfl | ⟨rfl, em⟩
        all_goals
          go_wp2_with fail
          refine CO.mono ?_
          rintro e w' ⟨rfl, rfl⟩
          go_wp2_with fail
          go_ret2
          exact ⟨0, 12, rfl, N.out, BW.out⟩
  · have N := Lib.hid (pday_not (s := s) fun g => lk (by have := g.1; rwa [EH.out] at this))
    go_wp2_with fail
    go_ret2
    exact ⟨0, 12, rfl, N.out, B2.out⟩
end Ap
end Go.Proofs.YtmgehfakcnmdnaaDoor
