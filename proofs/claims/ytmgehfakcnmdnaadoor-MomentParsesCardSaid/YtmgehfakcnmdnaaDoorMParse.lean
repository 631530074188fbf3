/-
  The walk of Parse of package moment.
-/
import Derived.Test.YtmgehfakcnmdnaaDoorMForm2
import Derived.Test.YtmgehfakcnmdnaaDoorMFld2
import Derived.Test.YtmgehfakcnmdnaaDoorMWalk3
import Derived.Deep.RegionHeld3
namespace Go.Proofs.YtmgehfakcnmdnaaDoor
namespace Ap
open Go.RowKit Lw Go.Proofs.YtmgehfakcnmdnaaDoor.Mp

theorem digs {h p : ByteArray} {i j : Nat} (hl : likeP h p) (hj : j ≤ h.size) (hp : ∀ k, i ≤ k → k < j → bt p k = 48) : allD (h.extract i j).data.toList := by
  rw [allD_bt]
  intro k hk
  rw [size_ext h i j hj] at hk
  rw [bt_ext h i j k hj (by omega)]
  exact (hl.2 (i + k) (by omega)).1 (hp (i + k) (by omega) (by omega))
theorem P19_d : ∀ k, k < 19 → (bt P19 k = 48 ↔ ¬ (k = 4 ∨ k = 7 ∨ k = 10 ∨ k = 13 ∨ k = 16)) := by decide
theorem P10_d : ∀ k, k < 10 → (bt P10 k = 48 ↔ ¬ (k = 4 ∨ k = 7)) := by decide
theorem grp19 (h : ByteArray) (hs : h.size = 19) : grpL h P19 19 = [numL (h.extract 0 4).data.toList, numL (h.extract 5 7).data.toList, numL (h.extract 8 10).data.toList, numL (h.extract 11 13).data.toList, numL (h.extract 14 16).data.toList, numL (h.extract 17 19).data.toList] := by
  have d : ∀ i n, i + n ≤ 19 → (¬ (i ≤ 4 ∧ 4 < i + n) ∧ ¬ (i ≤ 7 ∧ 7 < i + n) ∧ ¬ (i ≤ 10 ∧ 10 < i + n) ∧ ¬ (i ≤ 13 ∧ 13 < i + n) ∧ ¬ (i ≤ 16 ∧ 16 < i + n)) → ∀ j, i ≤ j → j < i + n → bt P19 j = 48 := fun i n h1 h2 j a b => (P19_d j (by omega)).2 (by omega)
  have n : ∀ k, k < 19 → (k = 4 ∨ k = 7 ∨ k = 10 ∨ k = 13 ∨ k = 16) → ¬ bt P19 k = 48 := fun k hk h e => (P19_d k hk).1 e h
  have r0 := grp_run h P19 0 rfl 4 (by omega) (by omega) (d 0 4 (by omega) (by omega))
  have r1 := grp_run h P19 5 (decide_eq_false (n 4 (by omega) (by omega))) 2 (by omega) (by omega) (d 5 2 (by omega) (by omega))
  have r2 := grp_run h P19 8 (decide_eq_false (n 7 (by omega) (by omega))) 2 (by omega) (by omega) (d 8 2 (by omega) (by omega))
  have r3 := grp_run h P19 11 (decide_eq_false (n 10 (by omega) (by omega))) 2 (by omega) (by omega) (d 11 2 (by omega) (by omega))
  have r4 := grp_run h P19 14 (decide_eq_false (n 13 (by omega) (by omega))) 2 (by omega) (by omega) (d 14 2 (by omega) (by omega))
  have r5 := grp_run h P19 17 (decide_eq_false (n 16 (by omega) (by omega))) 2 (by omega) (by omega) (d 17 2 (by omega) (by omega))
  have s4 := grp_skip (s := h) (n 4 (by omega) (by omega))
  have s7 := grp_skip (s := h) (n 7 (by omega) (by omega))
  have s10 := grp_skip (s := h) (n 10 (by omega) (by omega))
  have s13 := grp_skip (s := h) (n 13 (by omega) (by omega))
  have s16 := grp_skip (s := h) (n 16 (by omega) (by omega))
  simp only [Nat.reduceAdd] at r0 r1 r2 r3 r4 r5 s4 s7 s10 s13 s16
  rw [r5, s16, r4, s13, r3, s10, r2, s7, r1, s4, r0]
  rfl
theorem grp10 (h : ByteArray) (hs : h.size = 10) : grpL h P10 10 = [numL (h.extract 0 4).data.toList, numL (h.extract 5 7).data.toList, numL (h.extract 8 10).data.toList] := by
  have d : ∀ i n, i + n ≤ 10 → (¬ (i ≤ 4 ∧ 4 < i + n) ∧ ¬ (i ≤ 7 ∧ 7 < i + n)) → ∀ j, i ≤ j → j < i + n → bt P10 j = 48 := fun i n h1 h2 j a b => (P10_d j (by omega)).2 (by omega)
  have n : ∀ k, k < 10 → (k = 4 ∨ k = 7) → ¬ bt P10 k = 48 := fun k hk h e => (P10_d k hk).1 e h
  have r0 := grp_run h P10 0 rfl 4 (by omega) (by omega) (d 0 4 (by omega) (by omega))
  have r1 := grp_run h P10 5 (decide_eq_false (n 4 (by omega) (by omega))) 2 (by omega) (by omega) (d 5 2 (by omega) (by omega))
  have r2 := grp_run h P10 8 (decide_eq_false (n 7 (by omega) (by omega))) 2 (by omega) (by omega) (d 8 2 (by omega) (by omega))
  have s4 := grp_skip (s := h) (n 4 (by omega) (by omega))
  have s7 := grp_skip (s := h) (n 7 (by omega) (by omega))
  simp only [Nat.reduceAdd] at r0 r1 r2 s4 s7
  rw [r2, s7, r1, s4, r0]
  rfl
theorem nm_of {s p : ByteArray} {m i j : Nat} (hl : likeP (s.extract 0 m) p) (hm : m ≤ s.size) (hj : j ≤ m) (hp : ∀ k, i ≤ k → k < j → bt p k = 48) : numL ((s.extract 0 m).extract i j).data.toList = nm s i j := by
  have hs : (s.extract 0 m).size = m := by rw [size_ext s _ _ hm]; omega
  have d := digs hl (by omega) hp
  have e : (s.extract 0 m).extract i j = s.extract i j := by rw [ByteArray.extract_extract]; congr 1 <;> omega
  rw [e] at d ⊢
  exact (numV_yes d).symm
theorem vals19 {s : ByteArray} (hl : likeP (s.extract 0 19) P19) (hs : 19 ≤ s.size) : grpL (s.extract 0 19) P19 (s.extract 0 19).size = [nm s 0 4, nm s 5 7, nm s 8 10, nm s 11 13, nm s 14 16, nm s 17 19] := by
  have h19 : (s.extract 0 19).size = 19 := by rw [size_ext s _ _ hs]
  have d : ∀ i j, j ≤ 19 → (¬ (i ≤ 4 ∧ 4 < j) ∧ ¬ (i ≤ 7 ∧ 7 < j) ∧ ¬ (i ≤ 10 ∧ 10 < j) ∧ ¬ (i ≤ 13 ∧ 13 < j) ∧ ¬ (i ≤ 16 ∧ 16 < j)) → ∀ k, i ≤ k → k < j → bt P19 k = 48 := fun i j h1 h2 k a b => (P19_d k (by omega)).2 (by omega)
  rw [h19, grp19 _ h19]
  rw [nm_of hl hs (by omega) (d 0 4 (by omega) (by omega)), nm_of hl hs (by omega) (d 5 7 (by omega) (by omega)), nm_of hl hs (by omega) (d 8 10 (by omega) (by omega)), nm_of hl hs (by omega) (d 11 13 (by omega) (by omega)), nm_of hl hs (by omega) (d 14 16 (by omega) (by omega)), nm_of hl hs (by omega) (d 17 19 (by omega) (by omega))]
theorem vals10 {s : ByteArray} (hl : likeP (s.extract 0 10) P10) (hs : 10 ≤ s.size) : grpL (s.extract 0 10) P10 (s.extract 0 10).size = [nm s 0 4, nm s 5 7, nm s 8 10] := by
  have h10 : (s.extract 0 10).size = 10 := by rw [size_ext s _ _ hs]
  have d : ∀ i j, j ≤ 10 → (¬ (i ≤ 4 ∧ 4 < j) ∧ ¬ (i ≤ 7 ∧ 7 < j)) → ∀ k, i ≤ k → k < j → bt P10 k = 48 := fun i j h1 h2 k a b => (P10_d k (by omega)).2 (by omega)
  rw [h10, grp10 _ h10]
  rw [nm_of hl hs (by omega) (d 0 4 (by omega) (by omega)), nm_of hl hs (by omega) (d 5 7 (by omega) (by omega)), nm_of hl hs (by omega) (d 8 10 (by omega) (by omega))]
theorem run19 : ∀ k, k < P19.size → runAt P19 k ≤ 8 := by decide
theorem run10 : ∀ k, k < P10.size → runAt P10 k ≤ 8 := by decide
theorem run6 : ∀ k, k < P6.size → runAt P6 k ≤ 8 := by decide
theorem row_cells {w : World} {base : Nat} {e : TypeId} {v : Value} {n : Nat} {xs : List Value} (h : w.ownsRow base e 1 v n xs) (hn : 0 < n) :
    ∃ g cap, v = .slice (some ⟨g, 0, none⟩) n cap ∧ g < w.heap.size ∧ ∀ j u, xs[j]? = some u → w.cell? ⟨g, j, none⟩ = some u := by
  obtain ⟨g, cap, rfl, _, hg⟩ := h.form hn
  refine ⟨g, cap, rfl, hg, fun j u hu => ?_⟩
  have ce := h.cells (g := g) rfl j u hu
  have ae : (⟨g, 0, none⟩ : Addr).add j = ⟨g, j, none⟩ := by
    unfold Addr.add
    split
    · simp [*]
    · simp
  rwa [ae] at ce
theorem empty_yes {t : ByteArray} (h : t.size = 0) : t.toList.isEmpty = true := by
  rw [Lib.toList_data, List.isEmpty_iff_length_eq_zero]; simpa using h
theorem empty_no {t : ByteArray} (h : t.size ≠ 0) : t.toList.isEmpty = false := by
  rw [Lib.toList_data, Bool.eq_false_iff, ne_eq, List.isEmpty_iff_length_eq_zero]; simpa using h
def ParsePost (s : ByteArray) (w : World) (e : Ending) (w' : World) : Prop := ∃ t c : Int, e = .returned (.tuple #[.int .i64 t, .int .i64 c]) ∧ ParseIs s t c ∧ Below w.heap.size w w'
theorem parse_not {s : ByteArray} (h : ¬ progT s) : ParseIs s 0 12 := Or.inr ⟨fun g => h (text_prog g.1), rfl, rfl⟩
set_option maxRecDepth 100000 in
set_option maxHeartbeats 4000000 in
theorem parse_any (s : ByteArray) (w : World) (hs : s.size ≤ 100) :
    Calls Tryd.prog 4 #[.string s] w (ParsePost s w) := by
  have M : maxLen = 9223372036854775807 := rfl
  have SU := suf_any s w (by omega)
  have rs : (noZ s).size ≤ 100 := by
    unfold noZ
    split
    · rw [size_ext s _ _ (by omega)]; omega
    · exact hs
  obtain ⟨r, er⟩ : ∃ r, noZ s = r := ⟨_, rfl⟩
  have ER := Lib.hid er
  rw [er] at SU rs
  clear er
  have CU := Lib.hid (fun w' => cut_any r w' (by omega))
  generalize hz : decide (zP s) = zb at SU
  generalize hp : decide (ptS r < r.size) = pb at CU
  replace hz := Lib.hid hz
  replace hp := Lib.hid hp
  go_enter Tryd.func4, Tryd.ntmps4
  go_wp2_with fail
  refine SU.mono ?_
  rintro e w1 ⟨rfl, rfl⟩
  go_wp2_with fail
  refine (CU.out _).mono ?_
  rintro e w1 ⟨rfl, hb1⟩
  have B1 := Lib.hid hb1
  clear hb1 SU CU
  have hsz : (hdP r).size ≤ 100 := by unfold hdP; rw [size_ext r _ _ (ptS_le r)]; have := ptS_le r; omega
  obtain ⟨h, eh⟩ : ∃ h, hdP r = h := ⟨_, rfl⟩
  obtain ⟨t, et⟩ : ∃ t, tlP r = t := ⟨_, rfl⟩
  rw [eh, et]
  rw [eh] at hsz
  have FH := Lib.hid (fun w' => fields_any h P19 w' (by decide) (by omega) run19)
  have EH := Lib.hid eh
  have ET := Lib.hid et
  clear eh et
  go_wp2_with fail
  refine (FH.out _).mono ?_
  rintro e w2 ⟨hb2, hf⟩
  have B2 := Lib.hid (below_then B1.out hb2)
  clear hb2 FH
  rcases hf with ⟨lk, v, rfl, hown⟩ | ⟨lk, rfl⟩
  · cases zb with
    | false =>
      have N := Lib.hid (parse_not (s := s) fun g => absurd g.1 (of_decide_eq_false hz.out))
      clear lk hown
      go_wp2_with fail
      go_ret2
      exact ⟨0, 12, rfl, N.out, B2.out⟩
    | true =>
      by_cases ht : pb = true ∧ (t.size = 0 ∨ 6 < t.size)
      · obtain ⟨rfl, ht⟩ := ht
        have N := Lib.hid (parse_not (s := s) fun g => by
          have := g.2.2.1
          rw [ER.out, ET.out] at this
          have := this (of_decide_eq_true hp.out)
          omega)
        rcases ht with ht | ht
        · have em := empty_yes ht
          clear hown lk ht
          go_wp2_with fail
          go_ret2
          exact ⟨0, 12, rfl, N.out, B2.out⟩
        · have em := empty_no (t := t) (by omega)
          have ht' : (6 : Int) < (t.size : Int) := by omega
          clear hown lk ht
          go_wp2_with fail
          go_ret2
          exact ⟨0, 12, rfl, N.out, B2.out⟩
      · have ht6 : t.size ≤ 6 ∧ (pb = true → 1 ≤ t.size) := by
          cases pb with
          | true => exact ⟨Nat.le_of_not_lt fun h => ht ⟨rfl, Or.inr h⟩, fun _ => Nat.pos_of_ne_zero fun h => ht ⟨rfl, Or.inl h⟩⟩
          | false =>
            have e : tlP r = ⟨#[]⟩ := if_neg (of_decide_eq_false hp.out)
            rw [ET.out] at e
            rw [e]
            exact ⟨by decide, fun g => by cases g⟩
        obtain ⟨ht6, ht1⟩ := ht6
        have GT : Hid (allD t.data.toList → progT s) := Lib.hid fun ad => ⟨of_decide_eq_true hz.out, by rw [ER.out, EH.out]; exact lk, by
          rw [ER.out, ET.out]
          intro hlt
          have := ht1 (hp.out.symm.trans (decide_eq_true hlt))
          omega, by rw [ER.out, ET.out]; exact ad⟩
        have T6 := Lib.hid ht6
        have HO := Lib.hid (And.intro lk hown)
        have hcase : pb = false ∨ (pb = true ∧ t.toList.isEmpty = false) := by
          cases pb with
          | true => exact Or.inr ⟨rfl, empty_no (by have := ht1 rfl; omega)⟩
          | false => exact Or.inl rfl
        have i0 : 0 ≤ (t.size : Int) := by omega
        have i6 : (t.size : Int) ≤ 6 := by omega
        have i7 : ¬ (6 : Int) < (t.size : Int) := by omega
        clear ht ht1 ht6 lk hown hz hp
        rcases hcase with rfl | ⟨rfl, em⟩
        all_goals
          go_wp2_with fail
          refine (fields_any (pad6 t) P6 w2 (by decide) (by rw [pad6_size t T6.out]; omega) run6).mono ?_
          rintro e w3 ⟨hb3, hf2⟩
          have B3 := Lib.hid (below_then B2.out hb3)
          have b3 := Lib.hid hb3
          clear hb3
          rcases hf2 with ⟨lk2, v2, rfl, hown2⟩ | ⟨lk2, rfl⟩
          · have g := GT.out ((like6 t T6.out).1 lk2)
            obtain ⟨tp, hh, mv⟩ := prog_text g
            rw [ER.out, EH.out] at hh
            rw [ER.out, ET.out] at mv
            rw [grp6 t T6.out] at hown2
            obtain ⟨lk, hown⟩ := HO.out
            rw [hh] at lk hown
            rw [vals19 lk (by have := tp.1; omega)] at hown
            obtain ⟨g1, cap1, rfl, hg1, hc1⟩ := row_cells hown (by simp)
            obtain ⟨g2, cap2, rfl, hg2, hc2⟩ := row_cells hown2 (by simp)
            have q0 := (b3.out.cell (p := ⟨g1, 0, none⟩) hg1).trans (hc1 0 _ rfl)
            have q1 := (b3.out.cell (p := ⟨g1, 1, none⟩) hg1).trans (hc1 1 _ rfl)
            have q2 := (b3.out.cell (p := ⟨g1, 2, none⟩) hg1).trans (hc1 2 _ rfl)
            have q3 := (b3.out.cell (p := ⟨g1, 3, none⟩) hg1).trans (hc1 3 _ rfl)
            have q4 := (b3.out.cell (p := ⟨g1, 4, none⟩) hg1).trans (hc1 4 _ rfl)
            have q5 := (b3.out.cell (p := ⟨g1, 5, none⟩) hg1).trans (hc1 5 _ rfl)
            have q6 := hc2 0 _ rfl
            rw [← mv] at q6
            have lg1 : g1 < w3.heap.size := Nat.lt_of_lt_of_le hg1 b3.out.size
            have TP := Lib.hid tp
            clear lk2 hown2 hown hc1 hc2 hg1 mv tp g lk hh HO GT b3
            have FU := Lib.hid (fun w' => Mw.from_any (nm s 0 4) (nm s 5 7) (nm s 8 10) (nm s 11 13) (nm s 14 16) (nm s 17 19) (microV s) w')
            have PI : Hid (∀ a c, FromIs (nm s 0 4) (nm s 5 7) (nm s 8 10) (nm s 11 13) (nm s 14 16) (nm s 17 19) (microV s) a c → (c = 0 ∧ ParseIs s a 0) ∨ (c = 2 ∧ ParseIs s 0 12)) := Lib.hid fun a c hf => by
              rcases hf with ⟨f1, f2, f3⟩ | ⟨f1, f2, f3⟩
              · exact Or.inl ⟨f3, Or.inl ⟨⟨TP.out, f1⟩, f2, rfl⟩⟩
              · exact Or.inr ⟨f3, Or.inr ⟨fun k => f1 k.2, rfl, rfl⟩⟩
            clear TP
            generalize nm s 0 4 = a0 at *
            generalize nm s 5 7 = a1 at *
            generalize nm s 8 10 = a2 at *
            generalize nm s 11 13 = a3 at *
            generalize nm s 14 16 = a4 at *
            generalize nm s 17 19 = a5 at *
            generalize microV s = a6 at *
            go_wp2_with fail
            go_region_held3 (fun w' => w'.cell? ⟨g1, 0, none⟩ = some (.int .i64 a0) ∧ w'.cell? ⟨g1, 1, none⟩ = some (.int .i64 a1) ∧ w'.cell? ⟨g1, 2, none⟩ = some (.int .i64 a2) ∧ w'.cell? ⟨g1, 3, none⟩ = some (.int .i64 a3) ∧ w'.cell? ⟨g1, 4, none⟩ = some (.int .i64 a4) ∧ w'.cell? ⟨g1, 5, none⟩ = some (.int .i64 a5) ∧ w'.cell? ⟨g2, 0, none⟩ = some (.int .i64 a6)) (go_keep) (first | (go_at_call 11; refine (FU.out _).mono ?_; rintro e w4 ⟨ti, c, rfl, hfi, hb4⟩; have m0 := (hb4.cell (p := ⟨g1, 0, none⟩) lg1).trans q0; have m1 := (hb4.cell (p := ⟨g1, 1, none⟩) lg1).trans q1; have m2 := (hb4.cell (p := ⟨g1, 2, none⟩) lg1).trans q2; have m3 := (hb4.cell (p := ⟨g1, 3, none⟩) lg1).trans q3; have m4 := (hb4.cell (p := ⟨g1, 4, none⟩) lg1).trans q4; have m5 := (hb4.cell (p := ⟨g1, 5, none⟩) lg1).trans q5; have m6 := (hb4.cell (p := ⟨g2, 0, none⟩) hg2).trans q6))
            have B4 := Lib.hid (below_then B3.out.drew hb4)
            rcases PI.out ti c hfi with ⟨rfl, hpi⟩ | ⟨rfl, hpi⟩
            · go_wp2_with fail
              go_ret2
              exact ⟨ti, 0, rfl, hpi, B4.out⟩
            · go_wp2_with fail
              go_ret2
              exact ⟨0, 12, rfl, hpi, B4.out⟩
          · have N := Lib.hid (parse_not (s := s) fun g => lk2 ((like6 t T6.out).2 (by have := g.2.2.2; rwa [ER.out, ET.out] at this)))
            go_wp2_with fail
            go_ret2
            exact ⟨0, 12, rfl, N.out, B3.out⟩
  · have N := Lib.hid (parse_not (s := s) fun g => lk (by have := g.2.1; rwa [ER.out, EH.out] at this))
    cases zb
    all_goals
      go_wp2_with fail
      go_ret2
      exact ⟨0, 12, rfl, N.out, B2.out⟩
end Ap
end Go.Proofs.YtmgehfakcnmdnaaDoor
