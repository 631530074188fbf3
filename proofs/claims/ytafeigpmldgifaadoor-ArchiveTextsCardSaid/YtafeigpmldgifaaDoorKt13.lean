/-
  Lemmas and walks, texts joined: KRCh3b, KRCh3c, KRCh3d, KRCh4.
-/
import Derived.Test.YtafeigpmldgifaaDoorKt12
set_option linter.unusedSimpArgs false
set_option linter.unusedVariables false
/-
  The walk of change of the reference: the way of a line that begins with join.
-/
namespace Go.Proofs.YtafeigpmldgifaaDoor
namespace Cgw
open Go.RowKit Lw Go.Proofs.YtafeigpmldgifaaDoor.Dp Go.Proofs.YtafeigpmldgifaaDoor.Cgp Go.Proofs.YtafeigpmldgifaaDoor.Arw

set_option maxRecDepth 100000 in
set_option maxHeartbeats 16000000 in
theorem rchange_join (s : ByteArray) (w : World) (hs : s.size ≤ 1000) (t : List UInt8) (h : s.data.toList = joinW ++ 32 :: t) :
    Calls Tryd.prog 19 #[.string s] w (RChPost s w) := by
  have HL := Lib.hid h
  have zt : (strL t).size ≤ 1000 := by
    have e := congrArg List.length h
    have e1 : s.data.toList.length = s.size := rfl
    have e2 : (strL t).size = t.length := rfl
    rw [List.length_append, List.length_cons] at e
    omega
  have B1 := Lib.hid (fun w' => beh_no s ⟨#[97, 100, 100, 32]⟩ (fun t' e => absurd (Option.some.inj (show some (106 : UInt8) = some 97 from congrArg List.head? (h.symm.trans e))) (by decide)) w' (by omega) (by decide))
  have B2 := Lib.hid (fun w' => beh_yes s ⟨#[106, 111, 105, 110, 32]⟩ t h w' (by omega) (by decide))
  have B3 := Lib.hid (fun w' => beh_no s ⟨#[110, 117, 109, 98, 101, 114, 32]⟩ (fun t' e => absurd (Option.some.inj (show some (106 : UInt8) = some 110 from congrArg List.head? (h.symm.trans e))) (by decide)) w' (by omega) (by decide))
  have B4 := Lib.hid (fun w' => beh_no s ⟨#[117, 110, 100, 111, 32]⟩ (fun t' e => absurd (Option.some.inj (show some (106 : UInt8) = some 117 from congrArg List.head? (h.symm.trans e))) (by decide)) w' (by omega) (by decide))
  obtain ⟨S10, hS10⟩ : ∃ S, s ++ (⟨#[10]⟩ : ByteArray) = S := ⟨_, rfl⟩
  have S10L : Hid (S10.data.toList = s.data.toList ++ [10]) := Lib.hid (by rw [← hS10]; simp)
  have cat : ∀ w', (Go.Op.stringOp .add s ⟨#[10]⟩).run Tryd.prog w' = .ok (.string S10) w' := fun w' => by rw [run_string_add_sum (P := Tryd.prog) (w := w') _ _ (by have : (⟨#[10]⟩ : ByteArray).size = 1 := rfl; rw [this]; omega), ← hS10]
  clear hS10
  have Y0 := Lib.hid (CY.two w)
  generalize hw1 : (w.alloc (.cells (cgC zeroC).toArray 52)).alloc (.cells (cgC zeroC).toArray 52) = w1 at *
  have HW := Lib.hid hw1
  clear hw1 h
  obtain ⟨x, hx⟩ : ∃ x, strL t = x := ⟨_, rfl⟩
  have HX : Hid (x.data.toList = t) := Lib.hid (by rw [← hx]; rfl)
  rw [hx] at zt B2
  clear hx
  have c0 := Y0.out.cell 0 _ rfl
  have f0 := Y0.out.bx.free (j := 0) (by decide)
  have Y1 := Lib.hid (Y0.out.one 0 (.int .u8 2) ⟨2, zeroG, zeroG, 0⟩ (by decide) rfl)
  clear Y0
  have PA := Lib.hid (fun (x : ByteArray) w' h => Dw.rparse_any x w' h)
  have HA := Lib.hid (fun (x : ByteArray) w' h => halves_any x w' h)
  have NU := Lib.hid (fun (x : ByteArray) w' h => rnumber_any x w' h)
  go_enter Tryd.func19, Tryd.ntmps19
  go_upto_region 2 with fail
  rw [show (w.alloc (.cells #[.int .u8 0, .int .i64 0, .int .i64 0, .int .u8 0, .int .u8 0, .int .i64 0, .int .i64 0, .int .i64 0, .int .u8 0, .int .u8 0, .int .i64 0, .int .i64 0] 52)).alloc (.cells #[.int .u8 0, .int .i64 0, .int .i64 0, .int .u8 0, .int .u8 0, .int .i64 0, .int .i64 0, .int .i64 0, .int .u8 0, .int .u8 0, .int .i64 0, .int .i64 0] 52) = w1 from HW.out]
  go_wp2_with fail
  refine (B1.out _).mono ?_
  rintro e w' ⟨rfl, rfl⟩
  clear B1
  go_wp2_with fail
  refine (B2.out _).mono ?_
  rintro e w' ⟨rfl, rfl⟩
  clear B2
  go_wp2_with fail
  generalize (w1.setCell ⟨w.heap.size + 1, 0, none⟩ (.int .u8 2)) = wk at *
  clear c0 f0
  refine (HA.out x _ (by omega)).mono ?_
  rintro e wp ⟨a, b, rfl, hh, da, db, hbp⟩
  have Y4 := Lib.hid (Y1.out.call hbp)
  have ba := Lib.hid da
  have bb := Lib.hid db
  have RC := Lib.hid (cand_2 HL.out (by rw [← HX.out]; exact hh))
  clear Y1 hbp hh PA HA NU da db
  have ta := Lib.hid (there_sub Y4.out.bx.th 1 5 (by show 1 + 5 ≤ 12; decide))
  have Y5 := Lib.hid (Y4.out.many 1 (dC a) ⟨2, a, zeroG, 0⟩ (by show 1 + 5 ≤ 12; decide) rfl)
  clear Y4
  obtain ⟨wa, hwa⟩ : ∃ wa, wp.setCells (w.heap.size + 1) 1 (dC a) = wa := ⟨_, rfl⟩
  rw [hwa] at Y5
  have HWA := Lib.hid hwa
  clear hwa
  have tb := Lib.hid (there_sub Y5.out.bx.th 6 5 (by show 6 + 5 ≤ 12; decide))
  have Y6 := Lib.hid (Y5.out.many 6 (dC b) ⟨2, a, b, 0⟩ (by show 6 + 5 ≤ 12; decide) rfl)
  obtain ⟨wb, hwb⟩ : ∃ wb, wa.setCells (w.heap.size + 1) 6 (dC b) = wb := ⟨_, rfl⟩
  rw [hwb] at Y6
  have HWB := Lib.hid hwb
  clear hwb Y5
  have Y5 := Y6
  clear Y6
  go_wp2_with (first | (refine wpList_store_mid rfl _ (.tmp 38) (.tmp 36) rfl (w.heap.size + 1) 1 (dC a).toArray rfl rfl ta.out infoDg (dgone a) ?_; rw [List.toList_toArray, HWA.out]) | (refine wpList_store_mid rfl _ (.tmp 39) (.tmp 37) rfl (w.heap.size + 1) 6 (dC b).toArray rfl rfl tb.out infoDg (dgone b) ?_; rw [List.toList_toArray, HWB.out]))
  clear ta tb HWA HWB
  have Y := Y5
  clear Y5
  obtain ⟨c, hc⟩ : ∃ c, (⟨2, a, b, 0⟩ : Cg) = c := ⟨_, rfl⟩
  have CBX : Hid (CB c) := Lib.hid (by
    rw [← hc]
    exact ⟨(show (0 : Int) ≤ 2 by decide), (show (2 : Int) < 256 by decide), ba.out.1, ba.out.2, bb.out.1, bb.out.2, (show (-9223372036854775808 : Int) ≤ 0 by decide), (show (0 : Int) ≤ 9223372036854775807 by decide)⟩)
  rw [hc] at Y RC
  clear hc
  refine (B3.out _).mono ?_
  rintro e w' ⟨rfl, rfl⟩
  clear B3
  go_wp2_with fail
  refine (B4.out _).mono ?_
  rintro e w' ⟨rfl, rfl⟩
  clear B4
  go_upto_region 18 with fail
  have CK := Lib.hid (fun w' => rmcheck_any c w' CBX.out)
  by_cases ok : okC c
  · replace CK := Lib.hid (fun w' => (CK.out w').mono (fun e w'' (h : ChkPost c w' e w'') => show e = .returned (.int .i64 0) ∧ Below w'.heap.size w' w'' from by
      obtain ⟨⟨r, h1, h2⟩, hb⟩ := h
      rcases h2 with ⟨_, h2⟩ | ⟨h2, _⟩
      · exact ⟨by rw [h1, h2], hb⟩
      · exact absurd ok h2))
    have LI := Lib.hid (fun w' => rline_any c w' CBX.out ok)
    by_cases eq : lineC c = s.data.toList
    · have EQ : Hid (∀ t : ByteArray, t.data.toList = lineC c ++ [10] → (t.toList == S10.toList) = true) := Lib.hid (fun t ht => by rw [Lib.toList_data, Lib.toList_data, S10L.out, ht, eq]; exact beq_self_eq_true _)
      have RD : Hid (RdIs s.data.toList c 0) := Lib.hid (RCand.yes ok eq)
      clear ok eq RC S10L
      refine wp_region_held_drew (S := fun wx => ∃ r, CZ w (w.heap.size + 1) r c wx) (by kernel_rfl) ⟨_, (CZ.of Y.out).call (Below.refl _ _).drew⟩ (fun hHeld => ?_)
      clear Y
      refine wpAnyH_take (i := 0) (oi := ?oi0y) (v := ?v0y) ?hi0y (by kernel_rfl) (by kernel_rfl) (by kernel_rfl) ?hq0y ?hy0y hHeld ?rest0y
      case hi0y => ((try simp only [List.getElem?_toArray, List.getElem?_cons_succ, List.getElem?_cons_zero]); (try rfl))
      case hq0y => exact fun _ _ _ h => h
      case hy0y => exact Or.inl ⟨by rfl, by intro w hSw; obtain ⟨_, hc⟩ := hSw; have c0 := hc.cell 0 (.int .u8 c.k) rfl; have c1 := hc.cell 1 (.int .i64 c.a.n) rfl; have c2 := hc.cell 2 (.int .i64 c.a.y) rfl; have c3 := hc.cell 3 (.int .u8 c.a.h) rfl; have c4 := hc.cell 4 (.int .u8 c.a.s) rfl; have c5 := hc.cell 5 (.int .i64 c.a.c) rfl; have c6 := hc.cell 6 (.int .i64 c.b.n) rfl; have c7 := hc.cell 7 (.int .i64 c.b.y) rfl; have c8 := hc.cell 8 (.int .u8 c.b.h) rfl; have c9 := hc.cell 9 (.int .u8 c.b.s) rfl; have c10 := hc.cell 10 (.int .i64 c.b.c) rfl; have c11 := hc.cell 11 (.int .i64 c.n) rfl; clear hc; go_simp; try with_reducible rfl⟩
      try simp only [Act.put, List.setIfInBounds_toArray, List.set_cons_zero, List.set_cons_succ]
      refine wpAnyH_take (i := 1) (oi := ?oi1y) (v := ?v1y) ?hi1y (by kernel_rfl) (by kernel_rfl) (by kernel_rfl) ?hq1y ?hy1y hHeld ?rest1y
      case hi1y => ((try simp only [List.getElem?_toArray, List.getElem?_cons_succ, List.getElem?_cons_zero]); (try rfl))
      case hq1y => exact fun _ _ _ h => h
      case hy1y => exact Or.inl ⟨by rfl, by intro w hSw; obtain ⟨_, hc⟩ := hSw; have c0 := hc.cell 0 (.int .u8 c.k) rfl; have c1 := hc.cell 1 (.int .i64 c.a.n) rfl; have c2 := hc.cell 2 (.int .i64 c.a.y) rfl; have c3 := hc.cell 3 (.int .u8 c.a.h) rfl; have c4 := hc.cell 4 (.int .u8 c.a.s) rfl; have c5 := hc.cell 5 (.int .i64 c.a.c) rfl; have c6 := hc.cell 6 (.int .i64 c.b.n) rfl; have c7 := hc.cell 7 (.int .i64 c.b.y) rfl; have c8 := hc.cell 8 (.int .u8 c.b.h) rfl; have c9 := hc.cell 9 (.int .u8 c.b.s) rfl; have c10 := hc.cell 10 (.int .i64 c.b.c) rfl; have c11 := hc.cell 11 (.int .i64 c.n) rfl; clear hc; go_simp; try with_reducible rfl⟩
      try simp only [Act.put, List.setIfInBounds_toArray, List.set_cons_zero, List.set_cons_succ]
      refine wpAnyH_ready (rs := [2]) (by kernel_rfl) (by simp) ?_
      refine AllReadyH.cons rfl (fun K' hK => ?_) AllReadyH.nil
      have H1 := Lib.hid hHeld
      clear hHeld
      go_simp
      refine (CK.out _).mono ?_
      rintro e wx ⟨rfl, hb⟩
      replace H1 : Hid (∃ r, CZ w (w.heap.size + 1) r c wx) := Lib.hid (H1.out.elim fun r h => ⟨r, h.call hb⟩)
      refine hK.out _ _ H1.out (fun hHeld => ?_)
      clear hK H1 hb
      try simp only [Act.put, List.setIfInBounds_toArray, List.set_cons_zero, List.set_cons_succ]
      refine wpAnyH_take (i := 3) (oi := ?oi3y) (v := ?v3y) ?hi3y (by kernel_rfl) (by kernel_rfl) (by kernel_rfl) ?hq3y ?hy3y hHeld ?rest3y
      case hi3y => ((try simp only [List.getElem?_toArray, List.getElem?_cons_succ, List.getElem?_cons_zero]); (try rfl))
      case hq3y => exact fun _ _ _ h => h
      case hy3y => exact Or.inl ⟨by rfl, by intro w hSw; clear hSw; go_simp; try with_reducible rfl⟩
      try simp only [Act.put, List.setIfInBounds_toArray, List.set_cons_zero, List.set_cons_succ]
      refine wpAnyH_take (i := 4) (oi := ?oi4y) (v := ?v4y) ?hi4y (by kernel_rfl) (by kernel_rfl) (by kernel_rfl) ?hq4y ?hy4y hHeld ?rest4y
      case hi4y => ((try simp only [List.getElem?_toArray, List.getElem?_cons_succ, List.getElem?_cons_zero]); (try rfl))
      case hq4y => exact fun _ _ _ h => h
      case hy4y => exact Or.inl ⟨by rfl, by intro w hSw; clear hSw; go_simp; try with_reducible rfl⟩
      try simp only [Act.put, List.setIfInBounds_toArray, List.set_cons_zero, List.set_cons_succ]
      refine wpAnyH_take (i := 5) (oi := ?oi5y) (v := ?v5y) ?hi5y (by kernel_rfl) (by kernel_rfl) (by kernel_rfl) ?hq5y ?hy5y hHeld ?rest5y
      case hi5y => ((try simp only [List.getElem?_toArray, List.getElem?_cons_succ, List.getElem?_cons_zero]); (try rfl))
      case hq5y => exact fun _ _ _ h => h
      case hy5y => exact Or.inl ⟨by rfl, by intro w hSw; obtain ⟨_, hc⟩ := hSw; have c0 := hc.cell 0 (.int .u8 c.k) rfl; have c1 := hc.cell 1 (.int .i64 c.a.n) rfl; have c2 := hc.cell 2 (.int .i64 c.a.y) rfl; have c3 := hc.cell 3 (.int .u8 c.a.h) rfl; have c4 := hc.cell 4 (.int .u8 c.a.s) rfl; have c5 := hc.cell 5 (.int .i64 c.a.c) rfl; have c6 := hc.cell 6 (.int .i64 c.b.n) rfl; have c7 := hc.cell 7 (.int .i64 c.b.y) rfl; have c8 := hc.cell 8 (.int .u8 c.b.h) rfl; have c9 := hc.cell 9 (.int .u8 c.b.s) rfl; have c10 := hc.cell 10 (.int .i64 c.b.c) rfl; have c11 := hc.cell 11 (.int .i64 c.n) rfl; clear hc; go_simp; try with_reducible rfl⟩
      try simp only [Act.put, List.setIfInBounds_toArray, List.set_cons_zero, List.set_cons_succ]
      refine wpAnyH_take (i := 7) (oi := ?oi7y) (v := ?v7y) ?hi7y (by kernel_rfl) (by kernel_rfl) (by kernel_rfl) ?hq7y ?hy7y hHeld ?rest7y
      case hi7y => ((try simp only [List.getElem?_toArray, List.getElem?_cons_succ, List.getElem?_cons_zero]); (try rfl))
      case hq7y => exact fun _ _ _ h => h
      case hy7y => exact Or.inl ⟨by rfl, by intro w hSw; clear hSw; go_simp; try with_reducible rfl⟩
      try simp only [Act.put, List.setIfInBounds_toArray, List.set_cons_zero, List.set_cons_succ]
      refine wpAnyH_take (i := 8) (oi := ?oi8y) (v := ?v8y) ?hi8y (by kernel_rfl) (by kernel_rfl) (by kernel_rfl) ?hq8y ?hy8y hHeld ?rest8y
      case hi8y => ((try simp only [List.getElem?_toArray, List.getElem?_cons_succ, List.getElem?_cons_zero]); (try rfl))
      case hq8y => exact fun _ _ _ h => h
      case hy8y => exact Or.inl ⟨by rfl, by intro w hSw; clear hSw; go_simp; try with_reducible rfl⟩
      try simp only [Act.put, List.setIfInBounds_toArray, List.set_cons_zero, List.set_cons_succ]
      refine wpAnyH_ready (rs := [6]) (by kernel_rfl) (by simp) ?_
      refine AllReadyH.cons rfl (fun K' hK => ?_) AllReadyH.nil
      have H1 := Lib.hid hHeld
      clear hHeld
      go_simp
      refine (LI.out _).mono ?_
      rintro e wx ⟨t, rfl, ht, zt, hb⟩
      replace H1 : Hid (∃ r, CZ w (w.heap.size + 1) r c wx) := Lib.hid (H1.out.elim fun r h => ⟨r, h.call hb⟩)
      have f1 := EQ.out t ht
      clear ht zt
      refine hK.out _ _ H1.out (fun hHeld => ?_)
      clear hK H1 hb
      try simp only [Act.put, List.setIfInBounds_toArray, List.set_cons_zero, List.set_cons_succ]
      refine wpAnyH_take (i := 9) (oi := ?oi9y) (v := ?v9y) ?hi9y (by kernel_rfl) (by kernel_rfl) (by kernel_rfl) ?hq9y ?hy9y hHeld ?rest9y
      case hi9y => ((try simp only [List.getElem?_toArray, List.getElem?_cons_succ, List.getElem?_cons_zero]); (try rfl))
      case hq9y => exact fun _ _ _ h => h
      case hy9y => exact Or.inl ⟨by rfl, by intro w hSw; clear hSw; go_simp; try with_reducible rfl⟩
      try simp only [Act.put, List.setIfInBounds_toArray, List.set_cons_zero, List.set_cons_succ]
      refine wpAnyH_take (i := 10) (oi := ?oi10y) (v := ?v10y) ?hi10y (by kernel_rfl) (by kernel_rfl) (by kernel_rfl) ?hq10y ?hy10y hHeld ?rest10y
      case hi10y => ((try simp only [List.getElem?_toArray, List.getElem?_cons_succ, List.getElem?_cons_zero]); (try rfl))
      case hq10y => exact fun _ _ _ h => h
      case hy10y => exact Or.inl ⟨by rfl, by intro w hSw; clear hSw; go_simp; try with_reducible rfl⟩
      try simp only [Act.put, List.setIfInBounds_toArray, List.set_cons_zero, List.set_cons_succ]
      refine wpAnyH_ready (rs := [11]) (by kernel_rfl) (by simp) ?_
      refine AllReadyH.cons rfl (fun K' hK => ?_) AllReadyH.nil
      rw [if_pos (by rfl)]
      obtain ⟨r, hr⟩ := hHeld
      have TH := hr.res.th
      have HZ := Lib.hid (hr.sets)
      clear hr
      refine wp_store_mid _ _ _ rfl w.heap.size 0 (cgC c).toArray rfl rfl TH infoCg (cgone c) ?_
      rw [List.toList_toArray]
      refine hK.out _ _ ⟨c, HZ.out⟩ (fun hHeld => ?_)
      clear hK TH
      generalize World.setCells _ w.heap.size 0 (cgC c) = w6 at *
      try simp only [Act.put, List.setIfInBounds_toArray, List.set_cons_zero, List.set_cons_succ]
      refine wpAnyH_take (i := 12) (oi := ?oi12y) (v := ?v12y) ?hi12y (by kernel_rfl) (by kernel_rfl) (by kernel_rfl) ?hq12y ?hy12y hHeld ?rest12y
      case hi12y => ((try simp only [List.getElem?_toArray, List.getElem?_cons_succ, List.getElem?_cons_zero]); (try rfl))
      case hq12y => exact fun _ _ _ h => h
      case hy12y => exact Or.inl ⟨by rfl, by intro w hSw; clear hSw; go_simp; try with_reducible rfl⟩
      try simp only [Act.put, List.setIfInBounds_toArray, List.set_cons_zero, List.set_cons_succ]
      refine wpAnyH_done (by kernel_rfl) ?_ _
      clear hHeld
      go_wp2_with fail
      exact bodyPost_ret (ret_cell_tmp Tryd.results19 _ _ w.heap.size (cgC c) _ rfl HZ.out.res.row Tryd.underlying52 rfl infoCg) rfl ⟨c, true, rfl, fun _ => RD.out, (fun h => by cases h), CBX.out, HZ.out.below⟩
    · have EQ : Hid (∀ t : ByteArray, t.data.toList = lineC c ++ [10] → (t.toList == S10.toList) = false) := Lib.hid (fun t ht => beq_eq_false_iff_ne.2 (by rw [Lib.toList_data, Lib.toList_data, S10L.out, ht]; exact fun e => eq (List.append_cancel_right e)))
      have RD : Hid (RdIs s.data.toList zeroC 12) := Lib.hid (RC.out.no (fun h => eq h.2))
      clear ok eq RC S10L
      refine wp_region_held_drew (S := fun wx => ∃ r, CZ w (w.heap.size + 1) r c wx) (by kernel_rfl) ⟨_, (CZ.of Y.out).call (Below.refl _ _).drew⟩ (fun hHeld => ?_)
      clear Y
      refine wpAnyH_take (i := 0) (oi := ?oi0o) (v := ?v0o) ?hi0o (by kernel_rfl) (by kernel_rfl) (by kernel_rfl) ?hq0o ?hy0o hHeld ?rest0o
      case hi0o => ((try simp only [List.getElem?_toArray, List.getElem?_cons_succ, List.getElem?_cons_zero]); (try rfl))
      case hq0o => exact fun _ _ _ h => h
      case hy0o => exact Or.inl ⟨by rfl, by intro w hSw; obtain ⟨_, hc⟩ := hSw; have c0 := hc.cell 0 (.int .u8 c.k) rfl; have c1 := hc.cell 1 (.int .i64 c.a.n) rfl; have c2 := hc.cell 2 (.int .i64 c.a.y) rfl; have c3 := hc.cell 3 (.int .u8 c.a.h) rfl; have c4 := hc.cell 4 (.int .u8 c.a.s) rfl; have c5 := hc.cell 5 (.int .i64 c.a.c) rfl; have c6 := hc.cell 6 (.int .i64 c.b.n) rfl; have c7 := hc.cell 7 (.int .i64 c.b.y) rfl; have c8 := hc.cell 8 (.int .u8 c.b.h) rfl; have c9 := hc.cell 9 (.int .u8 c.b.s) rfl; have c10 := hc.cell 10 (.int .i64 c.b.c) rfl; have c11 := hc.cell 11 (.int .i64 c.n) rfl; clear hc; go_simp; try with_reducible rfl⟩
      try simp only [Act.put, List.setIfInBounds_toArray, List.set_cons_zero, List.set_cons_succ]
      refine wpAnyH_take (i := 1) (oi := ?oi1o) (v := ?v1o) ?hi1o (by kernel_rfl) (by kernel_rfl) (by kernel_rfl) ?hq1o ?hy1o hHeld ?rest1o
      case hi1o => ((try simp only [List.getElem?_toArray, List.getElem?_cons_succ, List.getElem?_cons_zero]); (try rfl))
      case hq1o => exact fun _ _ _ h => h
      case hy1o => exact Or.inl ⟨by rfl, by intro w hSw; obtain ⟨_, hc⟩ := hSw; have c0 := hc.cell 0 (.int .u8 c.k) rfl; have c1 := hc.cell 1 (.int .i64 c.a.n) rfl; have c2 := hc.cell 2 (.int .i64 c.a.y) rfl; have c3 := hc.cell 3 (.int .u8 c.a.h) rfl; have c4 := hc.cell 4 (.int .u8 c.a.s) rfl; have c5 := hc.cell 5 (.int .i64 c.a.c) rfl; have c6 := hc.cell 6 (.int .i64 c.b.n) rfl; have c7 := hc.cell 7 (.int .i64 c.b.y) rfl; have c8 := hc.cell 8 (.int .u8 c.b.h) rfl; have c9 := hc.cell 9 (.int .u8 c.b.s) rfl; have c10 := hc.cell 10 (.int .i64 c.b.c) rfl; have c11 := hc.cell 11 (.int .i64 c.n) rfl; clear hc; go_simp; try with_reducible rfl⟩
      try simp only [Act.put, List.setIfInBounds_toArray, List.set_cons_zero, List.set_cons_succ]
      refine wpAnyH_ready (rs := [2]) (by kernel_rfl) (by simp) ?_
      refine AllReadyH.cons rfl (fun K' hK => ?_) AllReadyH.nil
      have H1 := Lib.hid hHeld
      clear hHeld
      go_simp
      refine (CK.out _).mono ?_
      rintro e wx ⟨rfl, hb⟩
      replace H1 : Hid (∃ r, CZ w (w.heap.size + 1) r c wx) := Lib.hid (H1.out.elim fun r h => ⟨r, h.call hb⟩)
      refine hK.out _ _ H1.out (fun hHeld => ?_)
      clear hK H1 hb
      try simp only [Act.put, List.setIfInBounds_toArray, List.set_cons_zero, List.set_cons_succ]
      refine wpAnyH_take (i := 3) (oi := ?oi3o) (v := ?v3o) ?hi3o (by kernel_rfl) (by kernel_rfl) (by kernel_rfl) ?hq3o ?hy3o hHeld ?rest3o
      case hi3o => ((try simp only [List.getElem?_toArray, List.getElem?_cons_succ, List.getElem?_cons_zero]); (try rfl))
      case hq3o => exact fun _ _ _ h => h
      case hy3o => exact Or.inl ⟨by rfl, by intro w hSw; clear hSw; go_simp; try with_reducible rfl⟩
      try simp only [Act.put, List.setIfInBounds_toArray, List.set_cons_zero, List.set_cons_succ]
      refine wpAnyH_take (i := 4) (oi := ?oi4o) (v := ?v4o) ?hi4o (by kernel_rfl) (by kernel_rfl) (by kernel_rfl) ?hq4o ?hy4o hHeld ?rest4o
      case hi4o => ((try simp only [List.getElem?_toArray, List.getElem?_cons_succ, List.getElem?_cons_zero]); (try rfl))
      case hq4o => exact fun _ _ _ h => h
      case hy4o => exact Or.inl ⟨by rfl, by intro w hSw; clear hSw; go_simp; try with_reducible rfl⟩
      try simp only [Act.put, List.setIfInBounds_toArray, List.set_cons_zero, List.set_cons_succ]
      refine wpAnyH_take (i := 5) (oi := ?oi5o) (v := ?v5o) ?hi5o (by kernel_rfl) (by kernel_rfl) (by kernel_rfl) ?hq5o ?hy5o hHeld ?rest5o
      case hi5o => ((try simp only [List.getElem?_toArray, List.getElem?_cons_succ, List.getElem?_cons_zero]); (try rfl))
      case hq5o => exact fun _ _ _ h => h
      case hy5o => exact Or.inl ⟨by rfl, by intro w hSw; obtain ⟨_, hc⟩ := hSw; have c0 := hc.cell 0 (.int .u8 c.k) rfl; have c1 := hc.cell 1 (.int .i64 c.a.n) rfl; have c2 := hc.cell 2 (.int .i64 c.a.y) rfl; have c3 := hc.cell 3 (.int .u8 c.a.h) rfl; have c4 := hc.cell 4 (.int .u8 c.a.s) rfl; have c5 := hc.cell 5 (.int .i64 c.a.c) rfl; have c6 := hc.cell 6 (.int .i64 c.b.n) rfl; have c7 := hc.cell 7 (.int .i64 c.b.y) rfl; have c8 := hc.cell 8 (.int .u8 c.b.h) rfl; have c9 := hc.cell 9 (.int .u8 c.b.s) rfl; have c10 := hc.cell 10 (.int .i64 c.b.c) rfl; have c11 := hc.cell 11 (.int .i64 c.n) rfl; clear hc; go_simp; try with_reducible rfl⟩
      try simp only [Act.put, List.setIfInBounds_toArray, List.set_cons_zero, List.set_cons_succ]
      refine wpAnyH_take (i := 7) (oi := ?oi7o) (v := ?v7o) ?hi7o (by kernel_rfl) (by kernel_rfl) (by kernel_rfl) ?hq7o ?hy7o hHeld ?rest7o
      case hi7o => ((try simp only [List.getElem?_toArray, List.getElem?_cons_succ, List.getElem?_cons_zero]); (try rfl))
      case hq7o => exact fun _ _ _ h => h
      case hy7o => exact Or.inl ⟨by rfl, by intro w hSw; clear hSw; go_simp; try with_reducible rfl⟩
      try simp only [Act.put, List.setIfInBounds_toArray, List.set_cons_zero, List.set_cons_succ]
      refine wpAnyH_take (i := 8) (oi := ?oi8o) (v := ?v8o) ?hi8o (by kernel_rfl) (by kernel_rfl) (by kernel_rfl) ?hq8o ?hy8o hHeld ?rest8o
      case hi8o => ((try simp only [List.getElem?_toArray, List.getElem?_cons_succ, List.getElem?_cons_zero]); (try rfl))
      case hq8o => exact fun _ _ _ h => h
      case hy8o => exact Or.inl ⟨by rfl, by intro w hSw; clear hSw; go_simp; try with_reducible rfl⟩
      try simp only [Act.put, List.setIfInBounds_toArray, List.set_cons_zero, List.set_cons_succ]
      refine wpAnyH_ready (rs := [6]) (by kernel_rfl) (by simp) ?_
      refine AllReadyH.cons rfl (fun K' hK => ?_) AllReadyH.nil
      have H1 := Lib.hid hHeld
      clear hHeld
      go_simp
      refine (LI.out _).mono ?_
      rintro e wx ⟨t, rfl, ht, zt, hb⟩
      replace H1 : Hid (∃ r, CZ w (w.heap.size + 1) r c wx) := Lib.hid (H1.out.elim fun r h => ⟨r, h.call hb⟩)
      have f1 := EQ.out t ht
      clear ht zt
      refine hK.out _ _ H1.out (fun hHeld => ?_)
      clear hK H1 hb
      try simp only [Act.put, List.setIfInBounds_toArray, List.set_cons_zero, List.set_cons_succ]
      refine wpAnyH_take (i := 9) (oi := ?oi9o) (v := ?v9o) ?hi9o (by kernel_rfl) (by kernel_rfl) (by kernel_rfl) ?hq9o ?hy9o hHeld ?rest9o
      case hi9o => ((try simp only [List.getElem?_toArray, List.getElem?_cons_succ, List.getElem?_cons_zero]); (try rfl))
      case hq9o => exact fun _ _ _ h => h
      case hy9o => exact Or.inl ⟨by rfl, by intro w hSw; clear hSw; go_simp; try with_reducible rfl⟩
      try simp only [Act.put, List.setIfInBounds_toArray, List.set_cons_zero, List.set_cons_succ]
      refine wpAnyH_take (i := 10) (oi := ?oi10o) (v := ?v10o) ?hi10o (by kernel_rfl) (by kernel_rfl) (by kernel_rfl) ?hq10o ?hy10o hHeld ?rest10o
      case hi10o => ((try simp only [List.getElem?_toArray, List.getElem?_cons_succ, List.getElem?_cons_zero]); (try rfl))
      case hq10o => exact fun _ _ _ h => h
      case hy10o => exact Or.inl ⟨by rfl, by intro w hSw; clear hSw; go_simp; try with_reducible rfl⟩
      try simp only [Act.put, List.setIfInBounds_toArray, List.set_cons_zero, List.set_cons_succ]
      refine wpAnyH_ready (rs := [11]) (by kernel_rfl) (by simp) ?_
      refine AllReadyH.cons rfl (fun K' hK => ?_) AllReadyH.nil
      rw [if_pos (by rfl)]
      obtain ⟨r, hr⟩ := hHeld
      have TH := hr.res.th
      have HZ := Lib.hid (hr.sets)
      clear hr
      refine wp_store_mid _ _ _ rfl w.heap.size 0 (cgC c).toArray rfl rfl TH infoCg (cgone c) ?_
      rw [List.toList_toArray]
      refine hK.out _ _ ⟨c, HZ.out⟩ (fun hHeld => ?_)
      clear hK TH
      generalize World.setCells _ w.heap.size 0 (cgC c) = w6 at *
      try simp only [Act.put, List.setIfInBounds_toArray, List.set_cons_zero, List.set_cons_succ]
      refine wpAnyH_take (i := 12) (oi := ?oi12o) (v := ?v12o) ?hi12o (by kernel_rfl) (by kernel_rfl) (by kernel_rfl) ?hq12o ?hy12o hHeld ?rest12o
      case hi12o => ((try simp only [List.getElem?_toArray, List.getElem?_cons_succ, List.getElem?_cons_zero]); (try rfl))
      case hq12o => exact fun _ _ _ h => h
      case hy12o => exact Or.inl ⟨by rfl, by intro w hSw; clear hSw; go_simp; try with_reducible rfl⟩
      try simp only [Act.put, List.setIfInBounds_toArray, List.set_cons_zero, List.set_cons_succ]
      refine wpAnyH_done (by kernel_rfl) ?_ _
      clear hHeld
      go_wp2_with fail
      exact bodyPost_ret (ret_cell_tmp Tryd.results19 _ _ w.heap.size (cgC c) _ rfl HZ.out.res.row Tryd.underlying52 rfl infoCg) rfl ⟨c, false, rfl, (fun h => by cases h), fun _ => RD.out, CBX.out, HZ.out.below⟩
  · replace CK := Lib.hid (fun w' => (CK.out w').mono (fun e w'' (h : ChkPost c w' e w'') => show e = .returned (.int .i64 8) ∧ Below w'.heap.size w' w'' from by
      obtain ⟨⟨r, h1, h2⟩, hb⟩ := h
      rcases h2 with ⟨h2, _⟩ | ⟨_, h2⟩
      · exact absurd h2 ok
      · exact ⟨by rw [h1, h2], hb⟩))
    have RD : Hid (RdIs s.data.toList zeroC 12) := Lib.hid (RC.out.no (fun h => ok h.1))
    clear ok RC S10L cat
    refine wp_region_held_drew (S := fun wx => ∃ r, CZ w (w.heap.size + 1) r c wx) (by kernel_rfl) ⟨_, (CZ.of Y.out).call (Below.refl _ _).drew⟩ (fun hHeld => ?_)
    clear Y
    refine wpAnyH_take (i := 0) (oi := ?oi0n) (v := ?v0n) ?hi0n (by kernel_rfl) (by kernel_rfl) (by kernel_rfl) ?hq0n ?hy0n hHeld ?rest0n
    case hi0n => ((try simp only [List.getElem?_toArray, List.getElem?_cons_succ, List.getElem?_cons_zero]); (try rfl))
    case hq0n => exact fun _ _ _ h => h
    case hy0n => exact Or.inl ⟨by rfl, by intro w hSw; obtain ⟨_, hc⟩ := hSw; have c0 := hc.cell 0 (.int .u8 c.k) rfl; have c1 := hc.cell 1 (.int .i64 c.a.n) rfl; have c2 := hc.cell 2 (.int .i64 c.a.y) rfl; have c3 := hc.cell 3 (.int .u8 c.a.h) rfl; have c4 := hc.cell 4 (.int .u8 c.a.s) rfl; have c5 := hc.cell 5 (.int .i64 c.a.c) rfl; have c6 := hc.cell 6 (.int .i64 c.b.n) rfl; have c7 := hc.cell 7 (.int .i64 c.b.y) rfl; have c8 := hc.cell 8 (.int .u8 c.b.h) rfl; have c9 := hc.cell 9 (.int .u8 c.b.s) rfl; have c10 := hc.cell 10 (.int .i64 c.b.c) rfl; have c11 := hc.cell 11 (.int .i64 c.n) rfl; clear hc; go_simp; try with_reducible rfl⟩
    try simp only [Act.put, List.setIfInBounds_toArray, List.set_cons_zero, List.set_cons_succ]
    refine wpAnyH_take (i := 1) (oi := ?oi1n) (v := ?v1n) ?hi1n (by kernel_rfl) (by kernel_rfl) (by kernel_rfl) ?hq1n ?hy1n hHeld ?rest1n
    case hi1n => ((try simp only [List.getElem?_toArray, List.getElem?_cons_succ, List.getElem?_cons_zero]); (try rfl))
    case hq1n => exact fun _ _ _ h => h
    case hy1n => exact Or.inl ⟨by rfl, by intro w hSw; obtain ⟨_, hc⟩ := hSw; have c0 := hc.cell 0 (.int .u8 c.k) rfl; have c1 := hc.cell 1 (.int .i64 c.a.n) rfl; have c2 := hc.cell 2 (.int .i64 c.a.y) rfl; have c3 := hc.cell 3 (.int .u8 c.a.h) rfl; have c4 := hc.cell 4 (.int .u8 c.a.s) rfl; have c5 := hc.cell 5 (.int .i64 c.a.c) rfl; have c6 := hc.cell 6 (.int .i64 c.b.n) rfl; have c7 := hc.cell 7 (.int .i64 c.b.y) rfl; have c8 := hc.cell 8 (.int .u8 c.b.h) rfl; have c9 := hc.cell 9 (.int .u8 c.b.s) rfl; have c10 := hc.cell 10 (.int .i64 c.b.c) rfl; have c11 := hc.cell 11 (.int .i64 c.n) rfl; clear hc; go_simp; try with_reducible rfl⟩
    try simp only [Act.put, List.setIfInBounds_toArray, List.set_cons_zero, List.set_cons_succ]
    refine wpAnyH_ready (rs := [2]) (by kernel_rfl) (by simp) ?_
    refine AllReadyH.cons rfl (fun K' hK => ?_) AllReadyH.nil
    have H1 := Lib.hid hHeld
    clear hHeld
    go_simp
    refine (CK.out _).mono ?_
    rintro e wx ⟨rfl, hb⟩
    replace H1 : Hid (∃ r, CZ w (w.heap.size + 1) r c wx) := Lib.hid (H1.out.elim fun r h => ⟨r, h.call hb⟩)
    refine hK.out _ _ H1.out (fun hHeld => ?_)
    clear hK H1 hb
    try simp only [Act.put, List.setIfInBounds_toArray, List.set_cons_zero, List.set_cons_succ]
    refine wpAnyH_take (i := 3) (oi := ?oi3n) (v := ?v3n) ?hi3n (by kernel_rfl) (by kernel_rfl) (by kernel_rfl) ?hq3n ?hy3n hHeld ?rest3n
    case hi3n => ((try simp only [List.getElem?_toArray, List.getElem?_cons_succ, List.getElem?_cons_zero]); (try rfl))
    case hq3n => exact fun _ _ _ h => h
    case hy3n => exact Or.inl ⟨by rfl, by intro w hSw; clear hSw; go_simp; try with_reducible rfl⟩
    try simp only [Act.put, List.setIfInBounds_toArray, List.set_cons_zero, List.set_cons_succ]
    refine wpAnyH_take (i := 4) (oi := ?oi4n) (v := ?v4n) ?hi4n (by kernel_rfl) (by kernel_rfl) (by kernel_rfl) ?hq4n ?hy4n hHeld ?rest4n
    case hi4n => ((try simp only [List.getElem?_toArray, List.getElem?_cons_succ, List.getElem?_cons_zero]); (try rfl))
    case hq4n => exact fun _ _ _ h => h
    case hy4n => exact Or.inl ⟨by rfl, by intro w hSw; clear hSw; go_simp; try with_reducible rfl⟩
    try simp only [Act.put, List.setIfInBounds_toArray, List.set_cons_zero, List.set_cons_succ]
    refine wpAnyH_take (i := 5) (oi := ?oi5n) (v := undef) ?hi5n (by kernel_rfl) (by kernel_rfl) (by kernel_rfl) ?hq5n ?hy5n hHeld ?rest5n
    case hi5n => ((try simp only [List.getElem?_toArray, List.getElem?_cons_succ, List.getElem?_cons_zero]); (try rfl))
    case hq5n => exact fun _ _ _ h => h
    case hy5n => exact Or.inr ⟨by rfl, rfl⟩
    try simp only [Act.put, List.setIfInBounds_toArray, List.set_cons_zero, List.set_cons_succ]
    refine wpAnyH_take (i := 6) (oi := ?oi6n) (v := undef) ?hi6n (by kernel_rfl) (by kernel_rfl) (by kernel_rfl) ?hq6n ?hy6n hHeld ?rest6n
    case hi6n => ((try simp only [List.getElem?_toArray, List.getElem?_cons_succ, List.getElem?_cons_zero]); (try rfl))
    case hq6n => exact fun _ _ _ h => h
    case hy6n => exact Or.inr ⟨by rfl, rfl⟩
    try simp only [Act.put, List.setIfInBounds_toArray, List.set_cons_zero, List.set_cons_succ]
    refine wpAnyH_take (i := 7) (oi := ?oi7n) (v := undef) ?hi7n (by kernel_rfl) (by kernel_rfl) (by kernel_rfl) ?hq7n ?hy7n hHeld ?rest7n
    case hi7n => ((try simp only [List.getElem?_toArray, List.getElem?_cons_succ, List.getElem?_cons_zero]); (try rfl))
    case hq7n => exact fun _ _ _ h => h
    case hy7n => exact Or.inr ⟨by rfl, rfl⟩
    try simp only [Act.put, List.setIfInBounds_toArray, List.set_cons_zero, List.set_cons_succ]
    refine wpAnyH_take (i := 8) (oi := ?oi8n) (v := undef) ?hi8n (by kernel_rfl) (by kernel_rfl) (by kernel_rfl) ?hq8n ?hy8n hHeld ?rest8n
    case hi8n => ((try simp only [List.getElem?_toArray, List.getElem?_cons_succ, List.getElem?_cons_zero]); (try rfl))
    case hq8n => exact fun _ _ _ h => h
    case hy8n => exact Or.inr ⟨by rfl, rfl⟩
    try simp only [Act.put, List.setIfInBounds_toArray, List.set_cons_zero, List.set_cons_succ]
    refine wpAnyH_take (i := 9) (oi := ?oi9n) (v := undef) ?hi9n (by kernel_rfl) (by kernel_rfl) (by kernel_rfl) ?hq9n ?hy9n hHeld ?rest9n
    case hi9n => ((try simp only [List.getElem?_toArray, List.getElem?_cons_succ, List.getElem?_cons_zero]); (try rfl))
    case hq9n => exact fun _ _ _ h => h
    case hy9n => exact Or.inr ⟨by rfl, rfl⟩
    try simp only [Act.put, List.setIfInBounds_toArray, List.set_cons_zero, List.set_cons_succ]
    refine wpAnyH_take (i := 10) (oi := ?oi10n) (v := ?v10n) ?hi10n (by kernel_rfl) (by kernel_rfl) (by kernel_rfl) ?hq10n ?hy10n hHeld ?rest10n
    case hi10n => ((try simp only [List.getElem?_toArray, List.getElem?_cons_succ, List.getElem?_cons_zero]); (try rfl))
    case hq10n => exact fun _ _ _ h => h
    case hy10n => exact Or.inl ⟨by rfl, by intro w hSw; clear hSw; go_simp; try with_reducible rfl⟩
    try simp only [Act.put, List.setIfInBounds_toArray, List.set_cons_zero, List.set_cons_succ]
    refine wpAnyH_ready (rs := [11]) (by kernel_rfl) (by simp) ?_
    refine AllReadyH.cons rfl (fun K' hK => ?_) AllReadyH.nil
    rw [if_pos (by rfl)]
    obtain ⟨r, hr⟩ := hHeld
    have TH := hr.res.th
    have HZ := Lib.hid (hr.sets)
    clear hr
    refine wp_store_mid _ _ _ rfl w.heap.size 0 (cgC c).toArray rfl rfl TH infoCg (cgone c) ?_
    rw [List.toList_toArray]
    refine hK.out _ _ ⟨c, HZ.out⟩ (fun hHeld => ?_)
    clear hK TH
    generalize World.setCells _ w.heap.size 0 (cgC c) = w6 at *
    try simp only [Act.put, List.setIfInBounds_toArray, List.set_cons_zero, List.set_cons_succ]
    refine wpAnyH_take (i := 12) (oi := ?oi12n) (v := ?v12n) ?hi12n (by kernel_rfl) (by kernel_rfl) (by kernel_rfl) ?hq12n ?hy12n hHeld ?rest12n
    case hi12n => ((try simp only [List.getElem?_toArray, List.getElem?_cons_succ, List.getElem?_cons_zero]); (try rfl))
    case hq12n => exact fun _ _ _ h => h
    case hy12n => exact Or.inl ⟨by rfl, by intro w hSw; clear hSw; go_simp; try with_reducible rfl⟩
    try simp only [Act.put, List.setIfInBounds_toArray, List.set_cons_zero, List.set_cons_succ]
    refine wpAnyH_done (by kernel_rfl) ?_ _
    clear hHeld
    go_wp2_with fail
    exact bodyPost_ret (ret_cell_tmp Tryd.results19 _ _ w.heap.size (cgC c) _ rfl HZ.out.res.row Tryd.underlying52 rfl infoCg) rfl ⟨c, false, rfl, (fun h => by cases h), fun _ => RD.out, CBX.out, HZ.out.below⟩
end Cgw
end Go.Proofs.YtafeigpmldgifaaDoor
/-
  The walk of change of the reference: the way of a line that begins with number.
-/
namespace Go.Proofs.YtafeigpmldgifaaDoor
namespace Cgw
open Go.RowKit Lw Go.Proofs.YtafeigpmldgifaaDoor.Dp Go.Proofs.YtafeigpmldgifaaDoor.Cgp Go.Proofs.YtafeigpmldgifaaDoor.Arw

set_option maxRecDepth 100000 in
set_option maxHeartbeats 16000000 in
theorem rchange_number (s : ByteArray) (w : World) (hs : s.size ≤ 1000) (t : List UInt8) (h : s.data.toList = numW ++ 32 :: t) :
    Calls Tryd.prog 19 #[.string s] w (RChPost s w) := by
  have HL := Lib.hid h
  have zt : (strL t).size ≤ 1000 := by
    have e := congrArg List.length h
    have e1 : s.data.toList.length = s.size := rfl
    have e2 : (strL t).size = t.length := rfl
    rw [List.length_append, List.length_cons] at e
    omega
  have B1 := Lib.hid (fun w' => beh_no s ⟨#[97, 100, 100, 32]⟩ (fun t' e => absurd (Option.some.inj (show some (110 : UInt8) = some 97 from congrArg List.head? (h.symm.trans e))) (by decide)) w' (by omega) (by decide))
  have B2 := Lib.hid (fun w' => beh_no s ⟨#[106, 111, 105, 110, 32]⟩ (fun t' e => absurd (Option.some.inj (show some (110 : UInt8) = some 106 from congrArg List.head? (h.symm.trans e))) (by decide)) w' (by omega) (by decide))
  have B3 := Lib.hid (fun w' => beh_yes s ⟨#[110, 117, 109, 98, 101, 114, 32]⟩ t h w' (by omega) (by decide))
  have B4 := Lib.hid (fun w' => beh_no s ⟨#[117, 110, 100, 111, 32]⟩ (fun t' e => absurd (Option.some.inj (show some (110 : UInt8) = some 117 from congrArg List.head? (h.symm.trans e))) (by decide)) w' (by omega) (by decide))
  obtain ⟨S10, hS10⟩ : ∃ S, s ++ (⟨#[10]⟩ : ByteArray) = S := ⟨_, rfl⟩
  have S10L : Hid (S10.data.toList = s.data.toList ++ [10]) := Lib.hid (by rw [← hS10]; simp)
  have cat : ∀ w', (Go.Op.stringOp .add s ⟨#[10]⟩).run Tryd.prog w' = .ok (.string S10) w' := fun w' => by rw [run_string_add_sum (P := Tryd.prog) (w := w') _ _ (by have : (⟨#[10]⟩ : ByteArray).size = 1 := rfl; rw [this]; omega), ← hS10]
  clear hS10
  have Y0 := Lib.hid (CY.two w)
  generalize hw1 : (w.alloc (.cells (cgC zeroC).toArray 52)).alloc (.cells (cgC zeroC).toArray 52) = w1 at *
  have HW := Lib.hid hw1
  clear hw1 h
  obtain ⟨x, hx⟩ : ∃ x, strL t = x := ⟨_, rfl⟩
  have HX : Hid (x.data.toList = t) := Lib.hid (by rw [← hx]; rfl)
  rw [hx] at zt B3
  clear hx
  have c0 := Y0.out.cell 0 _ rfl
  have f0 := Y0.out.bx.free (j := 0) (by decide)
  have Y1 := Lib.hid (Y0.out.one 0 (.int .u8 3) ⟨3, zeroG, zeroG, 0⟩ (by decide) rfl)
  clear Y0
  have PA := Lib.hid (fun (x : ByteArray) w' h => Dw.rparse_any x w' h)
  have HA := Lib.hid (fun (x : ByteArray) w' h => halves_any x w' h)
  have NU := Lib.hid (fun (x : ByteArray) w' h => rnumber_any x w' h)
  go_enter Tryd.func19, Tryd.ntmps19
  go_upto_region 2 with fail
  rw [show (w.alloc (.cells #[.int .u8 0, .int .i64 0, .int .i64 0, .int .u8 0, .int .u8 0, .int .i64 0, .int .i64 0, .int .i64 0, .int .u8 0, .int .u8 0, .int .i64 0, .int .i64 0] 52)).alloc (.cells #[.int .u8 0, .int .i64 0, .int .i64 0, .int .u8 0, .int .u8 0, .int .i64 0, .int .i64 0, .int .i64 0, .int .u8 0, .int .u8 0, .int .i64 0, .int .i64 0] 52) = w1 from HW.out]
  go_wp2_with fail
  refine (B1.out _).mono ?_
  rintro e w' ⟨rfl, rfl⟩
  clear B1
  go_wp2_with fail
  refine (B2.out _).mono ?_
  rintro e w' ⟨rfl, rfl⟩
  clear B2
  go_wp2_with fail
  refine (B3.out _).mono ?_
  rintro e w' ⟨rfl, rfl⟩
  clear B3
  go_wp2_with fail
  generalize (w1.setCell ⟨w.heap.size + 1, 0, none⟩ (.int .u8 3)) = wk at *
  clear c0 f0
  refine (HA.out x _ (by omega)).mono ?_
  rintro e wp ⟨a, b, rfl, hh, da, db, hbp⟩
  have Y4 := Lib.hid (Y1.out.call hbp)
  have ba := Lib.hid da
  have bb := Lib.hid db
  have RC := Lib.hid (cand_3 HL.out (by rw [← HX.out]; exact hh))
  clear Y1 hbp hh PA HA NU da db
  have ta := Lib.hid (there_sub Y4.out.bx.th 1 5 (by show 1 + 5 ≤ 12; decide))
  have Y5 := Lib.hid (Y4.out.many 1 (dC a) ⟨3, a, zeroG, 0⟩ (by show 1 + 5 ≤ 12; decide) rfl)
  clear Y4
  obtain ⟨wa, hwa⟩ : ∃ wa, wp.setCells (w.heap.size + 1) 1 (dC a) = wa := ⟨_, rfl⟩
  rw [hwa] at Y5
  have HWA := Lib.hid hwa
  clear hwa
  have tb := Lib.hid (there_sub Y5.out.bx.th 6 5 (by show 6 + 5 ≤ 12; decide))
  have Y6 := Lib.hid (Y5.out.many 6 (dC b) ⟨3, a, b, 0⟩ (by show 6 + 5 ≤ 12; decide) rfl)
  obtain ⟨wb, hwb⟩ : ∃ wb, wa.setCells (w.heap.size + 1) 6 (dC b) = wb := ⟨_, rfl⟩
  rw [hwb] at Y6
  have HWB := Lib.hid hwb
  clear hwb Y5
  have Y5 := Y6
  clear Y6
  go_wp2_with (first | (refine wpList_store_mid rfl _ (.tmp 52) (.tmp 50) rfl (w.heap.size + 1) 1 (dC a).toArray rfl rfl ta.out infoDg (dgone a) ?_; rw [List.toList_toArray, HWA.out]) | (refine wpList_store_mid rfl _ (.tmp 53) (.tmp 51) rfl (w.heap.size + 1) 6 (dC b).toArray rfl rfl tb.out infoDg (dgone b) ?_; rw [List.toList_toArray, HWB.out]))
  clear ta tb HWA HWB
  have Y := Y5
  clear Y5
  obtain ⟨c, hc⟩ : ∃ c, (⟨3, a, b, 0⟩ : Cg) = c := ⟨_, rfl⟩
  have CBX : Hid (CB c) := Lib.hid (by
    rw [← hc]
    exact ⟨(show (0 : Int) ≤ 3 by decide), (show (3 : Int) < 256 by decide), ba.out.1, ba.out.2, bb.out.1, bb.out.2, (show (-9223372036854775808 : Int) ≤ 0 by decide), (show (0 : Int) ≤ 9223372036854775807 by decide)⟩)
  rw [hc] at Y RC
  clear hc
  refine (B4.out _).mono ?_
  rintro e w' ⟨rfl, rfl⟩
  clear B4
  go_upto_region 18 with fail
  have CK := Lib.hid (fun w' => rmcheck_any c w' CBX.out)
  by_cases ok : okC c
  · replace CK := Lib.hid (fun w' => (CK.out w').mono (fun e w'' (h : ChkPost c w' e w'') => show e = .returned (.int .i64 0) ∧ Below w'.heap.size w' w'' from by
      obtain ⟨⟨r, h1, h2⟩, hb⟩ := h
      rcases h2 with ⟨_, h2⟩ | ⟨h2, _⟩
      · exact ⟨by rw [h1, h2], hb⟩
      · exact absurd ok h2))
    have LI := Lib.hid (fun w' => rline_any c w' CBX.out ok)
    by_cases eq : lineC c = s.data.toList
    · have EQ : Hid (∀ t : ByteArray, t.data.toList = lineC c ++ [10] → (t.toList == S10.toList) = true) := Lib.hid (fun t ht => by rw [Lib.toList_data, Lib.toList_data, S10L.out, ht, eq]; exact beq_self_eq_true _)
      have RD : Hid (RdIs s.data.toList c 0) := Lib.hid (RCand.yes ok eq)
      clear ok eq RC S10L
      refine wp_region_held_drew (S := fun wx => ∃ r, CZ w (w.heap.size + 1) r c wx) (by kernel_rfl) ⟨_, (CZ.of Y.out).call (Below.refl _ _).drew⟩ (fun hHeld => ?_)
      clear Y
      refine wpAnyH_take (i := 0) (oi := ?oi0y) (v := ?v0y) ?hi0y (by kernel_rfl) (by kernel_rfl) (by kernel_rfl) ?hq0y ?hy0y hHeld ?rest0y
      case hi0y => ((try simp only [List.getElem?_toArray, List.getElem?_cons_succ, List.getElem?_cons_zero]); (try rfl))
      case hq0y => exact fun _ _ _ h => h
      case hy0y => exact Or.inl ⟨by rfl, by intro w hSw; obtain ⟨_, hc⟩ := hSw; have c0 := hc.cell 0 (.int .u8 c.k) rfl; have c1 := hc.cell 1 (.int .i64 c.a.n) rfl; have c2 := hc.cell 2 (.int .i64 c.a.y) rfl; have c3 := hc.cell 3 (.int .u8 c.a.h) rfl; have c4 := hc.cell 4 (.int .u8 c.a.s) rfl; have c5 := hc.cell 5 (.int .i64 c.a.c) rfl; have c6 := hc.cell 6 (.int .i64 c.b.n) rfl; have c7 := hc.cell 7 (.int .i64 c.b.y) rfl; have c8 := hc.cell 8 (.int .u8 c.b.h) rfl; have c9 := hc.cell 9 (.int .u8 c.b.s) rfl; have c10 := hc.cell 10 (.int .i64 c.b.c) rfl; have c11 := hc.cell 11 (.int .i64 c.n) rfl; clear hc; go_simp; try with_reducible rfl⟩
      try simp only [Act.put, List.setIfInBounds_toArray, List.set_cons_zero, List.set_cons_succ]
      refine wpAnyH_take (i := 1) (oi := ?oi1y) (v := ?v1y) ?hi1y (by kernel_rfl) (by kernel_rfl) (by kernel_rfl) ?hq1y ?hy1y hHeld ?rest1y
      case hi1y => ((try simp only [List.getElem?_toArray, List.getElem?_cons_succ, List.getElem?_cons_zero]); (try rfl))
      case hq1y => exact fun _ _ _ h => h
      case hy1y => exact Or.inl ⟨by rfl, by intro w hSw; obtain ⟨_, hc⟩ := hSw; have c0 := hc.cell 0 (.int .u8 c.k) rfl; have c1 := hc.cell 1 (.int .i64 c.a.n) rfl; have c2 := hc.cell 2 (.int .i64 c.a.y) rfl; have c3 := hc.cell 3 (.int .u8 c.a.h) rfl; have c4 := hc.cell 4 (.int .u8 c.a.s) rfl; have c5 := hc.cell 5 (.int .i64 c.a.c) rfl; have c6 := hc.cell 6 (.int .i64 c.b.n) rfl; have c7 := hc.cell 7 (.int .i64 c.b.y) rfl; have c8 := hc.cell 8 (.int .u8 c.b.h) rfl; have c9 := hc.cell 9 (.int .u8 c.b.s) rfl; have c10 := hc.cell 10 (.int .i64 c.b.c) rfl; have c11 := hc.cell 11 (.int .i64 c.n) rfl; clear hc; go_simp; try with_reducible rfl⟩
      try simp only [Act.put, List.setIfInBounds_toArray, List.set_cons_zero, List.set_cons_succ]
      refine wpAnyH_ready (rs := [2]) (by kernel_rfl) (by simp) ?_
      refine AllReadyH.cons rfl (fun K' hK => ?_) AllReadyH.nil
      have H1 := Lib.hid hHeld
      clear hHeld
      go_simp
      refine (CK.out _).mono ?_
      rintro e wx ⟨rfl, hb⟩
      replace H1 : Hid (∃ r, CZ w (w.heap.size + 1) r c wx) := Lib.hid (H1.out.elim fun r h => ⟨r, h.call hb⟩)
      refine hK.out _ _ H1.out (fun hHeld => ?_)
      clear hK H1 hb
      try simp only [Act.put, List.setIfInBounds_toArray, List.set_cons_zero, List.set_cons_succ]
      refine wpAnyH_take (i := 3) (oi := ?oi3y) (v := ?v3y) ?hi3y (by kernel_rfl) (by kernel_rfl) (by kernel_rfl) ?hq3y ?hy3y hHeld ?rest3y
      case hi3y => ((try simp only [List.getElem?_toArray, List.getElem?_cons_succ, List.getElem?_cons_zero]); (try rfl))
      case hq3y => exact fun _ _ _ h => h
      case hy3y => exact Or.inl ⟨by rfl, by intro w hSw; clear hSw; go_simp; try with_reducible rfl⟩
      try simp only [Act.put, List.setIfInBounds_toArray, List.set_cons_zero, List.set_cons_succ]
      refine wpAnyH_take (i := 4) (oi := ?oi4y) (v := ?v4y) ?hi4y (by kernel_rfl) (by kernel_rfl) (by kernel_rfl) ?hq4y ?hy4y hHeld ?rest4y
      case hi4y => ((try simp only [List.getElem?_toArray, List.getElem?_cons_succ, List.getElem?_cons_zero]); (try rfl))
      case hq4y => exact fun _ _ _ h => h
      case hy4y => exact Or.inl ⟨by rfl, by intro w hSw; clear hSw; go_simp; try with_reducible rfl⟩
      try simp only [Act.put, List.setIfInBounds_toArray, List.set_cons_zero, List.set_cons_succ]
      refine wpAnyH_take (i := 5) (oi := ?oi5y) (v := ?v5y) ?hi5y (by kernel_rfl) (by kernel_rfl) (by kernel_rfl) ?hq5y ?hy5y hHeld ?rest5y
      case hi5y => ((try simp only [List.getElem?_toArray, List.getElem?_cons_succ, List.getElem?_cons_zero]); (try rfl))
      case hq5y => exact fun _ _ _ h => h
      case hy5y => exact Or.inl ⟨by rfl, by intro w hSw; obtain ⟨_, hc⟩ := hSw; have c0 := hc.cell 0 (.int .u8 c.k) rfl; have c1 := hc.cell 1 (.int .i64 c.a.n) rfl; have c2 := hc.cell 2 (.int .i64 c.a.y) rfl; have c3 := hc.cell 3 (.int .u8 c.a.h) rfl; have c4 := hc.cell 4 (.int .u8 c.a.s) rfl; have c5 := hc.cell 5 (.int .i64 c.a.c) rfl; have c6 := hc.cell 6 (.int .i64 c.b.n) rfl; have c7 := hc.cell 7 (.int .i64 c.b.y) rfl; have c8 := hc.cell 8 (.int .u8 c.b.h) rfl; have c9 := hc.cell 9 (.int .u8 c.b.s) rfl; have c10 := hc.cell 10 (.int .i64 c.b.c) rfl; have c11 := hc.cell 11 (.int .i64 c.n) rfl; clear hc; go_simp; try with_reducible rfl⟩
      try simp only [Act.put, List.setIfInBounds_toArray, List.set_cons_zero, List.set_cons_succ]
      refine wpAnyH_take (i := 7) (oi := ?oi7y) (v := ?v7y) ?hi7y (by kernel_rfl) (by kernel_rfl) (by kernel_rfl) ?hq7y ?hy7y hHeld ?rest7y
      case hi7y => ((try simp only [List.getElem?_toArray, List.getElem?_cons_succ, List.getElem?_cons_zero]); (try rfl))
      case hq7y => exact fun _ _ _ h => h
      case hy7y => exact Or.inl ⟨by rfl, by intro w hSw; clear hSw; go_simp; try with_reducible rfl⟩
      try simp only [Act.put, List.setIfInBounds_toArray, List.set_cons_zero, List.set_cons_succ]
      refine wpAnyH_take (i := 8) (oi := ?oi8y) (v := ?v8y) ?hi8y (by kernel_rfl) (by kernel_rfl) (by kernel_rfl) ?hq8y ?hy8y hHeld ?rest8y
      case hi8y => ((try simp only [List.getElem?_toArray, List.getElem?_cons_succ, List.getElem?_cons_zero]); (try rfl))
      case hq8y => exact fun _ _ _ h => h
      case hy8y => exact Or.inl ⟨by rfl, by intro w hSw; clear hSw; go_simp; try with_reducible rfl⟩
      try simp only [Act.put, List.setIfInBounds_toArray, List.set_cons_zero, List.set_cons_succ]
      refine wpAnyH_ready (rs := [6]) (by kernel_rfl) (by simp) ?_
      refine AllReadyH.cons rfl (fun K' hK => ?_) AllReadyH.nil
      have H1 := Lib.hid hHeld
      clear hHeld
      go_simp
      refine (LI.out _).mono ?_
      rintro e wx ⟨t, rfl, ht, zt, hb⟩
      replace H1 : Hid (∃ r, CZ w (w.heap.size + 1) r c wx) := Lib.hid (H1.out.elim fun r h => ⟨r, h.call hb⟩)
      have f1 := EQ.out t ht
      clear ht zt
      refine hK.out _ _ H1.out (fun hHeld => ?_)
      clear hK H1 hb
      try simp only [Act.put, List.setIfInBounds_toArray, List.set_cons_zero, List.set_cons_succ]
      refine wpAnyH_take (i := 9) (oi := ?oi9y) (v := ?v9y) ?hi9y (by kernel_rfl) (by kernel_rfl) (by kernel_rfl) ?hq9y ?hy9y hHeld ?rest9y
      case hi9y => ((try simp only [List.getElem?_toArray, List.getElem?_cons_succ, List.getElem?_cons_zero]); (try rfl))
      case hq9y => exact fun _ _ _ h => h
      case hy9y => exact Or.inl ⟨by rfl, by intro w hSw; clear hSw; go_simp; try with_reducible rfl⟩
      try simp only [Act.put, List.setIfInBounds_toArray, List.set_cons_zero, List.set_cons_succ]
      refine wpAnyH_take (i := 10) (oi := ?oi10y) (v := ?v10y) ?hi10y (by kernel_rfl) (by kernel_rfl) (by kernel_rfl) ?hq10y ?hy10y hHeld ?rest10y
      case hi10y => ((try simp only [List.getElem?_toArray, List.getElem?_cons_succ, List.getElem?_cons_zero]); (try rfl))
      case hq10y => exact fun _ _ _ h => h
      case hy10y => exact Or.inl ⟨by rfl, by intro w hSw; clear hSw; go_simp; try with_reducible rfl⟩
      try simp only [Act.put, List.setIfInBounds_toArray, List.set_cons_zero, List.set_cons_succ]
      refine wpAnyH_ready (rs := [11]) (by kernel_rfl) (by simp) ?_
      refine AllReadyH.cons rfl (fun K' hK => ?_) AllReadyH.nil
      rw [if_pos (by rfl)]
      obtain ⟨r, hr⟩ := hHeld
      have TH := hr.res.th
      have HZ := Lib.hid (hr.sets)
      clear hr
      refine wp_store_mid _ _ _ rfl w.heap.size 0 (cgC c).toArray rfl rfl TH infoCg (cgone c) ?_
      rw [List.toList_toArray]
      refine hK.out _ _ ⟨c, HZ.out⟩ (fun hHeld => ?_)
      clear hK TH
      generalize World.setCells _ w.heap.size 0 (cgC c) = w6 at *
      try simp only [Act.put, List.setIfInBounds_toArray, List.set_cons_zero, List.set_cons_succ]
      refine wpAnyH_take (i := 12) (oi := ?oi12y) (v := ?v12y) ?hi12y (by kernel_rfl) (by kernel_rfl) (by kernel_rfl) ?hq12y ?hy12y hHeld ?rest12y
      case hi12y => ((try simp only [List.getElem?_toArray, List.getElem?_cons_succ, List.getElem?_cons_zero]); (try rfl))
      case hq12y => exact fun _ _ _ h => h
      case hy12y => exact Or.inl ⟨by rfl, by intro w hSw; clear hSw; go_simp; try with_reducible rfl⟩
      try simp only [Act.put, List.setIfInBounds_toArray, List.set_cons_zero, List.set_cons_succ]
      refine wpAnyH_done (by kernel_rfl) ?_ _
      clear hHeld
      go_wp2_with fail
      exact bodyPost_ret (ret_cell_tmp Tryd.results19 _ _ w.heap.size (cgC c) _ rfl HZ.out.res.row Tryd.underlying52 rfl infoCg) rfl ⟨c, true, rfl, fun _ => RD.out, (fun h => by cases h), CBX.out, HZ.out.below⟩
    · have EQ : Hid (∀ t : ByteArray, t.data.toList = lineC c ++ [10] → (t.toList == S10.toList) = false) := Lib.hid (fun t ht => beq_eq_false_iff_ne.2 (by rw [Lib.toList_data, Lib.toList_data, S10L.out, ht]; exact fun e => eq (List.append_cancel_right e)))
      have RD : Hid (RdIs s.data.toList zeroC 12) := Lib.hid (RC.out.no (fun h => eq h.2))
      clear ok eq RC S10L
      refine wp_region_held_drew (S := fun wx => ∃ r, CZ w (w.heap.size + 1) r c wx) (by kernel_rfl) ⟨_, (CZ.of Y.out).call (Below.refl _ _).drew⟩ (fun hHeld => ?_)
      clear Y
      refine wpAnyH_take (i := 0) (oi := ?oi0o) (v := ?v0o) ?hi0o (by kernel_rfl) (by kernel_rfl) (by kernel_rfl) ?hq0o ?hy0o hHeld ?rest0o
      case hi0o => ((try simp only [List.getElem?_toArray, List.getElem?_cons_succ, List.getElem?_cons_zero]); (try rfl))
      case hq0o => exact fun _ _ _ h => h
      case hy0o => exact Or.inl ⟨by rfl, by intro w hSw; obtain ⟨_, hc⟩ := hSw; have c0 := hc.cell 0 (.int .u8 c.k) rfl; have c1 := hc.cell 1 (.int .i64 c.a.n) rfl; have c2 := hc.cell 2 (.int .i64 c.a.y) rfl; have c3 := hc.cell 3 (.int .u8 c.a.h) rfl; have c4 := hc.cell 4 (.int .u8 c.a.s) rfl; have c5 := hc.cell 5 (.int .i64 c.a.c) rfl; have c6 := hc.cell 6 (.int .i64 c.b.n) rfl; have c7 := hc.cell 7 (.int .i64 c.b.y) rfl; have c8 := hc.cell 8 (.int .u8 c.b.h) rfl; have c9 := hc.cell 9 (.int .u8 c.b.s) rfl; have c10 := hc.cell 10 (.int .i64 c.b.c) rfl; have c11 := hc.cell 11 (.int .i64 c.n) rfl; clear hc; go_simp; try with_reducible rfl⟩
      try simp only [Act.put, List.setIfInBounds_toArray, List.set_cons_zero, List.set_cons_succ]
      refine wpAnyH_take (i := 1) (oi := ?oi1o) (v := ?v1o) ?hi1o (by kernel_rfl) (by kernel_rfl) (by kernel_rfl) ?hq1o ?hy1o hHeld ?rest1o
      case hi1o => ((try simp only [List.getElem?_toArray, List.getElem?_cons_succ, List.getElem?_cons_zero]); (try rfl))
      case hq1o => exact fun _ _ _ h => h
      case hy1o => exact Or.inl ⟨by rfl, by intro w hSw; obtain ⟨_, hc⟩ := hSw; have c0 := hc.cell 0 (.int .u8 c.k) rfl; have c1 := hc.cell 1 (.int .i64 c.a.n) rfl; have c2 := hc.cell 2 (.int .i64 c.a.y) rfl; have c3 := hc.cell 3 (.int .u8 c.a.h) rfl; have c4 := hc.cell 4 (.int .u8 c.a.s) rfl; have c5 := hc.cell 5 (.int .i64 c.a.c) rfl; have c6 := hc.cell 6 (.int .i64 c.b.n) rfl; have c7 := hc.cell 7 (.int .i64 c.b.y) rfl; have c8 := hc.cell 8 (.int .u8 c.b.h) rfl; have c9 := hc.cell 9 (.int .u8 c.b.s) rfl; have c10 := hc.cell 10 (.int .i64 c.b.c) rfl; have c11 := hc.cell 11 (.int .i64 c.n) rfl; clear hc; go_simp; try with_reducible rfl⟩
      try simp only [Act.put, List.setIfInBounds_toArray, List.set_cons_zero, List.set_cons_succ]
      refine wpAnyH_ready (rs := [2]) (by kernel_rfl) (by simp) ?_
      refine AllReadyH.cons rfl (fun K' hK => ?_) AllReadyH.nil
      have H1 := Lib.hid hHeld
      clear hHeld
      go_simp
      refine (CK.out _).mono ?_
      rintro e wx ⟨rfl, hb⟩
      replace H1 : Hid (∃ r, CZ w (w.heap.size + 1) r c wx) := Lib.hid (H1.out.elim fun r h => ⟨r, h.call hb⟩)
      refine hK.out _ _ H1.out (fun hHeld => ?_)
      clear hK H1 hb
      try simp only [Act.put, List.setIfInBounds_toArray, List.set_cons_zero, List.set_cons_succ]
      refine wpAnyH_take (i := 3) (oi := ?oi3o) (v := ?v3o) ?hi3o (by kernel_rfl) (by kernel_rfl) (by kernel_rfl) ?hq3o ?hy3o hHeld ?rest3o
      case hi3o => ((try simp only [List.getElem?_toArray, List.getElem?_cons_succ, List.getElem?_cons_zero]); (try rfl))
      case hq3o => exact fun _ _ _ h => h
      case hy3o => exact Or.inl ⟨by rfl, by intro w hSw; clear hSw; go_simp; try with_reducible rfl⟩
      try simp only [Act.put, List.setIfInBounds_toArray, List.set_cons_zero, List.set_cons_succ]
      refine wpAnyH_take (i := 4) (oi := ?oi4o) (v := ?v4o) ?hi4o (by kernel_rfl) (by kernel_rfl) (by kernel_rfl) ?hq4o ?hy4o hHeld ?rest4o
      case hi4o => ((try simp only [List.getElem?_toArray, List.getElem?_cons_succ, List.getElem?_cons_zero]); (try rfl))
      case hq4o => exact fun _ _ _ h => h
      case hy4o => exact Or.inl ⟨by rfl, by intro w hSw; clear hSw; go_simp; try with_reducible rfl⟩
      try simp only [Act.put, List.setIfInBounds_toArray, List.set_cons_zero, List.set_cons_succ]
      refine wpAnyH_take (i := 5) (oi := ?oi5o) (v := ?v5o) ?hi5o (by kernel_rfl) (by kernel_rfl) (by kernel_rfl) ?hq5o ?hy5o hHeld ?rest5o
      case hi5o => ((try simp only [List.getElem?_toArray, List.getElem?_cons_succ, List.getElem?_cons_zero]); (try rfl))
      case hq5o => exact fun _ _ _ h => h
      case hy5o => exact Or.inl ⟨by rfl, by intro w hSw; obtain ⟨_, hc⟩ := hSw; have c0 := hc.cell 0 (.int .u8 c.k) rfl; have c1 := hc.cell 1 (.int .i64 c.a.n) rfl; have c2 := hc.cell 2 (.int .i64 c.a.y) rfl; have c3 := hc.cell 3 (.int .u8 c.a.h) rfl; have c4 := hc.cell 4 (.int .u8 c.a.s) rfl; have c5 := hc.cell 5 (.int .i64 c.a.c) rfl; have c6 := hc.cell 6 (.int .i64 c.b.n) rfl; have c7 := hc.cell 7 (.int .i64 c.b.y) rfl; have c8 := hc.cell 8 (.int .u8 c.b.h) rfl; have c9 := hc.cell 9 (.int .u8 c.b.s) rfl; have c10 := hc.cell 10 (.int .i64 c.b.c) rfl; have c11 := hc.cell 11 (.int .i64 c.n) rfl; clear hc; go_simp; try with_reducible rfl⟩
      try simp only [Act.put, List.setIfInBounds_toArray, List.set_cons_zero, List.set_cons_succ]
      refine wpAnyH_take (i := 7) (oi := ?oi7o) (v := ?v7o) ?hi7o (by kernel_rfl) (by kernel_rfl) (by kernel_rfl) ?hq7o ?hy7o hHeld ?rest7o
      case hi7o => ((try simp only [List.getElem?_toArray, List.getElem?_cons_succ, List.getElem?_cons_zero]); (try rfl))
      case hq7o => exact fun _ _ _ h => h
      case hy7o => exact Or.inl ⟨by rfl, by intro w hSw; clear hSw; go_simp; try with_reducible rfl⟩
      try simp only [Act.put, List.setIfInBounds_toArray, List.set_cons_zero, List.set_cons_succ]
      refine wpAnyH_take (i := 8) (oi := ?oi8o) (v := ?v8o) ?hi8o (by kernel_rfl) (by kernel_rfl) (by kernel_rfl) ?hq8o ?hy8o hHeld ?rest8o
      case hi8o => ((try simp only [List.getElem?_toArray, List.getElem?_cons_succ, List.getElem?_cons_zero]); (try rfl))
      case hq8o => exact fun _ _ _ h => h
      case hy8o => exact Or.inl ⟨by rfl, by intro w hSw; clear hSw; go_simp; try with_reducible rfl⟩
      try simp only [Act.put, List.setIfInBounds_toArray, List.set_cons_zero, List.set_cons_succ]
      refine wpAnyH_ready (rs := [6]) (by kernel_rfl) (by simp) ?_
      refine AllReadyH.cons rfl (fun K' hK => ?_) AllReadyH.nil
      have H1 := Lib.hid hHeld
      clear hHeld
      go_simp
      refine (LI.out _).mono ?_
      rintro e wx ⟨t, rfl, ht, zt, hb⟩
      replace H1 : Hid (∃ r, CZ w (w.heap.size + 1) r c wx) := Lib.hid (H1.out.elim fun r h => ⟨r, h.call hb⟩)
      have f1 := EQ.out t ht
      clear ht zt
      refine hK.out _ _ H1.out (fun hHeld => ?_)
      clear hK H1 hb
      try simp only [Act.put, List.setIfInBounds_toArray, List.set_cons_zero, List.set_cons_succ]
      refine wpAnyH_take (i := 9) (oi := ?oi9o) (v := ?v9o) ?hi9o (by kernel_rfl) (by kernel_rfl) (by kernel_rfl) ?hq9o ?hy9o hHeld ?rest9o
      case hi9o => ((try simp only [List.getElem?_toArray, List.getElem?_cons_succ, List.getElem?_cons_zero]); (try rfl))
      case hq9o => exact fun _ _ _ h => h
      case hy9o => exact Or.inl ⟨by rfl, by intro w hSw; clear hSw; go_simp; try with_reducible rfl⟩
      try simp only [Act.put, List.setIfInBounds_toArray, List.set_cons_zero, List.set_cons_succ]
      refine wpAnyH_take (i := 10) (oi := ?oi10o) (v := ?v10o) ?hi10o (by kernel_rfl) (by kernel_rfl) (by kernel_rfl) ?hq10o ?hy10o hHeld ?rest10o
      case hi10o => ((try simp only [List.getElem?_toArray, List.getElem?_cons_succ, List.getElem?_cons_zero]); (try rfl))
      case hq10o => exact fun _ _ _ h => h
      case hy10o => exact Or.inl ⟨by rfl, by intro w hSw; clear hSw; go_simp; try with_reducible rfl⟩
      try simp only [Act.put, List.setIfInBounds_toArray, List.set_cons_zero, List.set_cons_succ]
      refine wpAnyH_ready (rs := [11]) (by kernel_rfl) (by simp) ?_
      refine AllReadyH.cons rfl (fun K' hK => ?_) AllReadyH.nil
      rw [if_pos (by rfl)]
      obtain ⟨r, hr⟩ := hHeld
      have TH := hr.res.th
      have HZ := Lib.hid (hr.sets)
      clear hr
      refine wp_store_mid _ _ _ rfl w.heap.size 0 (cgC c).toArray rfl rfl TH infoCg (cgone c) ?_
      rw [List.toList_toArray]
      refine hK.out _ _ ⟨c, HZ.out⟩ (fun hHeld => ?_)
      clear hK TH
      generalize World.setCells _ w.heap.size 0 (cgC c) = w6 at *
      try simp only [Act.put, List.setIfInBounds_toArray, List.set_cons_zero, List.set_cons_succ]
      refine wpAnyH_take (i := 12) (oi := ?oi12o) (v := ?v12o) ?hi12o (by kernel_rfl) (by kernel_rfl) (by kernel_rfl) ?hq12o ?hy12o hHeld ?rest12o
      case hi12o => ((try simp only [List.getElem?_toArray, List.getElem?_cons_succ, List.getElem?_cons_zero]); (try rfl))
      case hq12o => exact fun _ _ _ h => h
      case hy12o => exact Or.inl ⟨by rfl, by intro w hSw; clear hSw; go_simp; try with_reducible rfl⟩
      try simp only [Act.put, List.setIfInBounds_toArray, List.set_cons_zero, List.set_cons_succ]
      refine wpAnyH_done (by kernel_rfl) ?_ _
      clear hHeld
      go_wp2_with fail
      exact bodyPost_ret (ret_cell_tmp Tryd.results19 _ _ w.heap.size (cgC c) _ rfl HZ.out.res.row Tryd.underlying52 rfl infoCg) rfl ⟨c, false, rfl, (fun h => by cases h), fun _ => RD.out, CBX.out, HZ.out.below⟩
  · replace CK := Lib.hid (fun w' => (CK.out w').mono (fun e w'' (h : ChkPost c w' e w'') => show e = .returned (.int .i64 8) ∧ Below w'.heap.size w' w'' from by
      obtain ⟨⟨r, h1, h2⟩, hb⟩ := h
      rcases h2 with ⟨h2, _⟩ | ⟨_, h2⟩
      · exact absurd h2 ok
      · exact ⟨by rw [h1, h2], hb⟩))
    have RD : Hid (RdIs s.data.toList zeroC 12) := Lib.hid (RC.out.no (fun h => ok h.1))
    clear ok RC S10L cat
    refine wp_region_held_drew (S := fun wx => ∃ r, CZ w (w.heap.size + 1) r c wx) (by kernel_rfl) ⟨_, (CZ.of Y.out).call (Below.refl _ _).drew⟩ (fun hHeld => ?_)
    clear Y
    refine wpAnyH_take (i := 0) (oi := ?oi0n) (v := ?v0n) ?hi0n (by kernel_rfl) (by kernel_rfl) (by kernel_rfl) ?hq0n ?hy0n hHeld ?rest0n
    case hi0n => ((try simp only [List.getElem?_toArray, List.getElem?_cons_succ, List.getElem?_cons_zero]); (try rfl))
    case hq0n => exact fun _ _ _ h => h
    case hy0n => exact Or.inl ⟨by rfl, by intro w hSw; obtain ⟨_, hc⟩ := hSw; have c0 := hc.cell 0 (.int .u8 c.k) rfl; have c1 := hc.cell 1 (.int .i64 c.a.n) rfl; have c2 := hc.cell 2 (.int .i64 c.a.y) rfl; have c3 := hc.cell 3 (.int .u8 c.a.h) rfl; have c4 := hc.cell 4 (.int .u8 c.a.s) rfl; have c5 := hc.cell 5 (.int .i64 c.a.c) rfl; have c6 := hc.cell 6 (.int .i64 c.b.n) rfl; have c7 := hc.cell 7 (.int .i64 c.b.y) rfl; have c8 := hc.cell 8 (.int .u8 c.b.h) rfl; have c9 := hc.cell 9 (.int .u8 c.b.s) rfl; have c10 := hc.cell 10 (.int .i64 c.b.c) rfl; have c11 := hc.cell 11 (.int .i64 c.n) rfl; clear hc; go_simp; try with_reducible rfl⟩
    try simp only [Act.put, List.setIfInBounds_toArray, List.set_cons_zero, List.set_cons_succ]
    refine wpAnyH_take (i := 1) (oi := ?oi1n) (v := ?v1n) ?hi1n (by kernel_rfl) (by kernel_rfl) (by kernel_rfl) ?hq1n ?hy1n hHeld ?rest1n
    case hi1n => ((try simp only [List.getElem?_toArray, List.getElem?_cons_succ, List.getElem?_cons_zero]); (try rfl))
    case hq1n => exact fun _ _ _ h => h
    case hy1n => exact Or.inl ⟨by rfl, by intro w hSw; obtain ⟨_, hc⟩ := hSw; have c0 := hc.cell 0 (.int .u8 c.k) rfl; have c1 := hc.cell 1 (.int .i64 c.a.n) rfl; have c2 := hc.cell 2 (.int .i64 c.a.y) rfl; have c3 := hc.cell 3 (.int .u8 c.a.h) rfl; have c4 := hc.cell 4 (.int .u8 c.a.s) rfl; have c5 := hc.cell 5 (.int .i64 c.a.c) rfl; have c6 := hc.cell 6 (.int .i64 c.b.n) rfl; have c7 := hc.cell 7 (.int .i64 c.b.y) rfl; have c8 := hc.cell 8 (.int .u8 c.b.h) rfl; have c9 := hc.cell 9 (.int .u8 c.b.s) rfl; have c10 := hc.cell 10 (.int .i64 c.b.c) rfl; have c11 := hc.cell 11 (.int .i64 c.n) rfl; clear hc; go_simp; try with_reducible rfl⟩
    try simp only [Act.put, List.setIfInBounds_toArray, List.set_cons_zero, List.set_cons_succ]
    refine wpAnyH_ready (rs := [2]) (by kernel_rfl) (by simp) ?_
    refine AllReadyH.cons rfl (fun K' hK => ?_) AllReadyH.nil
    have H1 := Lib.hid hHeld
    clear hHeld
    go_simp
    refine (CK.out _).mono ?_
    rintro e wx ⟨rfl, hb⟩
    replace H1 : Hid (∃ r, CZ w (w.heap.size + 1) r c wx) := Lib.hid (H1.out.elim fun r h => ⟨r, h.call hb⟩)
    refine hK.out _ _ H1.out (fun hHeld => ?_)
    clear hK H1 hb
    try simp only [Act.put, List.setIfInBounds_toArray, List.set_cons_zero, List.set_cons_succ]
    refine wpAnyH_take (i := 3) (oi := ?oi3n) (v := ?v3n) ?hi3n (by kernel_rfl) (by kernel_rfl) (by kernel_rfl) ?hq3n ?hy3n hHeld ?rest3n
    case hi3n => ((try simp only [List.getElem?_toArray, List.getElem?_cons_succ, List.getElem?_cons_zero]); (try rfl))
    case hq3n => exact fun _ _ _ h => h
    case hy3n => exact Or.inl ⟨by rfl, by intro w hSw; clear hSw; go_simp; try with_reducible rfl⟩
    try simp only [Act.put, List.setIfInBounds_toArray, List.set_cons_zero, List.set_cons_succ]
    refine wpAnyH_take (i := 4) (oi := ?oi4n) (v := ?v4n) ?hi4n (by kernel_rfl) (by kernel_rfl) (by kernel_rfl) ?hq4n ?hy4n hHeld ?rest4n
    case hi4n => ((try simp only [List.getElem?_toArray, List.getElem?_cons_succ, List.getElem?_cons_zero]); (try rfl))
    case hq4n => exact fun _ _ _ h => h
    case hy4n => exact Or.inl ⟨by rfl, by intro w hSw; clear hSw; go_simp; try with_reducible rfl⟩
    try simp only [Act.put, List.setIfInBounds_toArray, List.set_cons_zero, List.set_cons_succ]
    refine wpAnyH_take (i := 5) (oi := ?oi5n) (v := undef) ?hi5n (by kernel_rfl) (by kernel_rfl) (by kernel_rfl) ?hq5n ?hy5n hHeld ?rest5n
    case hi5n => ((try simp only [List.getElem?_toArray, List.getElem?_cons_succ, List.getElem?_cons_zero]); (try rfl))
    case hq5n => exact fun _ _ _ h => h
    case hy5n => exact Or.inr ⟨by rfl, rfl⟩
    try simp only [Act.put, List.setIfInBounds_toArray, List.set_cons_zero, List.set_cons_succ]
    refine wpAnyH_take (i := 6) (oi := ?oi6n) (v := undef) ?hi6n (by kernel_rfl) (by kernel_rfl) (by kernel_rfl) ?hq6n ?hy6n hHeld ?rest6n
    case hi6n => ((try simp only [List.getElem?_toArray, List.getElem?_cons_succ, List.getElem?_cons_zero]); (try rfl))
    case hq6n => exact fun _ _ _ h => h
    case hy6n => exact Or.inr ⟨by rfl, rfl⟩
    try simp only [Act.put, List.setIfInBounds_toArray, List.set_cons_zero, List.set_cons_succ]
    refine wpAnyH_take (i := 7) (oi := ?oi7n) (v := undef) ?hi7n (by kernel_rfl) (by kernel_rfl) (by kernel_rfl) ?hq7n ?hy7n hHeld ?rest7n
    case hi7n => ((try simp only [List.getElem?_toArray, List.getElem?_cons_succ, List.getElem?_cons_zero]); (try rfl))
    case hq7n => exact fun _ _ _ h => h
    case hy7n => exact Or.inr ⟨by rfl, rfl⟩
    try simp only [Act.put, List.setIfInBounds_toArray, List.set_cons_zero, List.set_cons_succ]
    refine wpAnyH_take (i := 8) (oi := ?oi8n) (v := undef) ?hi8n (by kernel_rfl) (by kernel_rfl) (by kernel_rfl) ?hq8n ?hy8n hHeld ?rest8n
    case hi8n => ((try simp only [List.getElem?_toArray, List.getElem?_cons_succ, List.getElem?_cons_zero]); (try rfl))
    case hq8n => exact fun _ _ _ h => h
    case hy8n => exact Or.inr ⟨by rfl, rfl⟩
    try simp only [Act.put, List.setIfInBounds_toArray, List.set_cons_zero, List.set_cons_succ]
    refine wpAnyH_take (i := 9) (oi := ?oi9n) (v := undef) ?hi9n (by kernel_rfl) (by kernel_rfl) (by kernel_rfl) ?hq9n ?hy9n hHeld ?rest9n
    case hi9n => ((try simp only [List.getElem?_toArray, List.getElem?_cons_succ, List.getElem?_cons_zero]); (try rfl))
    case hq9n => exact fun _ _ _ h => h
    case hy9n => exact Or.inr ⟨by rfl, rfl⟩
    try simp only [Act.put, List.setIfInBounds_toArray, List.set_cons_zero, List.set_cons_succ]
    refine wpAnyH_take (i := 10) (oi := ?oi10n) (v := ?v10n) ?hi10n (by kernel_rfl) (by kernel_rfl) (by kernel_rfl) ?hq10n ?hy10n hHeld ?rest10n
    case hi10n => ((try simp only [List.getElem?_toArray, List.getElem?_cons_succ, List.getElem?_cons_zero]); (try rfl))
    case hq10n => exact fun _ _ _ h => h
    case hy10n => exact Or.inl ⟨by rfl, by intro w hSw; clear hSw; go_simp; try with_reducible rfl⟩
    try simp only [Act.put, List.setIfInBounds_toArray, List.set_cons_zero, List.set_cons_succ]
    refine wpAnyH_ready (rs := [11]) (by kernel_rfl) (by simp) ?_
    refine AllReadyH.cons rfl (fun K' hK => ?_) AllReadyH.nil
    rw [if_pos (by rfl)]
    obtain ⟨r, hr⟩ := hHeld
    have TH := hr.res.th
    have HZ := Lib.hid (hr.sets)
    clear hr
    refine wp_store_mid _ _ _ rfl w.heap.size 0 (cgC c).toArray rfl rfl TH infoCg (cgone c) ?_
    rw [List.toList_toArray]
    refine hK.out _ _ ⟨c, HZ.out⟩ (fun hHeld => ?_)
    clear hK TH
    generalize World.setCells _ w.heap.size 0 (cgC c) = w6 at *
    try simp only [Act.put, List.setIfInBounds_toArray, List.set_cons_zero, List.set_cons_succ]
    refine wpAnyH_take (i := 12) (oi := ?oi12n) (v := ?v12n) ?hi12n (by kernel_rfl) (by kernel_rfl) (by kernel_rfl) ?hq12n ?hy12n hHeld ?rest12n
    case hi12n => ((try simp only [List.getElem?_toArray, List.getElem?_cons_succ, List.getElem?_cons_zero]); (try rfl))
    case hq12n => exact fun _ _ _ h => h
    case hy12n => exact Or.inl ⟨by rfl, by intro w hSw; clear hSw; go_simp; try with_reducible rfl⟩
    try simp only [Act.put, List.setIfInBounds_toArray, List.set_cons_zero, List.set_cons_succ]
    refine wpAnyH_done (by kernel_rfl) ?_ _
    clear hHeld
    go_wp2_with fail
    exact bodyPost_ret (ret_cell_tmp Tryd.results19 _ _ w.heap.size (cgC c) _ rfl HZ.out.res.row Tryd.underlying52 rfl infoCg) rfl ⟨c, false, rfl, (fun h => by cases h), fun _ => RD.out, CBX.out, HZ.out.below⟩
end Cgw
end Go.Proofs.YtafeigpmldgifaaDoor
/-
  The walk of change of the reference: the way of a line that begins with undo.
-/
namespace Go.Proofs.YtafeigpmldgifaaDoor
namespace Cgw
open Go.RowKit Lw Go.Proofs.YtafeigpmldgifaaDoor.Dp Go.Proofs.YtafeigpmldgifaaDoor.Cgp Go.Proofs.YtafeigpmldgifaaDoor.Arw

set_option maxRecDepth 100000 in
set_option maxHeartbeats 16000000 in
theorem rchange_undo (s : ByteArray) (w : World) (hs : s.size ≤ 1000) (t : List UInt8) (h : s.data.toList = undoW ++ 32 :: t) :
    Calls Tryd.prog 19 #[.string s] w (RChPost s w) := by
  have HL := Lib.hid h
  have zt : (strL t).size ≤ 1000 := by
    have e := congrArg List.length h
    have e1 : s.data.toList.length = s.size := rfl
    have e2 : (strL t).size = t.length := rfl
    rw [List.length_append, List.length_cons] at e
    omega
  have B1 := Lib.hid (fun w' => beh_no s ⟨#[97, 100, 100, 32]⟩ (fun t' e => absurd (Option.some.inj (show some (117 : UInt8) = some 97 from congrArg List.head? (h.symm.trans e))) (by decide)) w' (by omega) (by decide))
  have B2 := Lib.hid (fun w' => beh_no s ⟨#[106, 111, 105, 110, 32]⟩ (fun t' e => absurd (Option.some.inj (show some (117 : UInt8) = some 106 from congrArg List.head? (h.symm.trans e))) (by decide)) w' (by omega) (by decide))
  have B3 := Lib.hid (fun w' => beh_no s ⟨#[110, 117, 109, 98, 101, 114, 32]⟩ (fun t' e => absurd (Option.some.inj (show some (117 : UInt8) = some 110 from congrArg List.head? (h.symm.trans e))) (by decide)) w' (by omega) (by decide))
  have B4 := Lib.hid (fun w' => beh_yes s ⟨#[117, 110, 100, 111, 32]⟩ t h w' (by omega) (by decide))
  obtain ⟨S10, hS10⟩ : ∃ S, s ++ (⟨#[10]⟩ : ByteArray) = S := ⟨_, rfl⟩
  have S10L : Hid (S10.data.toList = s.data.toList ++ [10]) := Lib.hid (by rw [← hS10]; simp)
  have cat : ∀ w', (Go.Op.stringOp .add s ⟨#[10]⟩).run Tryd.prog w' = .ok (.string S10) w' := fun w' => by rw [run_string_add_sum (P := Tryd.prog) (w := w') _ _ (by have : (⟨#[10]⟩ : ByteArray).size = 1 := rfl; rw [this]; omega), ← hS10]
  clear hS10
  have Y0 := Lib.hid (CY.two w)
  generalize hw1 : (w.alloc (.cells (cgC zeroC).toArray 52)).alloc (.cells (cgC zeroC).toArray 52) = w1 at *
  have HW := Lib.hid hw1
  clear hw1 h
  obtain ⟨x, hx⟩ : ∃ x, strL t = x := ⟨_, rfl⟩
  have HX : Hid (x.data.toList = t) := Lib.hid (by rw [← hx]; rfl)
  rw [hx] at zt B4
  clear hx
  have c0 := Y0.out.cell 0 _ rfl
  have f0 := Y0.out.bx.free (j := 0) (by decide)
  have Y1 := Lib.hid (Y0.out.one 0 (.int .u8 4) ⟨4, zeroG, zeroG, 0⟩ (by decide) rfl)
  clear Y0
  have PA := Lib.hid (fun (x : ByteArray) w' h => Dw.rparse_any x w' h)
  have HA := Lib.hid (fun (x : ByteArray) w' h => halves_any x w' h)
  have NU := Lib.hid (fun (x : ByteArray) w' h => rnumber_any x w' h)
  go_enter Tryd.func19, Tryd.ntmps19
  go_upto_region 2 with fail
  rw [show (w.alloc (.cells #[.int .u8 0, .int .i64 0, .int .i64 0, .int .u8 0, .int .u8 0, .int .i64 0, .int .i64 0, .int .i64 0, .int .u8 0, .int .u8 0, .int .i64 0, .int .i64 0] 52)).alloc (.cells #[.int .u8 0, .int .i64 0, .int .i64 0, .int .u8 0, .int .u8 0, .int .i64 0, .int .i64 0, .int .i64 0, .int .u8 0, .int .u8 0, .int .i64 0, .int .i64 0] 52) = w1 from HW.out]
  go_wp2_with fail
  refine (B1.out _).mono ?_
  rintro e w' ⟨rfl, rfl⟩
  clear B1
  go_wp2_with fail
  refine (B2.out _).mono ?_
  rintro e w' ⟨rfl, rfl⟩
  clear B2
  go_wp2_with fail
  refine (B3.out _).mono ?_
  rintro e w' ⟨rfl, rfl⟩
  clear B3
  go_wp2_with fail
  refine (B4.out _).mono ?_
  rintro e w' ⟨rfl, rfl⟩
  clear B4
  go_wp2_with fail
  generalize (w1.setCell ⟨w.heap.size + 1, 0, none⟩ (.int .u8 4)) = wk at *
  clear c0 f0
  refine (NU.out x _ (by omega)).mono ?_
  rintro e wp ⟨n, rfl, hn, n0, n1, rfl⟩
  have c11 := Y1.out.cell 11 _ rfl
  have f11 := Y1.out.bx.free (j := 11) (by decide)
  have Y5 := Lib.hid (Y1.out.one 11 (.int .i64 n) ⟨4, zeroG, zeroG, n⟩ (by decide) rfl)
  have RC := Lib.hid (cand_4 HL.out (by rw [← HX.out]; exact hn))
  clear Y1 hn PA HA NU
  go_upto_region 18 with fail
  generalize (wk.setCell ⟨w.heap.size + 1, 11, none⟩ (.int .i64 n)) = wq at *
  have Y := Y5
  clear Y5 c11 f11
  obtain ⟨c, hc⟩ : ∃ c, (⟨4, zeroG, zeroG, n⟩ : Cg) = c := ⟨_, rfl⟩
  have CBX : Hid (CB c) := Lib.hid (by
    rw [← hc]
    exact ⟨(show (0 : Int) ≤ 4 by decide), (show (4 : Int) < 256 by decide), (by decide : (0 ≤ (zeroG).h ∧ (zeroG).h < 256) ∧ (0 ≤ (zeroG).s ∧ (zeroG).s < 256)).1, (by decide : (0 ≤ (zeroG).h ∧ (zeroG).h < 256) ∧ (0 ≤ (zeroG).s ∧ (zeroG).s < 256)).2, (by decide : (0 ≤ (zeroG).h ∧ (zeroG).h < 256) ∧ (0 ≤ (zeroG).s ∧ (zeroG).s < 256)).1, (by decide : (0 ≤ (zeroG).h ∧ (zeroG).h < 256) ∧ (0 ≤ (zeroG).s ∧ (zeroG).s < 256)).2, (show (-9223372036854775808 : Int) ≤ n by omega), n1⟩)
  rw [hc] at Y RC
  clear hc n0 n1
  have CK := Lib.hid (fun w' => rmcheck_any c w' CBX.out)
  by_cases ok : okC c
  · replace CK := Lib.hid (fun w' => (CK.out w').mono (fun e w'' (h : ChkPost c w' e w'') => show e = .returned (.int .i64 0) ∧ Below w'.heap.size w' w'' from by
      obtain ⟨⟨r, h1, h2⟩, hb⟩ := h
      rcases h2 with ⟨_, h2⟩ | ⟨h2, _⟩
      · exact ⟨by rw [h1, h2], hb⟩
      · exact absurd ok h2))
    have LI := Lib.hid (fun w' => rline_any c w' CBX.out ok)
    by_cases eq : lineC c = s.data.toList
    · have EQ : Hid (∀ t : ByteArray, t.data.toList = lineC c ++ [10] → (t.toList == S10.toList) = true) := Lib.hid (fun t ht => by rw [Lib.toList_data, Lib.toList_data, S10L.out, ht, eq]; exact beq_self_eq_true _)
      have RD : Hid (RdIs s.data.toList c 0) := Lib.hid (RCand.yes ok eq)
      clear ok eq RC S10L
      refine wp_region_held_drew (S := fun wx => ∃ r, CZ w (w.heap.size + 1) r c wx) (by kernel_rfl) ⟨_, (CZ.of Y.out).call (Below.refl _ _).drew⟩ (fun hHeld => ?_)
      clear Y
      refine wpAnyH_take (i := 0) (oi := ?oi0y) (v := ?v0y) ?hi0y (by kernel_rfl) (by kernel_rfl) (by kernel_rfl) ?hq0y ?hy0y hHeld ?rest0y
      case hi0y => ((try simp only [List.getElem?_toArray, List.getElem?_cons_succ, List.getElem?_cons_zero]); (try rfl))
      case hq0y => exact fun _ _ _ h => h
      case hy0y => exact Or.inl ⟨by rfl, by intro w hSw; obtain ⟨_, hc⟩ := hSw; have c0 := hc.cell 0 (.int .u8 c.k) rfl; have c1 := hc.cell 1 (.int .i64 c.a.n) rfl; have c2 := hc.cell 2 (.int .i64 c.a.y) rfl; have c3 := hc.cell 3 (.int .u8 c.a.h) rfl; have c4 := hc.cell 4 (.int .u8 c.a.s) rfl; have c5 := hc.cell 5 (.int .i64 c.a.c) rfl; have c6 := hc.cell 6 (.int .i64 c.b.n) rfl; have c7 := hc.cell 7 (.int .i64 c.b.y) rfl; have c8 := hc.cell 8 (.int .u8 c.b.h) rfl; have c9 := hc.cell 9 (.int .u8 c.b.s) rfl; have c10 := hc.cell 10 (.int .i64 c.b.c) rfl; have c11 := hc.cell 11 (.int .i64 c.n) rfl; clear hc; go_simp; try with_reducible rfl⟩
      try simp only [Act.put, List.setIfInBounds_toArray, List.set_cons_zero, List.set_cons_succ]
      refine wpAnyH_take (i := 1) (oi := ?oi1y) (v := ?v1y) ?hi1y (by kernel_rfl) (by kernel_rfl) (by kernel_rfl) ?hq1y ?hy1y hHeld ?rest1y
      case hi1y => ((try simp only [List.getElem?_toArray, List.getElem?_cons_succ, List.getElem?_cons_zero]); (try rfl))
      case hq1y => exact fun _ _ _ h => h
      case hy1y => exact Or.inl ⟨by rfl, by intro w hSw; obtain ⟨_, hc⟩ := hSw; have c0 := hc.cell 0 (.int .u8 c.k) rfl; have c1 := hc.cell 1 (.int .i64 c.a.n) rfl; have c2 := hc.cell 2 (.int .i64 c.a.y) rfl; have c3 := hc.cell 3 (.int .u8 c.a.h) rfl; have c4 := hc.cell 4 (.int .u8 c.a.s) rfl; have c5 := hc.cell 5 (.int .i64 c.a.c) rfl; have c6 := hc.cell 6 (.int .i64 c.b.n) rfl; have c7 := hc.cell 7 (.int .i64 c.b.y) rfl; have c8 := hc.cell 8 (.int .u8 c.b.h) rfl; have c9 := hc.cell 9 (.int .u8 c.b.s) rfl; have c10 := hc.cell 10 (.int .i64 c.b.c) rfl; have c11 := hc.cell 11 (.int .i64 c.n) rfl; clear hc; go_simp; try with_reducible rfl⟩
      try simp only [Act.put, List.setIfInBounds_toArray, List.set_cons_zero, List.set_cons_succ]
      refine wpAnyH_ready (rs := [2]) (by kernel_rfl) (by simp) ?_
      refine AllReadyH.cons rfl (fun K' hK => ?_) AllReadyH.nil
      have H1 := Lib.hid hHeld
      clear hHeld
      go_simp
      refine (CK.out _).mono ?_
      rintro e wx ⟨rfl, hb⟩
      replace H1 : Hid (∃ r, CZ w (w.heap.size + 1) r c wx) := Lib.hid (H1.out.elim fun r h => ⟨r, h.call hb⟩)
      refine hK.out _ _ H1.out (fun hHeld => ?_)
      clear hK H1 hb
      try simp only [Act.put, List.setIfInBounds_toArray, List.set_cons_zero, List.set_cons_succ]
      refine wpAnyH_take (i := 3) (oi := ?oi3y) (v := ?v3y) ?hi3y (by kernel_rfl) (by kernel_rfl) (by kernel_rfl) ?hq3y ?hy3y hHeld ?rest3y
      case hi3y => ((try simp only [List.getElem?_toArray, List.getElem?_cons_succ, List.getElem?_cons_zero]); (try rfl))
      case hq3y => exact fun _ _ _ h => h
      case hy3y => exact Or.inl ⟨by rfl, by intro w hSw; clear hSw; go_simp; try with_reducible rfl⟩
      try simp only [Act.put, List.setIfInBounds_toArray, List.set_cons_zero, List.set_cons_succ]
      refine wpAnyH_take (i := 4) (oi := ?oi4y) (v := ?v4y) ?hi4y (by kernel_rfl) (by kernel_rfl) (by kernel_rfl) ?hq4y ?hy4y hHeld ?rest4y
      case hi4y => ((try simp only [List.getElem?_toArray, List.getElem?_cons_succ, List.getElem?_cons_zero]); (try rfl))
      case hq4y => exact fun _ _ _ h => h
      case hy4y => exact Or.inl ⟨by rfl, by intro w hSw; clear hSw; go_simp; try with_reducible rfl⟩
      try simp only [Act.put, List.setIfInBounds_toArray, List.set_cons_zero, List.set_cons_succ]
      refine wpAnyH_take (i := 5) (oi := ?oi5y) (v := ?v5y) ?hi5y (by kernel_rfl) (by kernel_rfl) (by kernel_rfl) ?hq5y ?hy5y hHeld ?rest5y
      case hi5y => ((try simp only [List.getElem?_toArray, List.getElem?_cons_succ, List.getElem?_cons_zero]); (try rfl))
      case hq5y => exact fun _ _ _ h => h
      case hy5y => exact Or.inl ⟨by rfl, by intro w hSw; obtain ⟨_, hc⟩ := hSw; have c0 := hc.cell 0 (.int .u8 c.k) rfl; have c1 := hc.cell 1 (.int .i64 c.a.n) rfl; have c2 := hc.cell 2 (.int .i64 c.a.y) rfl; have c3 := hc.cell 3 (.int .u8 c.a.h) rfl; have c4 := hc.cell 4 (.int .u8 c.a.s) rfl; have c5 := hc.cell 5 (.int .i64 c.a.c) rfl; have c6 := hc.cell 6 (.int .i64 c.b.n) rfl; have c7 := hc.cell 7 (.int .i64 c.b.y) rfl; have c8 := hc.cell 8 (.int .u8 c.b.h) rfl; have c9 := hc.cell 9 (.int .u8 c.b.s) rfl; have c10 := hc.cell 10 (.int .i64 c.b.c) rfl; have c11 := hc.cell 11 (.int .i64 c.n) rfl; clear hc; go_simp; try with_reducible rfl⟩
      try simp only [Act.put, List.setIfInBounds_toArray, List.set_cons_zero, List.set_cons_succ]
      refine wpAnyH_take (i := 7) (oi := ?oi7y) (v := ?v7y) ?hi7y (by kernel_rfl) (by kernel_rfl) (by kernel_rfl) ?hq7y ?hy7y hHeld ?rest7y
      case hi7y => ((try simp only [List.getElem?_toArray, List.getElem?_cons_succ, List.getElem?_cons_zero]); (try rfl))
      case hq7y => exact fun _ _ _ h => h
      case hy7y => exact Or.inl ⟨by rfl, by intro w hSw; clear hSw; go_simp; try with_reducible rfl⟩
      try simp only [Act.put, List.setIfInBounds_toArray, List.set_cons_zero, List.set_cons_succ]
      refine wpAnyH_take (i := 8) (oi := ?oi8y) (v := ?v8y) ?hi8y (by kernel_rfl) (by kernel_rfl) (by kernel_rfl) ?hq8y ?hy8y hHeld ?rest8y
      case hi8y => ((try simp only [List.getElem?_toArray, List.getElem?_cons_succ, List.getElem?_cons_zero]); (try rfl))
      case hq8y => exact fun _ _ _ h => h
      case hy8y => exact Or.inl ⟨by rfl, by intro w hSw; clear hSw; go_simp; try with_reducible rfl⟩
      try simp only [Act.put, List.setIfInBounds_toArray, List.set_cons_zero, List.set_cons_succ]
      refine wpAnyH_ready (rs := [6]) (by kernel_rfl) (by simp) ?_
      refine AllReadyH.cons rfl (fun K' hK => ?_) AllReadyH.nil
      have H1 := Lib.hid hHeld
      clear hHeld
      go_simp
      refine (LI.out _).mono ?_
      rintro e wx ⟨t, rfl, ht, zt, hb⟩
      replace H1 : Hid (∃ r, CZ w (w.heap.size + 1) r c wx) := Lib.hid (H1.out.elim fun r h => ⟨r, h.call hb⟩)
      have f1 := EQ.out t ht
      clear ht zt
      refine hK.out _ _ H1.out (fun hHeld => ?_)
      clear hK H1 hb
      try simp only [Act.put, List.setIfInBounds_toArray, List.set_cons_zero, List.set_cons_succ]
      refine wpAnyH_take (i := 9) (oi := ?oi9y) (v := ?v9y) ?hi9y (by kernel_rfl) (by kernel_rfl) (by kernel_rfl) ?hq9y ?hy9y hHeld ?rest9y
      case hi9y => ((try simp only [List.getElem?_toArray, List.getElem?_cons_succ, List.getElem?_cons_zero]); (try rfl))
      case hq9y => exact fun _ _ _ h => h
      case hy9y => exact Or.inl ⟨by rfl, by intro w hSw; clear hSw; go_simp; try with_reducible rfl⟩
      try simp only [Act.put, List.setIfInBounds_toArray, List.set_cons_zero, List.set_cons_succ]
      refine wpAnyH_take (i := 10) (oi := ?oi10y) (v := ?v10y) ?hi10y (by kernel_rfl) (by kernel_rfl) (by kernel_rfl) ?hq10y ?hy10y hHeld ?rest10y
      case hi10y => ((try simp only [List.getElem?_toArray, List.getElem?_cons_succ, List.getElem?_cons_zero]); (try rfl))
      case hq10y => exact fun _ _ _ h => h
      case hy10y => exact Or.inl ⟨by rfl, by intro w hSw; clear hSw; go_simp; try with_reducible rfl⟩
      try simp only [Act.put, List.setIfInBounds_toArray, List.set_cons_zero, List.set_cons_succ]
      refine wpAnyH_ready (rs := [11]) (by kernel_rfl) (by simp) ?_
      refine AllReadyH.cons rfl (fun K' hK => ?_) AllReadyH.nil
      rw [if_pos (by rfl)]
      obtain ⟨r, hr⟩ := hHeld
      have TH := hr.res.th
      have HZ := Lib.hid (hr.sets)
      clear hr
      refine wp_store_mid _ _ _ rfl w.heap.size 0 (cgC c).toArray rfl rfl TH infoCg (cgone c) ?_
      rw [List.toList_toArray]
      refine hK.out _ _ ⟨c, HZ.out⟩ (fun hHeld => ?_)
      clear hK TH
      generalize World.setCells _ w.heap.size 0 (cgC c) = w6 at *
      try simp only [Act.put, List.setIfInBounds_toArray, List.set_cons_zero, List.set_cons_succ]
      refine wpAnyH_take (i := 12) (oi := ?oi12y) (v := ?v12y) ?hi12y (by kernel_rfl) (by kernel_rfl) (by kernel_rfl) ?hq12y ?hy12y hHeld ?rest12y
      case hi12y => ((try simp only [List.getElem?_toArray, List.getElem?_cons_succ, List.getElem?_cons_zero]); (try rfl))
      case hq12y => exact fun _ _ _ h => h
      case hy12y => exact Or.inl ⟨by rfl, by intro w hSw; clear hSw; go_simp; try with_reducible rfl⟩
      try simp only [Act.put, List.setIfInBounds_toArray, List.set_cons_zero, List.set_cons_succ]
      refine wpAnyH_done (by kernel_rfl) ?_ _
      clear hHeld
      go_wp2_with fail
      exact bodyPost_ret (ret_cell_tmp Tryd.results19 _ _ w.heap.size (cgC c) _ rfl HZ.out.res.row Tryd.underlying52 rfl infoCg) rfl ⟨c, true, rfl, fun _ => RD.out, (fun h => by cases h), CBX.out, HZ.out.below⟩
    · have EQ : Hid (∀ t : ByteArray, t.data.toList = lineC c ++ [10] → (t.toList == S10.toList) = false) := Lib.hid (fun t ht => beq_eq_false_iff_ne.2 (by rw [Lib.toList_data, Lib.toList_data, S10L.out, ht]; exact fun e => eq (List.append_cancel_right e)))
      have RD : Hid (RdIs s.data.toList zeroC 12) := Lib.hid (RC.out.no (fun h => eq h.2))
      clear ok eq RC S10L
      refine wp_region_held_drew (S := fun wx => ∃ r, CZ w (w.heap.size + 1) r c wx) (by kernel_rfl) ⟨_, (CZ.of Y.out).call (Below.refl _ _).drew⟩ (fun hHeld => ?_)
      clear Y
      refine wpAnyH_take (i := 0) (oi := ?oi0o) (v := ?v0o) ?hi0o (by kernel_rfl) (by kernel_rfl) (by kernel_rfl) ?hq0o ?hy0o hHeld ?rest0o
      case hi0o => ((try simp only [List.getElem?_toArray, List.getElem?_cons_succ, List.getElem?_cons_zero]); (try rfl))
      case hq0o => exact fun _ _ _ h => h
      case hy0o => exact Or.inl ⟨by rfl, by intro w hSw; obtain ⟨_, hc⟩ := hSw; have c0 := hc.cell 0 (.int .u8 c.k) rfl; have c1 := hc.cell 1 (.int .i64 c.a.n) rfl; have c2 := hc.cell 2 (.int .i64 c.a.y) rfl; have c3 := hc.cell 3 (.int .u8 c.a.h) rfl; have c4 := hc.cell 4 (.int .u8 c.a.s) rfl; have c5 := hc.cell 5 (.int .i64 c.a.c) rfl; have c6 := hc.cell 6 (.int .i64 c.b.n) rfl; have c7 := hc.cell 7 (.int .i64 c.b.y) rfl; have c8 := hc.cell 8 (.int .u8 c.b.h) rfl; have c9 := hc.cell 9 (.int .u8 c.b.s) rfl; have c10 := hc.cell 10 (.int .i64 c.b.c) rfl; have c11 := hc.cell 11 (.int .i64 c.n) rfl; clear hc; go_simp; try with_reducible rfl⟩
      try simp only [Act.put, List.setIfInBounds_toArray, List.set_cons_zero, List.set_cons_succ]
      refine wpAnyH_take (i := 1) (oi := ?oi1o) (v := ?v1o) ?hi1o (by kernel_rfl) (by kernel_rfl) (by kernel_rfl) ?hq1o ?hy1o hHeld ?rest1o
      case hi1o => ((try simp only [List.getElem?_toArray, List.getElem?_cons_succ, List.getElem?_cons_zero]); (try rfl))
      case hq1o => exact fun _ _ _ h => h
      case hy1o => exact Or.inl ⟨by rfl, by intro w hSw; obtain ⟨_, hc⟩ := hSw; have c0 := hc.cell 0 (.int .u8 c.k) rfl; have c1 := hc.cell 1 (.int .i64 c.a.n) rfl; have c2 := hc.cell 2 (.int .i64 c.a.y) rfl; have c3 := hc.cell 3 (.int .u8 c.a.h) rfl; have c4 := hc.cell 4 (.int .u8 c.a.s) rfl; have c5 := hc.cell 5 (.int .i64 c.a.c) rfl; have c6 := hc.cell 6 (.int .i64 c.b.n) rfl; have c7 := hc.cell 7 (.int .i64 c.b.y) rfl; have c8 := hc.cell 8 (.int .u8 c.b.h) rfl; have c9 := hc.cell 9 (.int .u8 c.b.s) rfl; have c10 := hc.cell 10 (.int .i64 c.b.c) rfl; have c11 := hc.cell 11 (.int .i64 c.n) rfl; clear hc; go_simp; try with_reducible rfl⟩
      try simp only [Act.put, List.setIfInBounds_toArray, List.set_cons_zero, List.set_cons_succ]
      refine wpAnyH_ready (rs := [2]) (by kernel_rfl) (by simp) ?_
      refine AllReadyH.cons rfl (fun K' hK => ?_) AllReadyH.nil
      have H1 := Lib.hid hHeld
      clear hHeld
      go_simp
      refine (CK.out _).mono ?_
      rintro e wx ⟨rfl, hb⟩
      replace H1 : Hid (∃ r, CZ w (w.heap.size + 1) r c wx) := Lib.hid (H1.out.elim fun r h => ⟨r, h.call hb⟩)
      refine hK.out _ _ H1.out (fun hHeld => ?_)
      clear hK H1 hb
      try simp only [Act.put, List.setIfInBounds_toArray, List.set_cons_zero, List.set_cons_succ]
      refine wpAnyH_take (i := 3) (oi := ?oi3o) (v := ?v3o) ?hi3o (by kernel_rfl) (by kernel_rfl) (by kernel_rfl) ?hq3o ?hy3o hHeld ?rest3o
      case hi3o => ((try simp only [List.getElem?_toArray, List.getElem?_cons_succ, List.getElem?_cons_zero]); (try rfl))
      case hq3o => exact fun _ _ _ h => h
      case hy3o => exact Or.inl ⟨by rfl, by intro w hSw; clear hSw; go_simp; try with_reducible rfl⟩
      try simp only [Act.put, List.setIfInBounds_toArray, List.set_cons_zero, List.set_cons_succ]
      refine wpAnyH_take (i := 4) (oi := ?oi4o) (v := ?v4o) ?hi4o (by kernel_rfl) (by kernel_rfl) (by kernel_rfl) ?hq4o ?hy4o hHeld ?rest4o
      case hi4o => ((try simp only [List.getElem?_toArray, List.getElem?_cons_succ, List.getElem?_cons_zero]); (try rfl))
      case hq4o => exact fun _ _ _ h => h
      case hy4o => exact Or.inl ⟨by rfl, by intro w hSw; clear hSw; go_simp; try with_reducible rfl⟩
      try simp only [Act.put, List.setIfInBounds_toArray, List.set_cons_zero, List.set_cons_succ]
      refine wpAnyH_take (i := 5) (oi := ?oi5o) (v := ?v5o) ?hi5o (by kernel_rfl) (by kernel_rfl) (by kernel_rfl) ?hq5o ?hy5o hHeld ?rest5o
      case hi5o => ((try simp only [List.getElem?_toArray, List.getElem?_cons_succ, List.getElem?_cons_zero]); (try rfl))
      case hq5o => exact fun _ _ _ h => h
      case hy5o => exact Or.inl ⟨by rfl, by intro w hSw; obtain ⟨_, hc⟩ := hSw; have c0 := hc.cell 0 (.int .u8 c.k) rfl; have c1 := hc.cell 1 (.int .i64 c.a.n) rfl; have c2 := hc.cell 2 (.int .i64 c.a.y) rfl; have c3 := hc.cell 3 (.int .u8 c.a.h) rfl; have c4 := hc.cell 4 (.int .u8 c.a.s) rfl; have c5 := hc.cell 5 (.int .i64 c.a.c) rfl; have c6 := hc.cell 6 (.int .i64 c.b.n) rfl; have c7 := hc.cell 7 (.int .i64 c.b.y) rfl; have c8 := hc.cell 8 (.int .u8 c.b.h) rfl; have c9 := hc.cell 9 (.int .u8 c.b.s) rfl; have c10 := hc.cell 10 (.int .i64 c.b.c) rfl; have c11 := hc.cell 11 (.int .i64 c.n) rfl; clear hc; go_simp; try with_reducible rfl⟩
      try simp only [Act.put, List.setIfInBounds_toArray, List.set_cons_zero, List.set_cons_succ]
      refine wpAnyH_take (i := 7) (oi := ?oi7o) (v := ?v7o) ?hi7o (by kernel_rfl) (by kernel_rfl) (by kernel_rfl) ?hq7o ?hy7o hHeld ?rest7o
      case hi7o => ((try simp only [List.getElem?_toArray, List.getElem?_cons_succ, List.getElem?_cons_zero]); (try rfl))
      case hq7o => exact fun _ _ _ h => h
      case hy7o => exact Or.inl ⟨by rfl, by intro w hSw; clear hSw; go_simp; try with_reducible rfl⟩
      try simp only [Act.put, List.setIfInBounds_toArray, List.set_cons_zero, List.set_cons_succ]
      refine wpAnyH_take (i := 8) (oi := ?oi8o) (v := ?v8o) ?hi8o (by kernel_rfl) (by kernel_rfl) (by kernel_rfl) ?hq8o ?hy8o hHeld ?rest8o
      case hi8o => ((try simp only [List.getElem?_toArray, List.getElem?_cons_succ, List.getElem?_cons_zero]); (try rfl))
      case hq8o => exact fun _ _ _ h => h
      case hy8o => exact Or.inl ⟨by rfl, by intro w hSw; clear hSw; go_simp; try with_reducible rfl⟩
      try simp only [Act.put, List.setIfInBounds_toArray, List.set_cons_zero, List.set_cons_succ]
      refine wpAnyH_ready (rs := [6]) (by kernel_rfl) (by simp) ?_
      refine AllReadyH.cons rfl (fun K' hK => ?_) AllReadyH.nil
      have H1 := Lib.hid hHeld
      clear hHeld
      go_simp
      refine (LI.out _).mono ?_
      rintro e wx ⟨t, rfl, ht, zt, hb⟩
      replace H1 : Hid (∃ r, CZ w (w.heap.size + 1) r c wx) := Lib.hid (H1.out.elim fun r h => ⟨r, h.call hb⟩)
      have f1 := EQ.out t ht
      clear ht zt
      refine hK.out _ _ H1.out (fun hHeld => ?_)
      clear hK H1 hb
      try simp only [Act.put, List.setIfInBounds_toArray, List.set_cons_zero, List.set_cons_succ]
      refine wpAnyH_take (i := 9) (oi := ?oi9o) (v := ?v9o) ?hi9o (by kernel_rfl) (by kernel_rfl) (by kernel_rfl) ?hq9o ?hy9o hHeld ?rest9o
      case hi9o => ((try simp only [List.getElem?_toArray, List.getElem?_cons_succ, List.getElem?_cons_zero]); (try rfl))
      case hq9o => exact fun _ _ _ h => h
      case hy9o => exact Or.inl ⟨by rfl, by intro w hSw; clear hSw; go_simp; try with_reducible rfl⟩
      try simp only [Act.put, List.setIfInBounds_toArray, List.set_cons_zero, List.set_cons_succ]
      refine wpAnyH_take (i := 10) (oi := ?oi10o) (v := ?v10o) ?hi10o (by kernel_rfl) (by kernel_rfl) (by kernel_rfl) ?hq10o ?hy10o hHeld ?rest10o
      case hi10o => ((try simp only [List.getElem?_toArray, List.getElem?_cons_succ, List.getElem?_cons_zero]); (try rfl))
      case hq10o => exact fun _ _ _ h => h
      case hy10o => exact Or.inl ⟨by rfl, by intro w hSw; clear hSw; go_simp; try with_reducible rfl⟩
      try simp only [Act.put, List.setIfInBounds_toArray, List.set_cons_zero, List.set_cons_succ]
      refine wpAnyH_ready (rs := [11]) (by kernel_rfl) (by simp) ?_
      refine AllReadyH.cons rfl (fun K' hK => ?_) AllReadyH.nil
      rw [if_pos (by rfl)]
      obtain ⟨r, hr⟩ := hHeld
      have TH := hr.res.th
      have HZ := Lib.hid (hr.sets)
      clear hr
      refine wp_store_mid _ _ _ rfl w.heap.size 0 (cgC c).toArray rfl rfl TH infoCg (cgone c) ?_
      rw [List.toList_toArray]
      refine hK.out _ _ ⟨c, HZ.out⟩ (fun hHeld => ?_)
      clear hK TH
      generalize World.setCells _ w.heap.size 0 (cgC c) = w6 at *
      try simp only [Act.put, List.setIfInBounds_toArray, List.set_cons_zero, List.set_cons_succ]
      refine wpAnyH_take (i := 12) (oi := ?oi12o) (v := ?v12o) ?hi12o (by kernel_rfl) (by kernel_rfl) (by kernel_rfl) ?hq12o ?hy12o hHeld ?rest12o
      case hi12o => ((try simp only [List.getElem?_toArray, List.getElem?_cons_succ, List.getElem?_cons_zero]); (try rfl))
      case hq12o => exact fun _ _ _ h => h
      case hy12o => exact Or.inl ⟨by rfl, by intro w hSw; clear hSw; go_simp; try with_reducible rfl⟩
      try simp only [Act.put, List.setIfInBounds_toArray, List.set_cons_zero, List.set_cons_succ]
      refine wpAnyH_done (by kernel_rfl) ?_ _
      clear hHeld
      go_wp2_with fail
      exact bodyPost_ret (ret_cell_tmp Tryd.results19 _ _ w.heap.size (cgC c) _ rfl HZ.out.res.row Tryd.underlying52 rfl infoCg) rfl ⟨c, false, rfl, (fun h => by cases h), fun _ => RD.out, CBX.out, HZ.out.below⟩
  · replace CK := Lib.hid (fun w' => (CK.out w').mono (fun e w'' (h : ChkPost c w' e w'') => show e = .returned (.int .i64 8) ∧ Below w'.heap.size w' w'' from by
      obtain ⟨⟨r, h1, h2⟩, hb⟩ := h
      rcases h2 with ⟨h2, _⟩ | ⟨_, h2⟩
      · exact absurd h2 ok
      · exact ⟨by rw [h1, h2], hb⟩))
    have RD : Hid (RdIs s.data.toList zeroC 12) := Lib.hid (RC.out.no (fun h => ok h.1))
    clear ok RC S10L cat
    refine wp_region_held_drew (S := fun wx => ∃ r, CZ w (w.heap.size + 1) r c wx) (by kernel_rfl) ⟨_, (CZ.of Y.out).call (Below.refl _ _).drew⟩ (fun hHeld => ?_)
    clear Y
    refine wpAnyH_take (i := 0) (oi := ?oi0n) (v := ?v0n) ?hi0n (by kernel_rfl) (by kernel_rfl) (by kernel_rfl) ?hq0n ?hy0n hHeld ?rest0n
    case hi0n => ((try simp only [List.getElem?_toArray, List.getElem?_cons_succ, List.getElem?_cons_zero]); (try rfl))
    case hq0n => exact fun _ _ _ h => h
    case hy0n => exact Or.inl ⟨by rfl, by intro w hSw; obtain ⟨_, hc⟩ := hSw; have c0 := hc.cell 0 (.int .u8 c.k) rfl; have c1 := hc.cell 1 (.int .i64 c.a.n) rfl; have c2 := hc.cell 2 (.int .i64 c.a.y) rfl; have c3 := hc.cell 3 (.int .u8 c.a.h) rfl; have c4 := hc.cell 4 (.int .u8 c.a.s) rfl; have c5 := hc.cell 5 (.int .i64 c.a.c) rfl; have c6 := hc.cell 6 (.int .i64 c.b.n) rfl; have c7 := hc.cell 7 (.int .i64 c.b.y) rfl; have c8 := hc.cell 8 (.int .u8 c.b.h) rfl; have c9 := hc.cell 9 (.int .u8 c.b.s) rfl; have c10 := hc.cell 10 (.int .i64 c.b.c) rfl; have c11 := hc.cell 11 (.int .i64 c.n) rfl; clear hc; go_simp; try with_reducible rfl⟩
    try simp only [Act.put, List.setIfInBounds_toArray, List.set_cons_zero, List.set_cons_succ]
    refine wpAnyH_take (i := 1) (oi := ?oi1n) (v := ?v1n) ?hi1n (by kernel_rfl) (by kernel_rfl) (by kernel_rfl) ?hq1n ?hy1n hHeld ?rest1n
    case hi1n => ((try simp only [List.getElem?_toArray, List.getElem?_cons_succ, List.getElem?_cons_zero]); (try rfl))
    case hq1n => exact fun _ _ _ h => h
    case hy1n => exact Or.inl ⟨by rfl, by intro w hSw; obtain ⟨_, hc⟩ := hSw; have c0 := hc.cell 0 (.int .u8 c.k) rfl; have c1 := hc.cell 1 (.int .i64 c.a.n) rfl; have c2 := hc.cell 2 (.int .i64 c.a.y) rfl; have c3 := hc.cell 3 (.int .u8 c.a.h) rfl; have c4 := hc.cell 4 (.int .u8 c.a.s) rfl; have c5 := hc.cell 5 (.int .i64 c.a.c) rfl; have c6 := hc.cell 6 (.int .i64 c.b.n) rfl; have c7 := hc.cell 7 (.int .i64 c.b.y) rfl; have c8 := hc.cell 8 (.int .u8 c.b.h) rfl; have c9 := hc.cell 9 (.int .u8 c.b.s) rfl; have c10 := hc.cell 10 (.int .i64 c.b.c) rfl; have c11 := hc.cell 11 (.int .i64 c.n) rfl; clear hc; go_simp; try with_reducible rfl⟩
    try simp only [Act.put, List.setIfInBounds_toArray, List.set_cons_zero, List.set_cons_succ]
    refine wpAnyH_ready (rs := [2]) (by kernel_rfl) (by simp) ?_
    refine AllReadyH.cons rfl (fun K' hK => ?_) AllReadyH.nil
    have H1 := Lib.hid hHeld
    clear hHeld
    go_simp
    refine (CK.out _).mono ?_
    rintro e wx ⟨rfl, hb⟩
    replace H1 : Hid (∃ r, CZ w (w.heap.size + 1) r c wx) := Lib.hid (H1.out.elim fun r h => ⟨r, h.call hb⟩)
    refine hK.out _ _ H1.out (fun hHeld => ?_)
    clear hK H1 hb
    try simp only [Act.put, List.setIfInBounds_toArray, List.set_cons_zero, List.set_cons_succ]
    refine wpAnyH_take (i := 3) (oi := ?oi3n) (v := ?v3n) ?hi3n (by kernel_rfl) (by kernel_rfl) (by kernel_rfl) ?hq3n ?hy3n hHeld ?rest3n
    case hi3n => ((try simp only [List.getElem?_toArray, List.getElem?_cons_succ, List.getElem?_cons_zero]); (try rfl))
    case hq3n => exact fun _ _ _ h => h
    case hy3n => exact Or.inl ⟨by rfl, by intro w hSw; clear hSw; go_simp; try with_reducible rfl⟩
    try simp only [Act.put, List.setIfInBounds_toArray, List.set_cons_zero, List.set_cons_succ]
    refine wpAnyH_take (i := 4) (oi := ?oi4n) (v := ?v4n) ?hi4n (by kernel_rfl) (by kernel_rfl) (by kernel_rfl) ?hq4n ?hy4n hHeld ?rest4n
    case hi4n => ((try simp only [List.getElem?_toArray, List.getElem?_cons_succ, List.getElem?_cons_zero]); (try rfl))
    case hq4n => exact fun _ _ _ h => h
    case hy4n => exact Or.inl ⟨by rfl, by intro w hSw; clear hSw; go_simp; try with_reducible rfl⟩
    try simp only [Act.put, List.setIfInBounds_toArray, List.set_cons_zero, List.set_cons_succ]
    refine wpAnyH_take (i := 5) (oi := ?oi5n) (v := undef) ?hi5n (by kernel_rfl) (by kernel_rfl) (by kernel_rfl) ?hq5n ?hy5n hHeld ?rest5n
    case hi5n => ((try simp only [List.getElem?_toArray, List.getElem?_cons_succ, List.getElem?_cons_zero]); (try rfl))
    case hq5n => exact fun _ _ _ h => h
    case hy5n => exact Or.inr ⟨by rfl, rfl⟩
    try simp only [Act.put, List.setIfInBounds_toArray, List.set_cons_zero, List.set_cons_succ]
    refine wpAnyH_take (i := 6) (oi := ?oi6n) (v := undef) ?hi6n (by kernel_rfl) (by kernel_rfl) (by kernel_rfl) ?hq6n ?hy6n hHeld ?rest6n
    case hi6n => ((try simp only [List.getElem?_toArray, List.getElem?_cons_succ, List.getElem?_cons_zero]); (try rfl))
    case hq6n => exact fun _ _ _ h => h
    case hy6n => exact Or.inr ⟨by rfl, rfl⟩
    try simp only [Act.put, List.setIfInBounds_toArray, List.set_cons_zero, List.set_cons_succ]
    refine wpAnyH_take (i := 7) (oi := ?oi7n) (v := undef) ?hi7n (by kernel_rfl) (by kernel_rfl) (by kernel_rfl) ?hq7n ?hy7n hHeld ?rest7n
    case hi7n => ((try simp only [List.getElem?_toArray, List.getElem?_cons_succ, List.getElem?_cons_zero]); (try rfl))
    case hq7n => exact fun _ _ _ h => h
    case hy7n => exact Or.inr ⟨by rfl, rfl⟩
    try simp only [Act.put, List.setIfInBounds_toArray, List.set_cons_zero, List.set_cons_succ]
    refine wpAnyH_take (i := 8) (oi := ?oi8n) (v := undef) ?hi8n (by kernel_rfl) (by kernel_rfl) (by kernel_rfl) ?hq8n ?hy8n hHeld ?rest8n
    case hi8n => ((try simp only [List.getElem?_toArray, List.getElem?_cons_succ, List.getElem?_cons_zero]); (try rfl))
    case hq8n => exact fun _ _ _ h => h
    case hy8n => exact Or.inr ⟨by rfl, rfl⟩
    try simp only [Act.put, List.setIfInBounds_toArray, List.set_cons_zero, List.set_cons_succ]
    refine wpAnyH_take (i := 9) (oi := ?oi9n) (v := undef) ?hi9n (by kernel_rfl) (by kernel_rfl) (by kernel_rfl) ?hq9n ?hy9n hHeld ?rest9n
    case hi9n => ((try simp only [List.getElem?_toArray, List.getElem?_cons_succ, List.getElem?_cons_zero]); (try rfl))
    case hq9n => exact fun _ _ _ h => h
    case hy9n => exact Or.inr ⟨by rfl, rfl⟩
    try simp only [Act.put, List.setIfInBounds_toArray, List.set_cons_zero, List.set_cons_succ]
    refine wpAnyH_take (i := 10) (oi := ?oi10n) (v := ?v10n) ?hi10n (by kernel_rfl) (by kernel_rfl) (by kernel_rfl) ?hq10n ?hy10n hHeld ?rest10n
    case hi10n => ((try simp only [List.getElem?_toArray, List.getElem?_cons_succ, List.getElem?_cons_zero]); (try rfl))
    case hq10n => exact fun _ _ _ h => h
    case hy10n => exact Or.inl ⟨by rfl, by intro w hSw; clear hSw; go_simp; try with_reducible rfl⟩
    try simp only [Act.put, List.setIfInBounds_toArray, List.set_cons_zero, List.set_cons_succ]
    refine wpAnyH_ready (rs := [11]) (by kernel_rfl) (by simp) ?_
    refine AllReadyH.cons rfl (fun K' hK => ?_) AllReadyH.nil
    rw [if_pos (by rfl)]
    obtain ⟨r, hr⟩ := hHeld
    have TH := hr.res.th
    have HZ := Lib.hid (hr.sets)
    clear hr
    refine wp_store_mid _ _ _ rfl w.heap.size 0 (cgC c).toArray rfl rfl TH infoCg (cgone c) ?_
    rw [List.toList_toArray]
    refine hK.out _ _ ⟨c, HZ.out⟩ (fun hHeld => ?_)
    clear hK TH
    generalize World.setCells _ w.heap.size 0 (cgC c) = w6 at *
    try simp only [Act.put, List.setIfInBounds_toArray, List.set_cons_zero, List.set_cons_succ]
    refine wpAnyH_take (i := 12) (oi := ?oi12n) (v := ?v12n) ?hi12n (by kernel_rfl) (by kernel_rfl) (by kernel_rfl) ?hq12n ?hy12n hHeld ?rest12n
    case hi12n => ((try simp only [List.getElem?_toArray, List.getElem?_cons_succ, List.getElem?_cons_zero]); (try rfl))
    case hq12n => exact fun _ _ _ h => h
    case hy12n => exact Or.inl ⟨by rfl, by intro w hSw; clear hSw; go_simp; try with_reducible rfl⟩
    try simp only [Act.put, List.setIfInBounds_toArray, List.set_cons_zero, List.set_cons_succ]
    refine wpAnyH_done (by kernel_rfl) ?_ _
    clear hHeld
    go_wp2_with fail
    exact bodyPost_ret (ret_cell_tmp Tryd.results19 _ _ w.heap.size (cgC c) _ rfl HZ.out.res.row Tryd.underlying52 rfl infoCg) rfl ⟨c, false, rfl, (fun h => by cases h), fun _ => RD.out, CBX.out, HZ.out.below⟩
end Cgw
end Go.Proofs.YtafeigpmldgifaaDoor
/-
  The walk of change of the reference: the ways of lines that begin with a word of the four.
-/
namespace Go.Proofs.YtafeigpmldgifaaDoor
namespace Cgw
open Go.RowKit Lw Go.Proofs.YtafeigpmldgifaaDoor.Dp Go.Proofs.YtafeigpmldgifaaDoor.Cgp Go.Proofs.YtafeigpmldgifaaDoor.Arw

theorem rchange_any (s : ByteArray) (w : World) (hs : s.size ≤ 1000) :
    Calls Tryd.prog 19 #[.string s] w (RChPost s w) := by
  rcases ways s.data.toList with ⟨t, h⟩ | ⟨t, h⟩ | ⟨t, h⟩ | ⟨t, h⟩ | ⟨h1, h2, h3, h4⟩
  · exact rchange_add s w hs t h
  · exact rchange_join s w hs t h
  · exact rchange_number s w hs t h
  · exact rchange_undo s w hs t h
  · exact rchange_none s w hs h1 h2 h3 h4
end Cgw
end Go.Proofs.YtafeigpmldgifaaDoor
