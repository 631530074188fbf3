/-
  Lemmas and walks, texts joined: OParse2, OGood2, OAny, OExact, OAlive, OGreat, OBox, ORCheck, OLaid, ORoundL, ORdPlan, ORoundM.
-/
import Derived.StillTailTactics
import Derived.LoopTactic
import Derived.RegionTactic
import Derived.BigRegion
import Derived.Test.YtgodhaphbgllhaaGreatDoorOa07
import Derived.Test.YtgodhaphbgllhaaGreatDoorOa06
import Derived.Test.YtgodhaphbgllhaaGreatDoorOa05
import Derived.Test.YtgodhaphbgllhaaGreatDoorCards
set_option linter.unusedSimpArgs false
set_option linter.unusedVariables false
/-
  The walk of Parse of package obs: the main way.
-/
namespace Go.Proofs.YtgodhaphbgllhaaGreatDoor
namespace Ow
open Go.RowKit Lw Go.Proofs.YtgodhaphbgllhaaGreatDoor.Ap Go.Proofs.YtgodhaphbgllhaaGreatDoor.Op Go.Proofs.YtgodhaphbgllhaaGreatDoor.Mp Go.Proofs.YtgodhaphbgllhaaGreatDoor.Mw Go.Proofs.YtgodhaphbgllhaaGreatDoor.At

/-- The result's box, and an observation in a box of its own. -/
structure OY (w0 : World) (b : Nat) (o : Ob) (w : World) : Prop where
  res : Res w0 w
  hb : w0.heap.size < b
  lt : b < w.heap.size
  row : w.rangeAt b 0 (obsC o)
  th : w.there b 0 8
theorem nameOf_size {s n : ByteArray} (h : NameOf s n) (h8 : s.size = 80) : n.size ≤ 7 := by
  rcases h with ⟨_, rfl, _⟩ | ⟨_, rfl, _⟩
  · exact Nat.le_trans (cutS_le _) (by rw [ByteArray.size_extract]; omega)
  · rw [ByteArray.size_extract]; omega
theorem pday_code {s : ByteArray} {t c : Int} (h : PDayIs s t c) : c = 0 ∨ c = 12 := by
  rcases h with ⟨_, _, h⟩ | ⟨_, _, h⟩
  · exact Or.inl h
  · exact Or.inr h
theorem ra_code {s : ByteArray} {t c : Int} (h : Gp.RaIs s t c) : c = 0 ∨ c = 12 := by
  rcases h with ⟨_, _, _, h⟩ | ⟨_, _, h⟩
  · exact Or.inl h
  · exact Or.inr h
theorem dec_code {s : ByteArray} {t c : Int} (h : Gp.DecIs s t c) : c = 0 ∨ c = 12 := by
  rcases h with ⟨_, _, h⟩ | ⟨_, _, h⟩
  · exact Or.inl h
  · exact Or.inr h
theorem sg_ix (n : Nat) (h : n ≤ 2) (w' : World) : (Instr.index 68 (.agg #[.int .i64 1000000, .int .i64 300000, .int .i64 100000]) (.int .i64 n)).run Tryz.prog w' = .ok (.int .i64 (sgOf n)) w' := by
  rcases (show n = 0 ∨ n = 1 ∨ n = 2 by omega) with rfl | rfl | rfl
  · kernel_rfl
  · kernel_rfl
  · kernel_rfl
theorem OY.call {w0 w w' : World} {b : Nat} {o : Ob} (h : OY w0 b o w) (hb : Below w.heap.size w w') : OY w0 b o w' := ⟨h.res.call hb, h.hb, Nat.lt_of_lt_of_le h.lt hb.size, rangeAt_below h.row hb h.lt, there_below h.th hb h.lt⟩
theorem OY.set {w0 w : World} {b : Nat} {o : Ob} (h : OY w0 b o w) (i : Nat) (v : Value) (o' : Ob) (_hi : i < 8) (e : obsC o' = (obsC o).set i v) : OY w0 b o' (w.setCell ⟨b, i, none⟩ v) := by
  have hw0 : w0.heap.size ≠ b := Nat.ne_of_lt h.hb
  have out := World.cell?_setCells_out b [v] i w
  have inn := World.cell?_setCells_in b [v] i w (fun j hj => by
    have hj : j < 1 := hj
    have := (h.th (i + j) (by omega)).1
    rwa [Nat.zero_add] at this)
  have ew : w.setCells b i [v] = w.setCell ⟨b, i, none⟩ v := rfl
  have fz : ∀ p, (w.setCell ⟨b, i, none⟩ v).frozen? p = w.frozen? p := fun p => by rw [← ew, World.frozen?_setCells]
  rw [ew] at out inn
  refine ⟨⟨?_, ?_, ?_⟩, h.hb, ?_, ?_, ?_⟩
  · exact h.res.below.setCell (p := ⟨b, i, none⟩) (Nat.le_of_lt h.hb) v
  · have := sets_size b [v] i w
    rw [ew] at this
    rw [this]; exact h.res.lt
  · intro j hj
    rw [fz, out _ (fun e => absurd e hw0)]
    exact h.res.th j hj
  · have := sets_size b [v] i w
    rw [ew] at this
    rw [this]; exact h.lt
  · intro j x hx
    rw [e] at hx
    rw [Nat.zero_add]
    by_cases hj : j = i
    · subst hj
      have hl : j < (obsC o).length := _hi
      rw [List.getElem?_set_self hl] at hx
      have := inn 0 (by show 0 < 1; omega)
      rw [Nat.add_zero] at this
      rw [this]; exact hx
    · rw [List.getElem?_set_ne (fun h => hj h.symm)] at hx
      rw [out _ (fun _ _ => by show j < i ∨ i + 1 ≤ j; omega)]
      have := h.row j x hx
      rwa [Nat.zero_add] at this
  · intro j hj
    refine ⟨?_, by rw [fz]; exact (h.th j hj).2⟩
    rw [Nat.zero_add]
    by_cases hj2 : j = i
    · subst hj2
      have := inn 0 (by show 0 < 1; omega)
      rw [Nat.add_zero] at this
      rw [this]; rfl
    · rw [out _ (fun _ _ => by show j < i ∨ i + 1 ≤ j; omega)]
      have := (h.th j hj).1
      rwa [Nat.zero_add] at this
set_option maxRecDepth 100000 in
set_option maxHeartbeats 16000000 in
theorem parse_main (s : ByteArray) (w : World) (hE0 : ES w) (h8 : s.size = 80) (hm : s.extract 12 15 = ⟨#[32, 32, 67]⟩) (hb1 : blankP (s.extract 56 65)) (hb2 : blankP (s.extract 71 77)) (hd : digP (decs (cutS (s.extract 15 32))) (decs (cutS (s.extract 32 44))) (decs (cutS (s.extract 44 56)))) : Calls Tryz.prog 13 #[.string s] w (ObsPost s w) := by
  have z80 : (s.size : Int) = 80 := by omega
  obtain ⟨E, hE⟩ : ∃ E, s.extract 12 15 = E := ⟨_, rfl⟩
  have yE : (E.toList == [32, 32, 67]) = true := by
    rw [← hE, hm, Lib.toList_data]
    rfl
  have BL1 := Lib.hid (fun w' => blank_any (s.extract 56 65) w' (by rw [ByteArray.size_extract]; omega))
  rw [decide_eq_true hb1] at BL1
  obtain ⟨Y1, hY1⟩ : ∃ Y, s.extract 56 65 = Y := ⟨_, rfl⟩
  rw [hY1] at BL1
  have BL2 := Lib.hid (fun w' => blank_any (s.extract 71 77) w' (by rw [ByteArray.size_extract]; omega))
  rw [decide_eq_true hb2] at BL2
  obtain ⟨Y2, hY2⟩ : ∃ Y, s.extract 71 77 = Y := ⟨_, rfl⟩
  rw [hY2] at BL2
  have TR1 := Lib.hid (fun w' => trim_any (s.extract 15 32) w' (by rw [ByteArray.size_extract]; unfold maxLen; omega))
  have TR2 := Lib.hid (fun w' => trim_any (s.extract 32 44) w' (by rw [ByteArray.size_extract]; unfold maxLen; omega))
  have TR3 := Lib.hid (fun w' => trim_any (s.extract 44 56) w' (by rw [ByteArray.size_extract]; unfold maxLen; omega))
  have zD1 : (cutS (s.extract 15 32)).size ≤ 17 := Nat.le_trans (cutS_le _) (by rw [ByteArray.size_extract]; omega)
  obtain ⟨d1, hd1⟩ : ∃ d, decs (cutS (s.extract 15 32)) = d := ⟨_, rfl⟩
  obtain ⟨D1, hD1⟩ : ∃ D, cutS (s.extract 15 32) = D := ⟨_, rfl⟩
  obtain ⟨Z1, hZ1⟩ : ∃ Z, s.extract 15 32 = Z := ⟨_, rfl⟩
  rw [hd1, hD1, hZ1] at TR1
  rw [hD1] at zD1
  have hD1' : cutS Z1 = D1 := by rw [← hZ1]; exact hD1
  have hd1' : decs D1 = d1 := by rw [← hD1]; exact hd1
  have zD2 : (cutS (s.extract 32 44)).size ≤ 17 := Nat.le_trans (cutS_le _) (by rw [ByteArray.size_extract]; omega)
  obtain ⟨d2, hd2⟩ : ∃ d, decs (cutS (s.extract 32 44)) = d := ⟨_, rfl⟩
  obtain ⟨D2, hD2⟩ : ∃ D, cutS (s.extract 32 44) = D := ⟨_, rfl⟩
  obtain ⟨Z2, hZ2⟩ : ∃ Z, s.extract 32 44 = Z := ⟨_, rfl⟩
  rw [hd2, hD2, hZ2] at TR2
  rw [hD2] at zD2
  have hD2' : cutS Z2 = D2 := by rw [← hZ2]; exact hD2
  have hd2' : decs D2 = d2 := by rw [← hD2]; exact hd2
  have zD3 : (cutS (s.extract 44 56)).size ≤ 17 := Nat.le_trans (cutS_le _) (by rw [ByteArray.size_extract]; omega)
  obtain ⟨d3, hd3⟩ : ∃ d, decs (cutS (s.extract 44 56)) = d := ⟨_, rfl⟩
  obtain ⟨D3, hD3⟩ : ∃ D, cutS (s.extract 44 56) = D := ⟨_, rfl⟩
  obtain ⟨Z3, hZ3⟩ : ∃ Z, s.extract 44 56 = Z := ⟨_, rfl⟩
  rw [hd3, hD3, hZ3] at TR3
  rw [hD3] at zD3
  have hD3' : cutS Z3 = D3 := by rw [← hZ3]; exact hD3
  have hd3' : decs D3 = d3 := by rw [← hD3]; exact hd3
  obtain ⟨st, hst⟩ : ∃ st, s.extract 77 80 = st := ⟨_, rfl⟩
  have hst2 : s.extract 77 s.size = st := by rw [h8]; exact hst
  obtain ⟨sg, hsg⟩ : ∃ sg, sgOf d3 = sg := ⟨_, rfl⟩
  have hix : ∀ w', (Instr.index 68 (.agg #[.int .i64 1000000, .int .i64 300000, .int .i64 100000]) (.int .i64 d3)).run Tryz.prog w' = .ok (.int .i64 sg) w' := fun w' => by
    rw [hd1, hd2, hd3] at hd
    rw [← hsg]
    exact sg_ix d3 hd.2.2.2.2 w'
  have dd := hd
  rw [hd1, hd2, hd3] at dd
  obtain ⟨x1, x2, x3, x4, x5⟩ := dd
  have x1 : 3 ≤ (d1 : Int) := by omega
  have x2 : (d1 : Int) ≤ 6 := by omega
  have x3 : 1 ≤ (d2 : Int) := by omega
  have x4 : (d2 : Int) ≤ 3 := by omega
  have x5 : (d3 : Int) ≤ 2 := by omega
  have x6 : 0 ≤ (d3 : Int) := by omega
  have s77 : (77 : Int) ≤ (s.size : Int) := by omega
  have FIN : Hid (∀ o : Ob, o.site = st → o.sg = sg → PDayIs D1 o.t 0 → Gp.RaIs D2 o.ra 0 → Gp.DecIs D3 o.dec 0 → NameOf s o.name → ((blankP (s.extract 65 71) ∧ o.mag = 9999 ∧ o.band = 32) ∨ (¬ blankP (s.extract 65 71) ∧ MagIs (s.extract 65 70) o.mag ∧ o.band = bt s 70)) → Cand s o) := Lib.hid fun o a1 a2 a3 a4 a5 a6 a7 =>
    ⟨h8, (mark_is h8).1 hm, hb1, hb2, ⟨hd.1, hd.2.1⟩, ⟨hd.2.2.1, hd.2.2.2.1⟩, hd.2.2.2.2, by rw [hZ1, hD1']; exact a3, by rw [hZ2, hD2']; exact a4, by rw [hZ3, hD3']; exact a5, by rw [hst]; exact a1, by rw [hZ3, hD3', hd3', hsg]; exact a2, a6, a7⟩
  have ND : Hid (∀ t c, PDayIs D1 t c → c ≠ 0 → ObsIs s zeroO 12) := Lib.hid fun t c a n => obs_no (no_day (by rw [hZ1, hD1']; exact a) n)
  have NR : Hid (∀ t c, Gp.RaIs D2 t c → c ≠ 0 → ObsIs s zeroO 12) := Lib.hid fun t c a n => obs_no (no_ra (by rw [hZ2, hD2']; exact a) n)
  have NE : Hid (∀ t c, Gp.DecIs D3 t c → c ≠ 0 → ObsIs s zeroO 12) := Lib.hid fun t c a n => obs_no (no_dec (by rw [hZ3, hD3']; exact a) n)
  have NN : Hid (∀ n, NameA (s.extract 0 12) n false → ObsIs s zeroO 12) := Lib.hid fun n a => obs_no (no_name a)
  have NY : Hid (∀ n, NameA (s.extract 0 12) n true → NameOf s n ∧ n.size ≤ 7) := Lib.hid fun n a => ⟨yes_name a, nameOf_size (yes_name a) h8⟩
  have NM : Hid (∀ m, ¬ blankP (s.extract 65 71) → MagA (s.extract 65 70) m false → ObsIs s zeroO 12) := Lib.hid fun m a b => obs_no (no_mag a b)
  have z12 : (s.extract 0 12).size = 12 := by rw [ByteArray.size_extract]; omega
  have z6570 : (s.extract 65 70).size = 5 := by rw [ByteArray.size_extract]; omega
  have PD := Lib.hid (fun w' => pday_any D1 w' (by omega))
  have PR := Lib.hid (fun w' => Gp.ra_any D2 w' (by omega))
  have PE := Lib.hid (fun w' => Gp.dec_any D3 w' (by omega))
  have PN := Lib.hid (fun w' (h : ES w') => pname_any (s.extract 0 12) w' h z12)
  have PM := Lib.hid (fun w' => magnitude_any (s.extract 65 70) w' z6570)
  have hst3 : st.size = 3 := by rw [← hst, ByteArray.size_extract]; omega
  have HS3 := Lib.hid hst3
  clear hst3
  have BL3 := Lib.hid (fun w' => blank_any (s.extract 65 71) w' (by rw [ByteArray.size_extract]; omega))
  have i70 : (70 : Nat) < s.size := by omega
  have e70 : bt s 70 = ((s[70]'i70).toNat : Int) := bt_of s 70 i70
  obtain ⟨B, hB⟩ : ∃ B : Int, ((s[70]'i70).toNat : Int) = B := ⟨_, rfl⟩
  have bB : 0 ≤ B ∧ B < 256 := by rw [← hB]; exact byte_bd _
  obtain ⟨bB0, bB1⟩ := bB
  have EB := Lib.hid (e70.trans hB)
  clear e70
  obtain ⟨Xn, hXn⟩ : ∃ X, s.extract 0 12 = X := ⟨_, rfl⟩
  obtain ⟨Xm, hXm⟩ : ∃ X, s.extract 65 70 = X := ⟨_, rfl⟩
  obtain ⟨Xb, hXb⟩ : ∃ X, s.extract 65 71 = X := ⟨_, rfl⟩
  rw [hXn] at PN NN NY
  rw [hXm] at PM NM FIN
  rw [hXb] at BL3 NM FIN
  have HE := Lib.hid hE0
  clear hE0 z12 z6570
  have RS := Lib.hid (Res.new w)
  go_enter Tryz.func13, Tryz.ntmps13
  go_wp2_with (refine wpList_store_mid rfl _ (.tmp 2) (.tmp 74) rfl w.heap.size 0 _ rfl rfl ?_ info8 ?_ ?_; exact RS.out.th; simp [Value.oneCell'])
  refine (BL1.out _).mono ?_
  rintro e w1 ⟨rfl, hb⟩
  have RS := Lib.hid (RS.out.call hb)
  clear hb BL1
  go_wp2_with (refine wpList_store_mid rfl _ (.tmp 2) (.tmp 74) rfl w.heap.size 0 _ rfl rfl ?_ info8 ?_ ?_; exact RS.out.th; simp [Value.oneCell'])
  refine (BL2.out _).mono ?_
  rintro e w2 ⟨rfl, hb⟩
  have RS := Lib.hid (RS.out.call hb)
  clear hb BL2
  go_wp2_with (refine wpList_store_mid rfl _ (.tmp 2) (.tmp 74) rfl w.heap.size 0 _ rfl rfl ?_ info8 ?_ ?_; exact RS.out.th; simp [Value.oneCell'])
  refine (TR1.out _).mono ?_
  rintro e w3 ⟨rfl, hb⟩
  have RS := Lib.hid (RS.out.call hb)
  clear hb TR1
  go_wp2_with (refine wpList_store_mid rfl _ (.tmp 2) (.tmp 74) rfl w.heap.size 0 _ rfl rfl ?_ info8 ?_ ?_; exact RS.out.th; simp [Value.oneCell'])
  refine (TR2.out _).mono ?_
  rintro e w4 ⟨rfl, hb⟩
  have RS := Lib.hid (RS.out.call hb)
  clear hb TR2
  go_wp2_with (refine wpList_store_mid rfl _ (.tmp 2) (.tmp 74) rfl w.heap.size 0 _ rfl rfl ?_ info8 ?_ ?_; exact RS.out.th; simp [Value.oneCell'])
  refine (TR3.out _).mono ?_
  rintro e w5 ⟨rfl, hb⟩
  have RS := Lib.hid (RS.out.call hb)
  clear hb TR3
  clear hm hb1 hb2 hd hE hY1 hY2 hZ1 hZ2 hZ3 hD1 hD2 hD3 hd1 hd2 hd3 hst2 hsg yE hD1' hD2' hD3' hd1' hd2' hd3' zD1 zD2 zD3
  go_wp2_with (refine wpList_store_mid rfl _ (.tmp 2) (.tmp 74) rfl w.heap.size 0 _ rfl rfl ?_ info8 ?_ ?_; exact RS.out.th; simp [Value.oneCell'])
  go_region
  have Y6 : OY w w5.heap.size ⟨⟨#[]⟩, st, 0, 0, 0, sg, 9999, 32⟩ (w5.alloc (.cells (obsC ⟨⟨#[]⟩, st, 0, 0, 0, sg, 9999, 32⟩).toArray 23)).drew :=
    ⟨⟨(RS.out.below.alloc (Nat.le_of_lt RS.out.lt) _).drew, by simp; exact Nat.lt_succ_of_lt RS.out.lt, there_drewN (there_below RS.out.th ((Below.refl _ _).alloc (Nat.le_refl _) _) RS.out.lt) 1⟩, RS.out.lt, by simp, rangeAt_new w5 _ _, there_drewN (there_new w5 _ _ 8 (by show 8 ≤ 8; omega)) 1⟩
  have Y6 := Lib.hid Y6
  clear RS
  go_wp2_with fail
  refine (PD.out _).mono ?_
  rintro e w6 ⟨tt, c1, rfl, h1, hb⟩
  have h1 := Lib.hid h1
  have Y7 := Lib.hid (Y6.out.call hb)
  clear hb Y6 PD
  have f2 := (Y7.out.th 2 (by omega)).2
  have q2 := Y7.out.row 2 _ rfl
  simp only [Nat.zero_add] at f2 q2
  have Z7 := Lib.hid (Y7.out.set 2 (.int .i64 tt) ⟨⟨#[]⟩, st, tt, 0, 0, sg, 9999, 32⟩ (by omega) rfl)
  clear Y7
  go_wp2_with fail
  refine (PR.out _).mono ?_
  rintro e w7 ⟨rv, c2, rfl, h2, hb⟩
  have h2 := Lib.hid h2
  have Y8 := Lib.hid (Z7.out.call hb)
  clear hb Z7 PR f2 q2
  have f3 := (Y8.out.th 3 (by omega)).2
  have q3 := Y8.out.row 3 _ rfl
  simp only [Nat.zero_add] at f3 q3
  have Z8 := Lib.hid (Y8.out.set 3 (.int .i64 rv) ⟨⟨#[]⟩, st, tt, rv, 0, sg, 9999, 32⟩ (by omega) rfl)
  clear Y8
  go_wp2_with fail
  refine (PE.out _).mono ?_
  rintro e w8 ⟨dv, c3, rfl, h3, hb⟩
  have h3 := Lib.hid h3
  have Y9 := Lib.hid (Z8.out.call hb)
  clear hb Z8 PE f3 q3
  have f4 := (Y9.out.th 4 (by omega)).2
  have q4 := Y9.out.row 4 _ rfl
  simp only [Nat.zero_add] at f4 q4
  have Z9 := Lib.hid (Y9.out.set 4 (.int .i64 dv) ⟨⟨#[]⟩, st, tt, rv, dv, sg, 9999, 32⟩ (by omega) rfl)
  clear Y9
  have H1 := Lib.hid (h1.out)
  have k1 := pday_code h1.out
  have k2 := ra_code h2.out
  have k3 := dec_code h3.out
  obtain ⟨okb, hok⟩ : ∃ okb : Bool, okb = decide (c1 = 0 ∧ c2 = 0 ∧ c3 = 0) := ⟨_, rfl⟩
  have OKB := Lib.hid hok
  clear hok
  have TB := Lib.hid (pday_bd h1.out)
  go_upto_region 13 with (fail)
  go_cut [14] (fun q wx => q = .bool okb ∧ wx = w8.setCell ⟨w5.heap.size, 4, none⟩ (.int .i64 dv))
  case first =>
    clear FIN ND NR NE NN NY NM
    rcases k1 with rfl | rfl
    · rcases k2 with rfl | rfl
      · rcases k3 with rfl | rfl
        all_goals
          have e := Lib.hid OKB.out
          go_wp2_with fail
          go_meet
          exact ⟨by first | (rw [e.out]; rfl) | rw [e.out], by first | rfl | trivial⟩
      · have e := Lib.hid (OKB.out.trans (decide_eq_false (fun g => absurd g.2.1 (by decide)) : _ = false))
        go_wp2_with fail
        go_meet
        exact ⟨by first | (rw [e.out]; rfl) | rw [e.out], by first | rfl | trivial⟩
    · have e := Lib.hid (OKB.out.trans (decide_eq_false (fun g => absurd g.1 (by decide)) : _ = false))
      go_wp2_with fail
      go_meet
      exact ⟨by first | (rw [e.out]; rfl) | rw [e.out], by first | rfl | trivial⟩
  case rest =>
    obtain ⟨rfl, rfl⟩ := hcut
    have NOK : Hid (okb = false → ObsIs s zeroO 12) := Lib.hid fun g => by
      have g2 := of_decide_eq_false (OKB.out.symm.trans g)
      by_cases e1 : c1 = 0
      · by_cases e2 : c2 = 0
        · by_cases e3 : c3 = 0
          · exact absurd ⟨e1, e2, e3⟩ g2
          · exact NE.out _ _ h3.out e3
        · exact NR.out _ _ h2.out e2
      · exact ND.out _ _ h1.out e1
    have YOK : Hid (okb = true → PDayIs D1 tt 0 ∧ Gp.RaIs D2 rv 0 ∧ Gp.DecIs D3 dv 0) := Lib.hid fun g => by
      obtain ⟨e1, e2, e3⟩ := of_decide_eq_true (OKB.out.symm.trans g)
      have a := h1.out
      have b := h2.out
      have c := h3.out
      rw [e1] at a
      rw [e2] at b
      rw [e3] at c
      exact ⟨a, b, c⟩
    clear OKB ND NR NE k1 k2 k3 h1 h2 h3 H1 f4 q4
    have HE8 := Lib.hid (HE.out.below Z9.out.res.below)
    go_wp2_with fail
    refine (PN.out _ HE8.out).mono ?_
    rintro e w9 ⟨nm, nb, rfl, hN, hb⟩
    have HN := Lib.hid hN
    have Y10 := Lib.hid (Z9.out.call hb)
    clear hb Z9 PN HE8 hN
    have f0 := (Y10.out.th 0 (by omega)).2
    have q0 := Y10.out.row 0 _ rfl
    simp only [Nat.zero_add] at f0 q0
    have Z10 := Lib.hid (Y10.out.set 0 (.string nm) ⟨nm, st, tt, rv, dv, sg, 9999, 32⟩ (by omega) rfl)
    clear Y10
    go_wp2_with fail
    refine (BL3.out _).mono ?_
    rintro e w10 ⟨rfl, hb⟩
    have Y11 := Lib.hid (Z10.out.call hb)
    clear hb Z10 BL3 f0 q0
    by_cases hbl : blankP Xb
    · rw [decide_eq_true hbl]
      have FN := Lib.hid (fun o a1 a2 a3 a4 a5 a6 b1 b2 => FIN.out o a1 a2 a3 a4 a5 a6 (Or.inl ⟨hbl, b1, b2⟩))
      clear FIN NM PM hbl
      cases okb
      ·
        have N := Lib.hid (NOK.out rfl)
        go_wp2_with (refine wpList_store_mid rfl _ (.tmp 2) (.tmp 145) rfl w.heap.size 0 _ rfl rfl ?_ info8 ?_ ?_; exact Y11.out.res.th; simp [Value.oneCell'])
        exact bodyPost_ret (ret_cell_tmp Tryz.results13 _ _ w.heap.size (obsC zeroO) _ rfl (World.rangeAt_setCells_same _ _ _ _ Y11.out.res.th) Tryz.underlying23 rfl info8) rfl ⟨zeroO, 12, rfl, N.out, below_setCells _ (Nat.le_refl _) _ _ _ Y11.out.res.below⟩
      · cases nb
        ·
          have N := Lib.hid (NN.out _ HN.out)
          go_wp2_with (refine wpList_store_mid rfl _ (.tmp 2) (.tmp 145) rfl w.heap.size 0 _ rfl rfl ?_ info8 ?_ ?_; exact Y11.out.res.th; simp [Value.oneCell'])
          exact bodyPost_ret (ret_cell_tmp Tryz.results13 _ _ w.heap.size (obsC zeroO) _ rfl (World.rangeAt_setCells_same _ _ _ _ Y11.out.res.th) Tryz.underlying23 rfl info8) rfl ⟨zeroO, 12, rfl, N.out, below_setCells _ (Nat.le_refl _) _ _ _ Y11.out.res.below⟩
        ·
          have q0 := Y11.out.row 0 _ rfl
          have q1 := Y11.out.row 1 _ rfl
          have q2 := Y11.out.row 2 _ rfl
          have q3 := Y11.out.row 3 _ rfl
          have q4 := Y11.out.row 4 _ rfl
          have q5 := Y11.out.row 5 _ rfl
          have q6 := Y11.out.row 6 _ rfl
          have q7 := Y11.out.row 7 _ rfl
          simp only [Nat.zero_add] at q0 q1 q2 q3 q4 q5 q6 q7
          have ltb := Y11.out.lt
          obtain ⟨a3, a4, a5⟩ := YOK.out rfl
          obtain ⟨a6, zn⟩ := NY.out _ HN.out
          have CO := Lib.hid ((FN.out ⟨nm, st, tt, rv, dv, sg, 9999, 32⟩ rfl rfl a3 a4 a5 a6 rfl rfl).obs)
          have HE9 := Lib.hid (HE.out.below Y11.out.res.below)
          have CK := Lib.hid (fun w' (h : ES w') => check_any ⟨nm, st, tt, rv, dv, sg, 9999, 32⟩ w' h TB.out.1 TB.out.2 (by show (0 : Int) ≤ 32; decide) (by show (32 : Int) ≤ 255; decide) (by unfold maxLen; show nm.size ≤ _; omega) (by unfold maxLen; show st.size ≤ _; rw [HS3.out]; decide))
          clear a3 a4 a5 a6 zn FN NOK NN NY YOK
          go_wp2_with fail
          refine (CK.out _ HE9.out).mono ?_
          rintro e w12 ⟨rfl, hb⟩
          have Y13 := Lib.hid (Y11.out.call hb)
          clear hb Y11 CK HE9 q0 q1 q2 q3 q4 q5 q6 q7 ltb
          by_cases ok : okO ⟨nm, st, tt, rv, dv, sg, 9999, 32⟩
          · rw [show checkC ⟨nm, st, tt, rv, dv, sg, 9999, 32⟩ = 0 from if_pos ok]
            have N := Lib.hid (CO.out.1 ok)
            clear CO ok
            go_wp2_with (first | (refine wpList_load_mid rfl _ (.tmp 10) rfl w5.heap.size 0 rfl (obsC ⟨nm, st, tt, rv, dv, sg, 9999, 32⟩) _ Y13.out.row Tryz.underlying23 rfl info8 ?_) | (refine wpList_store_mid rfl _ (.tmp 2) (.tmp 146) rfl w.heap.size 0 _ rfl rfl ?_ info8 ?_ ?_; exact Y13.out.res.th; simp [Value.oneCell']))
            exact bodyPost_ret (ret_cell_tmp Tryz.results13 _ _ w.heap.size (obsC ⟨nm, st, tt, rv, dv, sg, 9999, 32⟩) _ rfl (World.rangeAt_setCells_same _ _ _ _ Y13.out.res.th) Tryz.underlying23 rfl info8) rfl ⟨_, 0, rfl, N.out, below_setCells _ (Nat.le_refl _) _ _ _ Y13.out.res.below⟩
          · rw [show checkC ⟨nm, st, tt, rv, dv, sg, 9999, 32⟩ = 8 from if_neg ok]
            have N := Lib.hid (CO.out.2 ok)
            clear CO ok
            go_wp2_with (refine wpList_store_mid rfl _ (.tmp 2) (.tmp 145) rfl w.heap.size 0 _ rfl rfl ?_ info8 ?_ ?_; exact Y13.out.res.th; simp [Value.oneCell'])
            exact bodyPost_ret (ret_cell_tmp Tryz.results13 _ _ w.heap.size (obsC zeroO) _ rfl (World.rangeAt_setCells_same _ _ _ _ Y13.out.res.th) Tryz.underlying23 rfl info8) rfl ⟨zeroO, 12, rfl, N.out, below_setCells _ (Nat.le_refl _) _ _ _ Y13.out.res.below⟩
    · rw [decide_eq_false hbl]
      have FN := Lib.hid (fun o a1 a2 a3 a4 a5 a6 b1 b2 => FIN.out o a1 a2 a3 a4 a5 a6 (Or.inr ⟨hbl, b1, b2⟩))
      have NM := Lib.hid (fun m => NM.out m hbl)
      clear FIN hbl
      have f7 := (Y11.out.th 7 (by omega)).2
      have q7 := Y11.out.row 7 _ rfl
      simp only [Nat.zero_add] at f7 q7
      have Z11 := Lib.hid (Y11.out.set 7 (.int .u8 B) ⟨nm, st, tt, rv, dv, sg, 9999, B⟩ (by omega) rfl)
      clear Y11
      go_wp2_with fail
      refine (PM.out _).mono ?_
      rintro e w11 ⟨mm, mb, rfl, hM, hb⟩
      have HM := Lib.hid hM
      have Y12 := Lib.hid (Z11.out.call hb)
      clear hb Z11 PM hM f7 q7
      have f6 := (Y12.out.th 6 (by omega)).2
      have q6 := Y12.out.row 6 _ rfl
      simp only [Nat.zero_add] at f6 q6
      have Z12 := Lib.hid (Y12.out.set 6 (.int .i64 mm) ⟨nm, st, tt, rv, dv, sg, mm, B⟩ (by omega) rfl)
      clear Y12
      cases okb
      ·
        have N := Lib.hid (NOK.out rfl)
        go_wp2_with (refine wpList_store_mid rfl _ (.tmp 2) (.tmp 145) rfl w.heap.size 0 _ rfl rfl ?_ info8 ?_ ?_; exact Z12.out.res.th; simp [Value.oneCell'])
        exact bodyPost_ret (ret_cell_tmp Tryz.results13 _ _ w.heap.size (obsC zeroO) _ rfl (World.rangeAt_setCells_same _ _ _ _ Z12.out.res.th) Tryz.underlying23 rfl info8) rfl ⟨zeroO, 12, rfl, N.out, below_setCells _ (Nat.le_refl _) _ _ _ Z12.out.res.below⟩
      · cases nb
        ·
          have N := Lib.hid (NN.out _ HN.out)
          go_wp2_with (refine wpList_store_mid rfl _ (.tmp 2) (.tmp 145) rfl w.heap.size 0 _ rfl rfl ?_ info8 ?_ ?_; exact Z12.out.res.th; simp [Value.oneCell'])
          exact bodyPost_ret (ret_cell_tmp Tryz.results13 _ _ w.heap.size (obsC zeroO) _ rfl (World.rangeAt_setCells_same _ _ _ _ Z12.out.res.th) Tryz.underlying23 rfl info8) rfl ⟨zeroO, 12, rfl, N.out, below_setCells _ (Nat.le_refl _) _ _ _ Z12.out.res.below⟩
        · cases mb
          ·
            have N := Lib.hid (NM.out _ HM.out)
            go_wp2_with (refine wpList_store_mid rfl _ (.tmp 2) (.tmp 145) rfl w.heap.size 0 _ rfl rfl ?_ info8 ?_ ?_; exact Z12.out.res.th; simp [Value.oneCell'])
            exact bodyPost_ret (ret_cell_tmp Tryz.results13 _ _ w.heap.size (obsC zeroO) _ rfl (World.rangeAt_setCells_same _ _ _ _ Z12.out.res.th) Tryz.underlying23 rfl info8) rfl ⟨zeroO, 12, rfl, N.out, below_setCells _ (Nat.le_refl _) _ _ _ Z12.out.res.below⟩
          ·
            have q0 := Z12.out.row 0 _ rfl
            have q1 := Z12.out.row 1 _ rfl
            have q2 := Z12.out.row 2 _ rfl
            have q3 := Z12.out.row 3 _ rfl
            have q4 := Z12.out.row 4 _ rfl
            have q5 := Z12.out.row 5 _ rfl
            have q6 := Z12.out.row 6 _ rfl
            have q7 := Z12.out.row 7 _ rfl
            simp only [Nat.zero_add] at q0 q1 q2 q3 q4 q5 q6 q7
            have ltb := Z12.out.lt
            obtain ⟨a3, a4, a5⟩ := YOK.out rfl
            obtain ⟨a6, zn⟩ := NY.out _ HN.out
            have CO := Lib.hid ((FN.out ⟨nm, st, tt, rv, dv, sg, mm, B⟩ rfl rfl a3 a4 a5 a6 (by rw [← hXm] at HM; exact yes_mag (hXm ▸ HM.out)) (by exact EB.out.symm)).obs)
            have HE9 := Lib.hid (HE.out.below Z12.out.res.below)
            have CK := Lib.hid (fun w' (h : ES w') => check_any ⟨nm, st, tt, rv, dv, sg, mm, B⟩ w' h TB.out.1 TB.out.2 bB0 (by show B ≤ 255; omega) (by unfold maxLen; show nm.size ≤ _; omega) (by unfold maxLen; show st.size ≤ _; rw [HS3.out]; decide))
            clear a3 a4 a5 a6 zn FN NOK NN NY YOK
            go_wp2_with fail
            refine (CK.out _ HE9.out).mono ?_
            rintro e w12 ⟨rfl, hb⟩
            have Y13 := Lib.hid (Z12.out.call hb)
            clear hb Z12 CK HE9 q0 q1 q2 q3 q4 q5 q6 q7 ltb
            by_cases ok : okO ⟨nm, st, tt, rv, dv, sg, mm, B⟩
            · rw [show checkC ⟨nm, st, tt, rv, dv, sg, mm, B⟩ = 0 from if_pos ok]
              have N := Lib.hid (CO.out.1 ok)
              clear CO ok
              go_wp2_with (first | (refine wpList_load_mid rfl _ (.tmp 10) rfl w5.heap.size 0 rfl (obsC ⟨nm, st, tt, rv, dv, sg, mm, B⟩) _ Y13.out.row Tryz.underlying23 rfl info8 ?_) | (refine wpList_store_mid rfl _ (.tmp 2) (.tmp 146) rfl w.heap.size 0 _ rfl rfl ?_ info8 ?_ ?_; exact Y13.out.res.th; simp [Value.oneCell']))
              exact bodyPost_ret (ret_cell_tmp Tryz.results13 _ _ w.heap.size (obsC ⟨nm, st, tt, rv, dv, sg, mm, B⟩) _ rfl (World.rangeAt_setCells_same _ _ _ _ Y13.out.res.th) Tryz.underlying23 rfl info8) rfl ⟨_, 0, rfl, N.out, below_setCells _ (Nat.le_refl _) _ _ _ Y13.out.res.below⟩
            · rw [show checkC ⟨nm, st, tt, rv, dv, sg, mm, B⟩ = 8 from if_neg ok]
              have N := Lib.hid (CO.out.2 ok)
              clear CO ok
              go_wp2_with (refine wpList_store_mid rfl _ (.tmp 2) (.tmp 145) rfl w.heap.size 0 _ rfl rfl ?_ info8 ?_ ?_; exact Y13.out.res.th; simp [Value.oneCell'])
              exact bodyPost_ret (ret_cell_tmp Tryz.results13 _ _ w.heap.size (obsC zeroO) _ rfl (World.rangeAt_setCells_same _ _ _ _ Y13.out.res.th) Tryz.underlying23 rfl info8) rfl ⟨zeroO, 12, rfl, N.out, below_setCells _ (Nat.le_refl _) _ _ _ Y13.out.res.below⟩
end Ow
end Go.Proofs.YtgodhaphbgllhaaGreatDoor
/-
  Plain law of observations: the line of an observation is read as the rounded observation; rounding again changes nothing; no walk here.
-/
namespace Go.Proofs.YtgodhaphbgllhaaGreatDoor
namespace Op
open Go.RowKit Lw Go.Proofs.YtgodhaphbgllhaaGreatDoor.Ap Go.Proofs.YtgodhaphbgllhaaGreatDoor.Mp Go.Proofs.YtgodhaphbgllhaaGreatDoor.At Go.Proofs.YtgodhaphbgllhaaGreatDoor.Ow Go.Proofs.YtgodhaphbgllhaaGreatDoor.Mw

theorem line_seg {day : ByteArray} {o : Ob} (ok : okO o) (hd : DayIs o.t 6 day 0) : ∃ n1 n2, NameIs n1 n2 o.name ∧
    Seg ⟨(lineL day o).toArray⟩ n1 n2 [32, 32] day.data.toList (Gt.raL o.ra 3) (Gt.decL o.dec 2) (magF o.mag o.band) o.site.data.toList := by
  obtain ⟨_, hn, hs, _, _, _, d0, d1, _, _, hm⟩ := ok
  obtain ⟨n1, n2, e, l1, l2, hN⟩ := name_split hn
  refine ⟨n1, n2, hN, ?_, l1, l2, rfl, day_len17 hd, ra_len _, dec_len d0 d1, ?_, by rw [← size_L]; exact hs⟩
  · rw [toL_mk]
    unfold lineL rowL
    rw [e]
    simp only [List.append_assoc]
  · unfold magF
    by_cases c : o.mag = 9999
    · rw [if_pos c, spL_len]
    · rw [if_neg c, List.length_append]
      rcases hm with ⟨h, _⟩ | ⟨h1, h2, _⟩
      · exact absurd h c
      · rw [magL_len (by omega) (by omega)]; rfl
/-- The rounded observation. -/
structure Rnd (day : ByteArray) (o r : Ob) : Prop where
  name : r.name = o.name
  site : r.site = o.site
  mag : r.mag = o.mag
  band : r.band = o.band
  sg : r.sg = 100000
  le : r.t ≤ o.t
  near : o.t - r.t < 100000
  pday : PDayIs day r.t 0
  day : DayIs r.t 6 day 0
  pra : Gp.RaIs ⟨(Gt.raL o.ra 3).toArray⟩ r.ra 0
  ra : Gt.raL r.ra 3 = Gt.raL o.ra 3
  ra0 : 0 ≤ r.ra
  ra1 : r.ra < 1296000000000
  dif1 : 2 * Pl.dif r.ra o.ra ≤ 15000
  dif2 : -15000 ≤ 2 * Pl.dif r.ra o.ra
  pdec : Gp.DecIs ⟨(Gt.decL o.dec 2).toArray⟩ r.dec 0
  dec0 : -324000000000 ≤ r.dec
  dec1 : r.dec ≤ 324000000000
  dd1 : r.dec - o.dec ≤ 5000
  dd2 : -5000 ≤ r.dec - o.dec
  dec : (o.dec < 0 ∧ r.dec = 0 ∧ Gt.decL o.dec 2 = 45 :: Gt.clockL 0 2) ∨ Gt.decL r.dec 2 = Gt.decL o.dec 2
theorem Rnd.okO {day : ByteArray} {o r : Ob} (h : Rnd day o r) (ok : okO o) : Op.okO r := by
  obtain ⟨_, a2, a3, a4, _, _, _, _, _, _, a9⟩ := ok
  have := h.sg
  exact ⟨day_time h.day, by rw [h.name]; exact a2, by rw [h.site]; exact a3, by rw [h.site]; exact a4, h.ra0, h.ra1, h.dec0, h.dec1, by omega, by omega, by rw [h.mag, h.band]; exact a9⟩
theorem rnd_ex {day : ByteArray} {o : Ob} (ok : okO o) (hd : DayIs o.t 6 day 0) : ∃ r, Rnd day o r := by
  obtain ⟨_, hn, hs, _, _, _, d0, d1, _, _, hm⟩ := ok
  obtain ⟨v, q1, q2, q3, _⟩ := day_parse hd
  obtain ⟨N, n1, n2, n3, n4, n5, n6⟩ := ra_val o.ra
  obtain ⟨c, c1, c2, c3, c4, c5, c6⟩ := dec_valu d0 d1
  exact ⟨⟨o.name, o.site, v, ((N * 15000 : Nat) : Int), c, 100000, o.mag, o.band⟩, rfl, rfl, rfl, rfl, rfl, q2, day_near hd q3 q1 q2, q1, q3, n3, by rw [n2]; exact n4, by simp only; omega, by simp only; omega, n5, n6, c1, c2, c3, c4, c5, c6⟩
theorem band_u8 {m b : Int} (h : magP m b) : 0 ≤ b ∧ b ≤ 255 ∧ ((UInt8.ofNat b.toNat).toNat : Int) = b := by
  have hb : 0 ≤ b ∧ b ≤ 255 := by
    unfold magP ltP at h
    omega
  refine ⟨hb.1, hb.2, ?_⟩
  rw [UInt8.toNat_ofNat', Nat.mod_eq_of_lt (show b.toNat < 2 ^ 8 by omega)]
  omega
theorem line_good {day : ByteArray} {o r : Ob} (ok : okO o) (hd : DayIs o.t 6 day 0) (R : Rnd day o r) : Good ⟨(lineL day o).toArray⟩ r := by
  have okr := R.okO ok
  obtain ⟨n1, n2, hN, G⟩ := line_seg ok hd
  obtain ⟨_, hn, hs, _, _, _, d0, d1, _, _, hm⟩ := ok
  generalize (⟨(lineL day o).toArray⟩ : ByteArray) = s at *
  obtain ⟨x1, r1, s1, m1⟩ := day_split hd
  obtain ⟨x2, r2, s2, m2⟩ := ra_split o.ra
  obtain ⟨x3, r3, s3, m3⟩ := dec_split d0 d1
  have e1 : s.extract 15 32 = day := by rw [G.x15, mk_toL]
  have c1 : cutS (s.extract 15 32) = day := by
    rw [G.x15, s1, show x1 ++ 46 :: decL r1 6 = (x1 ++ [46]) ++ decL r1 (5 + 1) by simp, cut_dec, ← mk_toL day, s1]
    simp
  have c2 : cutS (s.extract 32 44) = ⟨(Gt.raL o.ra 3).toArray⟩ := by
    rw [G.x32, s2, show x2 ++ 46 :: decL r2 3 = (x2 ++ [46]) ++ decL r2 (2 + 1) by simp, cut_dec]
  have c3 : cutS (s.extract 44 56) = ⟨(Gt.decL o.dec 2).toArray⟩ := by
    rw [G.x44, s3, show x3 ++ 46 :: decL r3 2 = (x3 ++ [46]) ++ decL r3 (1 + 1) by simp, cut_dec]
  have p1 : decs (cutS (s.extract 15 32)) = 6 := by
    rw [c1, ← mk_toL day, s1, decs_app m1, decL_len]
  have p2 : decs (cutS (s.extract 32 44)) = 3 := by rw [c2, s2, decs_app m2, decL_len]
  have p3 : decs (cutS (s.extract 44 56)) = 2 := by rw [c3, s3, decs_app m3, decL_len]
  refine ⟨G.size, ⟨G.b12, G.b13, G.b14⟩, by rw [G.x56]; exact blank_sp 9, by rw [G.x71]; exact blank_sp 6, by rw [p1]; omega, by rw [p2]; omega, by rw [p3]; omega, by rw [c1]; exact R.pday, by rw [c2]; exact R.pra, by rw [c3]; exact R.pdec, ?_, ?_, ?_, ?_, okr⟩
  · rw [G.x77, mk_toL]; exact R.site
  · rw [p3, if_neg (by omega), if_neg (by omega)]; exact R.sg
  · rw [G.x0, G.x5, R.name]; exact hN
  · rw [R.mag, R.band]
    obtain ⟨b0, b1, b2⟩ := band_u8 hm
    by_cases c : o.mag = 9999
    · have hb : o.band = 32 := by
        unfold magP at hm
        omega
      refine Or.inl ⟨?_, c, hb⟩
      rw [G.x65]
      unfold magF
      rw [if_pos c]
      exact blank_sp 6
    · have hmm : -500 ≤ o.mag ∧ o.mag ≤ 3000 := by unfold magP at hm; omega
      have eM : magF o.mag o.band = magL o.mag ++ [UInt8.ofNat o.band.toNat] := by unfold magF; rw [if_neg c]
      have eT : (magF o.mag o.band).take 5 = magL o.mag := by
        rw [eM]
        have := magL_len (m := o.mag) (by omega) (by omega)
        rw [← this, List.take_left]
      refine Or.inr ⟨?_, ?_, ?_⟩
      · rw [G.x65]
        intro h
        obtain ⟨a, b, d, e, hl, _⟩ := mag_list hmm.1 hmm.2
        have := h 46 (by rw [toL_mk, eM, hl]; simp)
        exact absurd this (by decide)
      · rw [G.x6570, eT]; exact magL_is hmm.1 hmm.2
      · rw [G.b70 eM, b2]
theorem dec_zero : Gp.DecIs ⟨(Gt.decL 0 2).toArray⟩ 0 0 := by
  obtain ⟨v, h, _, _, _, _⟩ := Gt.dec_back 0 2 (by omega) (by omega) (by omega)
  have h' := h
  obtain ⟨c1, c2, c3⟩ := Gt.clock_reads 0 2 (by omega) (by omega)
  have c4 := c3 10000
  have z : Gt.rndN (0 : Int).natAbs (1000000 / 10 ^ 2) = 0 := by decide
  have hD : Gt.decL 0 2 = 43 :: Gt.clockL 0 2 := by unfold Gt.decL; rw [z]; rfl
  have e : ((10000 * 10 ^ 2 : Nat) : Int) = 1000000 := rfl
  rw [e] at c4
  have : v = 0 := by
    rcases h with ⟨_, h, _⟩ | ⟨_, _, h⟩
    · rw [hD, Gp.get0, Gp.tail_mk, if_neg (by decide), c4] at h
      rw [h]; simp
    · cases h
  rw [this] at h'
  exact h'
/-- Rounding again changes nothing. -/
theorem Rnd.again {day : ByteArray} {o r q : Ob} (h : Rnd day o r) (g : Rnd day r q) : q = r := by
  have e1 := (g.pday.uniq h.pday).1
  have e2 : q.ra = r.ra := by
    have := g.pra
    rw [h.ra] at this
    exact (this.det h.pra).1
  have e3 : q.dec = r.dec := by
    rcases h.dec with ⟨_, z, _⟩ | e
    · have := g.pdec
      rw [z] at this ⊢
      exact (this.det dec_zero).1
    · have := g.pdec
      rw [e] at this
      exact (this.det h.pdec).1
  have e4 := g.name
  have e5 := g.site
  have e6 := g.mag
  have e7 := g.band
  have e8 := g.sg.trans h.sg.symm
  cases q; cases r
  simp only at e1 e2 e3 e4 e5 e6 e7 e8
  rw [e1, e2, e3, e4, e5, e6, e7, e8]
end Op
end Go.Proofs.YtgodhaphbgllhaaGreatDoor
/-
  The contracts of package obs: Print, Parse, Round, for any observation and string.
-/
namespace Go.Proofs.YtgodhaphbgllhaaGreatDoor
namespace Ow
open Go.RowKit Lw Go.Proofs.YtgodhaphbgllhaaGreatDoor.Ap Go.Proofs.YtgodhaphbgllhaaGreatDoor.Op Go.Proofs.YtgodhaphbgllhaaGreatDoor.Mp Go.Proofs.YtgodhaphbgllhaaGreatDoor.Mw Go.Proofs.YtgodhaphbgllhaaGreatDoor.At

/-- The bounds of a Go observation. -/
structure OB (o : Ob) : Prop where
  t0 : -9223372036854775808 ≤ o.t
  t1 : o.t ≤ 9223372036854775807
  b0 : 0 ≤ o.band
  b1 : o.band ≤ 255
  n1 : o.name.size ≤ maxLen
  n2 : o.site.size ≤ maxLen
def PrintPost (o : Ob) (w : World) (e : Ending) (w' : World) : Prop := ∃ (s : ByteArray) (c : Int), e = .returned (.tuple #[.string s, .int .i64 c]) ∧ PrintIs o s c ∧ Below w.heap.size w w'
theorem print_any (o : Ob) (w : World) (hT : Gt.Tab w) (hE : ES w) (hb : OB o) : Calls Tryz.prog 11 #[obsV o] w (PrintPost o w) := by
  by_cases ok : okO o
  · refine (print_ok o w hT hE hb.t0 hb.t1 hb.b0 hb.b1 hb.n1 hb.n2 ok).mono ?_
    rintro e w' ⟨day, hd, rfl, h⟩
    exact ⟨_, 0, rfl, Or.inl ⟨ok, ⟨day, hd, rfl⟩, rfl⟩, h⟩
  · refine (print_bad o w hE hb.t0 hb.t1 hb.b0 hb.b1 hb.n1 hb.n2 ok).mono ?_
    rintro e w' ⟨rfl, h⟩
    exact ⟨_, 8, rfl, Or.inr ⟨ok, rfl, rfl⟩, h⟩
theorem obs_parse_any (s : ByteArray) (w : World) (hE : ES w) (hs : s.size ≤ maxLen) : Calls Tryz.prog 13 #[.string s] w (ObsPost s w) := by
  by_cases h8 : s.size = 80
  · by_cases hm : s.extract 12 15 = ⟨#[32, 32, 67]⟩
    · by_cases hb1 : blankP (s.extract 56 65)
      · by_cases hb2 : blankP (s.extract 71 77)
        · by_cases hd : digP (decs (cutS (s.extract 15 32))) (decs (cutS (s.extract 32 44))) (decs (cutS (s.extract 44 56)))
          · exact parse_main s w hE h8 hm hb1 hb2 hd
          · exact parse_dig s w h8 hm hb1 hb2 hd
        · exact parse_b2 s w h8 hm hb1 hb2
      · exact parse_b1 s w h8 hm hb1
    · exact parse_mark s w h8 hm
  · exact parse_size s w hs h8
/-- What Round returns. -/
def RoundIs (o q : Ob) (c : Int) : Prop := (∃ s, PrintIs o s 0 ∧ ObsIs s q c) ∨ (¬ okO o ∧ q = zeroO ∧ c = 8)
theorem RoundIs.uniq {o q q' : Ob} {c c' : Int} (a : RoundIs o q c) (b : RoundIs o q' c') : q = q' ∧ c = c' := by
  have ok : ∀ {s}, PrintIs o s 0 → okO o := fun h => by
    rcases h with ⟨h, _⟩ | ⟨_, _, h⟩
    · exact h
    · cases h
  rcases a with ⟨s, a1, a2⟩ | ⟨a1, a2, a3⟩ <;> rcases b with ⟨s', b1, b2⟩ | ⟨b1, b2, b3⟩
  · obtain ⟨rfl, _⟩ := a1.uniq b1
    exact a2.uniq b2
  · exact absurd (ok a1) b1
  · exact absurd (ok b1) a1
  · exact ⟨by rw [a2, b2], by omega⟩
def RoundPost (o : Ob) (w : World) (e : Ending) (w' : World) : Prop := ∃ (q : Ob) (c : Int), e = .returned (.tuple #[obsV q, .int .i64 c]) ∧ RoundIs o q c ∧ Below w.heap.size w w'
/-- The boxes of Round. -/
structure RX (w0 : World) (o : Ob) (w : World) : Prop where
  below : Below w0.heap.size w0 w
  lt : w0.heap.size + 1 < w.heap.size
  row : w.rangeAt w0.heap.size 0 (obsC o)
  th : w.there (w0.heap.size + 1) 0 8
theorem RX.call {w0 w w' : World} {o : Ob} (h : RX w0 o w) (hb : Below w.heap.size w w') : RX w0 o w' :=
  ⟨below_then h.below hb, Nat.lt_of_lt_of_le h.lt hb.size, rangeAt_below h.row hb (by have := h.lt; omega), there_below h.th hb h.lt⟩
theorem RX.new (w : World) (o : Ob) : RX w o ((w.alloc (.cells (obsC o).toArray 23)).alloc (.cells (obsC zeroO).toArray 23)) := by
  have b1 : Below w.heap.size w (w.alloc (.cells (obsC o).toArray 23)) := (Below.refl _ _).alloc (Nat.le_refl _) _
  refine ⟨b1.alloc (by simp) _, by simp, rangeAt_below (rangeAt_new w _ _) ((Below.refl _ _).alloc (Nat.le_refl _) _) (by simp), ?_⟩
  have := there_new (w.alloc (.cells (obsC o).toArray 23)) (obsC zeroO).toArray 23 8 (by show 8 ≤ 8; omega)
  rwa [show (w.alloc (.cells (obsC o).toArray 23)).heap.size = w.heap.size + 1 by simp] at this
theorem print_size {o : Ob} {s : ByteArray} {c : Int} (h : PrintIs o s c) : s.size ≤ 80 := by
  rcases h with ⟨ok, ⟨day, hd, rfl⟩, _⟩ | ⟨_, rfl, _⟩
  · obtain ⟨n1, n2, _, G⟩ := line_seg ok hd
    rw [G.size]; omega
  · decide
set_option maxRecDepth 100000 in
set_option maxHeartbeats 16000000 in
theorem round_any (o : Ob) (w : World) (hT : Gt.Tab w) (hE : ES w) (hb : OB o) : Calls Tryz.prog 15 #[obsV o] w (RoundPost o w) := by
  have X0 := Lib.hid (RX.new w o)
  have HT := Lib.hid (hT.below X0.out.below)
  have HE := Lib.hid (hE.below X0.out.below)
  have PR := Lib.hid (fun w' (h : Gt.Tab w') (g : ES w') => print_any o w' h g hb)
  clear hT hE hb
  go_enter Tryz.func15, Tryz.ntmps15
  go_wp2_with (refine wpList_load_mid rfl _ (.tmp 1) rfl w.heap.size 0 rfl (obsC o) _ X0.out.row Tryz.underlying23 rfl info8 ?_)
  refine (PR.out _ HT.out HE.out).mono ?_
  rintro e w1 ⟨s, c, rfl, hP, hb⟩
  have X1 := Lib.hid (X0.out.call hb)
  have HE1 := Lib.hid (HE.out.below hb)
  have HP := Lib.hid hP
  have zs := print_size hP
  clear hb hP X0 HT HE PR
  by_cases hc : c = 0
  · subst hc
    have PA := Lib.hid (fun w' (h : ES w') => obs_parse_any s w' h (by unfold maxLen; omega))
    go_wp2_with fail
    refine (PA.out _ HE1.out).mono ?_
    rintro e w2 ⟨q, c, rfl, hQ, hb⟩
    have R := Lib.hid (show RoundIs o q c from Or.inl ⟨s, HP.out, hQ⟩)
    have X2 := Lib.hid (X1.out.call hb)
    clear hb hQ X1 HP PA HE1 zs
    go_wp2_with (refine wpList_store_mid rfl _ (.tmp 2) (.tmp 17) rfl (w.heap.size + 1) 0 _ rfl rfl ?_ info8 ?_ ?_; exact X2.out.th; simp [Value.oneCell'])
    exact bodyPost_ret (ret_cell_tmp Tryz.results15 _ _ (w.heap.size + 1) (obsC q) _ rfl (World.rangeAt_setCells_same _ _ _ _ X2.out.th) Tryz.underlying23 rfl info8) rfl ⟨q, c, rfl, R.out, below_setCells _ (Nat.le_succ _) _ _ _ X2.out.below⟩
  · have hn : ¬ okO o ∧ c = 8 := by
      rcases HP.out with ⟨_, _, h⟩ | ⟨h, _, g⟩
      · exact absurd h hc
      · exact ⟨h, g⟩
    obtain ⟨hn, rfl⟩ := hn
    have R := Lib.hid (show RoundIs o zeroO 8 from Or.inr ⟨hn, rfl, rfl⟩)
    clear hn hc HP
    go_wp2_with (refine wpList_store_mid rfl _ (.tmp 2) (.tmp 13) rfl (w.heap.size + 1) 0 _ rfl rfl ?_ info8 ?_ ?_; exact X1.out.th; simp [Value.oneCell'])
    exact bodyPost_ret (ret_cell_tmp Tryz.results15 _ _ (w.heap.size + 1) (obsC zeroO) _ rfl (World.rangeAt_setCells_same _ _ _ _ X1.out.th) Tryz.underlying23 rfl info8) rfl ⟨zeroO, 8, rfl, R.out, below_setCells _ (Nat.le_succ _) _ _ _ X1.out.below⟩
end Ow
end Go.Proofs.YtgodhaphbgllhaaGreatDoor
/-
  Plain law of observations: exact observations are read back as they are; the chapter's example; no walk here.
-/
namespace Go.Proofs.YtgodhaphbgllhaaGreatDoor
namespace Op
open Go.RowKit Lw Go.Proofs.YtgodhaphbgllhaaGreatDoor.Ap Go.Proofs.YtgodhaphbgllhaaGreatDoor.Mp Go.Proofs.YtgodhaphbgllhaaGreatDoor.At Go.Proofs.YtgodhaphbgllhaaGreatDoor.Ow Go.Proofs.YtgodhaphbgllhaaGreatDoor.Mw

theorem ra_mul {N : Nat} (h : N < 86400000) : Gt.raL ((N * 15000 : Nat) : Int) 3 = Gt.clockL N 3 ∧ Gp.RaIs ⟨(Gt.raL ((N * 15000 : Nat) : Int) 3).toArray⟩ ((N * 15000 : Nat) : Int) 0 := by
  have e1 : (((N * 15000 : Nat) : Int) % 1296000000000).toNat = N * 15000 := by omega
  have e2 : 15000000 / 10 ^ 3 = 15000 := by decide
  have e : Gt.raL ((N * 15000 : Nat) : Int) 3 = Gt.clockL N 3 := by
    unfold Gt.raL
    rw [e1, e2, rnd_mul N 15000 (by omega), Nat.mod_eq_of_lt (by omega)]
  obtain ⟨c1, c2, c3⟩ := Gt.clock_reads N 3 (by omega) (by omega)
  exact ⟨e, by rw [e]; exact Or.inl ⟨c1, by rw [c2]; omega, (c3 15000).symm, rfl⟩⟩
theorem dec_mul {c : Int} {R : Nat} (h : R ≤ 32400000) (hc : c.natAbs = R * 10000) : Gt.decL c 2 = (if c < 0 then 45 else 43) :: Gt.clockL R 2 ∧ Gp.DecIs ⟨(Gt.decL c 2).toArray⟩ c 0 := by
  have e2 : 1000000 / 10 ^ 2 = 10000 := by decide
  have e : Gt.decL c 2 = (if c < 0 then 45 else 43) :: Gt.clockL R 2 := by
    unfold Gt.decL
    rw [hc, e2, rnd_mul R 10000 (by omega)]
  obtain ⟨c1, c2, c3⟩ := Gt.clock_reads R 2 (by omega) (by omega)
  have c4 := c3 10000
  have e3 : ((10000 * 10 ^ 2 : Nat) : Int) = 1000000 := rfl
  rw [e3] at c4
  refine ⟨e, Or.inl ⟨⟨⟨by rw [size_mk, e]; simp, ?_⟩, ?_⟩, ?_, rfl⟩⟩
  · rw [e, Gp.get0]
    by_cases g : c < 0
    · rw [if_pos g]; exact Or.inr rfl
    · rw [if_neg g]; exact Or.inl rfl
  · rw [e, Gp.tail_mk]
    exact ⟨c1, by rw [c2]; omega, by rw [c4]; omega⟩
  · rw [e, Gp.get0, Gp.tail_mk, c4]
    by_cases g : c < 0
    · rw [if_pos g, if_pos (show (((45 : UInt8).toNat : Nat) : Int) = 45 from rfl)]; omega
    · rw [if_neg g, if_neg (by decide)]; omega
/-- An observation that is its own rounding. -/
theorem exact_rnd {day : ByteArray} {o : Ob} (ok : okO o) (hd : DayIs o.t 6 day 0) (hp : PDayIs day o.t 0) (hr : ∃ N : Nat, o.ra = ((N * 15000 : Nat) : Int)) (hc : ∃ R : Nat, o.dec.natAbs = R * 10000) (hs : o.sg = 100000) : Rnd day o o := by
  obtain ⟨_, _, _, _, r0, r1, d0, d1, _, _, _⟩ := ok
  obtain ⟨N, eN⟩ := hr
  obtain ⟨R, eR⟩ := hc
  obtain ⟨a1, a2⟩ := ra_mul (N := N) (by omega)
  obtain ⟨b1, b2⟩ := dec_mul (c := o.dec) (R := R) (by omega) eR
  rw [← eN] at a2
  have dz : Pl.dif o.ra o.ra = 0 := by unfold Pl.dif; simp
  exact ⟨rfl, rfl, rfl, rfl, hs, Int.le_refl _, by omega, hp, hd, a2, rfl, r0, r1, by omega, by omega, b2, d0, d1, by omega, by omega, Or.inr rfl⟩
/-! ### The example -/
def sOA : ByteArray := ⟨([32, 32, 32, 32, 32, 75, 50, 54, 87, 49, 50, 66, 32, 32, 67, 50, 48, 50, 54, 32, 49, 49, 32, 50, 52, 46, 53, 48, 48, 48, 48, 48, 48, 48, 32, 48, 48, 32, 48, 49].append [46, 48, 48, 48, 45, 48, 48, 32, 48, 48, 32, 48, 49, 46, 48, 48, 32, 32, 32, 32, 32, 32, 32, 32, 32, 49, 56, 46, 53, 48, 119, 32, 32, 32, 32, 32, 32, 70, 53, 49] : List UInt8).toArray⟩
def tA : ByteArray := ⟨#[50, 48, 50, 54, 45, 49, 49, 45, 50, 52, 84, 49, 50, 58, 48, 48, 58, 48, 48, 90]⟩
def dayA : ByteArray := ⟨#[50, 48, 50, 54, 32, 49, 49, 32, 50, 52, 46, 53, 48, 48, 48, 48, 48]⟩
def oA : Ob := ⟨⟨#[75, 50, 54, 87, 49, 50, 66]⟩, ⟨#[70, 53, 49]⟩, 848793669184000, 15000000, -1000000, 100000, 1850, 119⟩
theorem k_time : ParseIs tA 848793669184000 0 := parse_k (by decide +kernel) (by decide +kernel)
theorem k_dayA : DayIs 848793669184000 6 dayA 0 := day_k (dd := 6) (by decide) (y := 2026) (m := 11) (d := 24) (h := 12) (i := 0) (s := 0) (u := 0) (by decide +kernel) (by decide +kernel) (by decide +kernel)
theorem k_pdayA : PDayIs dayA 848793669184000 0 := pday_k (by decide +kernel) (by decide +kernel)
theorem k_okA : okO oA := by decide +kernel
theorem k_lineA : lineL dayA oA = sOA.data.toList := by decide +kernel
theorem k_rndA : Rnd dayA oA oA := exact_rnd k_okA k_dayA k_pdayA ⟨1000, rfl⟩ ⟨100, rfl⟩ rfl
theorem k_print : PrintIs oA sOA 0 := Or.inl ⟨k_okA, ⟨dayA, k_dayA, by rw [k_lineA, mk_toL]⟩, rfl⟩
theorem k_parse_oA : ObsIs sOA oA 0 := Or.inl ⟨by have := line_good k_okA k_dayA k_rndA; rwa [k_lineA, mk_toL] at this, rfl⟩
end Op
end Go.Proofs.YtgodhaphbgllhaaGreatDoor
/-
  The walks of given and alive of the law package of observations.
-/
namespace Go.Proofs.YtgodhaphbgllhaaGreatDoor
namespace Ow
open Go.RowKit Lw Go.Proofs.YtgodhaphbgllhaaGreatDoor.Ap Go.Proofs.YtgodhaphbgllhaaGreatDoor.Op Go.Proofs.YtgodhaphbgllhaaGreatDoor.Mp Go.Proofs.YtgodhaphbgllhaaGreatDoor.Mw Go.Proofs.YtgodhaphbgllhaaGreatDoor.At

theorem ret_tmp_cell {P : Program} {fn : Func} {p u : Tmp} {ty : TypeId} (h : fn.results = #[.tmp u, .cell p ty]) (tmps : Array Value) (w : World) (b : Nat) (cs : List Value) (d : TypeDesc)
    (hp : tmps.getD p undef = .pointer (some ⟨b, 0, none⟩)) (hr : w.rangeAt b 0 cs) (hu : P.underlying ty = some d) (hd : d.isRow = true) (hi : (P.info? ty).map (·.size) = some cs.length) :
    (results fn tmps).run P w = .ok (.tuple #[tmps.getD u undef, .agg cs.toArray]) w := by
  have hp' : tmps[p]?.getD undef = .pointer (some ⟨b, 0, none⟩) := by simpa using hp
  simp [results, h, hp', asAddr, run_loadVar_mid w b 0 ty cs d hr hu hd hi, Result.andThen]
set_option maxRecDepth 100000 in
set_option maxHeartbeats 4000000 in
theorem given_any (w : World) : Calls Tryz.prog 27 #[] w fun e w' => e = .returned (.tuple #[.string sOA, obsV oA]) ∧ Below w.heap.size w w' := by
  have PA := Lib.hid (fun w' => Ap.parse_any tA w' (by decide))
  have RS := Lib.hid (Res.new w)
  go_enter Tryz.func27, Tryz.ntmps27
  go_wp2_with fail
  refine (PA.out _).mono ?_
  rintro e w1 ⟨t, c, rfl, hP, hb⟩
  obtain ⟨rfl, rfl⟩ := hP.uniq k_time
  have RS1 := Lib.hid (RS.out.call hb)
  clear hP hb RS PA
  go_wp2_with (refine wpList_store_mid rfl _ (.tmp 1) (.tmp 9) rfl w.heap.size 0 _ rfl rfl ?_ info8 ?_ ?_; exact RS1.out.th; simp [Value.oneCell'])
  exact bodyPost_ret (ret_tmp_cell Tryz.results27 _ _ w.heap.size (obsC oA) _ rfl (World.rangeAt_setCells_same _ _ _ _ RS1.out.th) Tryz.underlying23 rfl info8) rfl ⟨rfl, below_setCells _ (Nat.le_refl _) _ _ _ RS1.out.below⟩
theorem ob_A : OB oA := ⟨by decide, by decide, by decide, by decide, by decide, by decide⟩
set_option maxRecDepth 100000 in
set_option maxHeartbeats 8000000 in
theorem alive_any (w : World) (hT : Gt.Tab w) (hE : ES w) : Calls Tryz.prog 19 #[] w fun e w' => e = .returned (.bool true) ∧ Below w.heap.size w w' := by
  have C1 := Lib.hid (fun w' => given_any w')
  have C2 := Lib.hid (fun w' (h : Gt.Tab w') (g : ES w') => print_any oA w' h g ob_A)
  have C3 := Lib.hid (fun w' (h : ES w') => obs_parse_any sOA w' h (by decide))
  have HT := Lib.hid hT
  have HE := Lib.hid hE
  clear hT hE
  go_enter Tryz.func19, Tryz.ntmps19
  go_wp2_with fail
  refine (C1.out _).mono ?_
  rintro e w1 ⟨rfl, hb⟩
  have X1 := Lib.hid (show OX w w1.heap.size oA _ from ⟨hb.alloc hb.size (.cells (obsC oA).toArray 23), by simp, rangeAt_new w1 _ _⟩)
  have HT1 := Lib.hid (HT.out.below X1.out.below)
  have HE1 := Lib.hid (HE.out.below X1.out.below)
  clear hb C1
  go_wp2_with (first | (refine wpList_store_new rfl _ (.tmp 2) (.tmp 10) rfl _ _ rfl rfl info8 rfl ?_ ?_; simp [Value.oneCell']) | (refine wpList_load_mid rfl _ (.tmp 2) rfl w1.heap.size 0 rfl (obsC oA) _ X1.out.row Tryz.underlying23 rfl info8 ?_))
  refine (C2.out _ HT1.out HE1.out).mono ?_
  rintro e w2 ⟨s, c, rfl, hP, hb⟩
  obtain ⟨rfl, rfl⟩ := hP.uniq k_print
  have X2 := Lib.hid (X1.out.call hb)
  have HE2 := Lib.hid (HE1.out.below hb)
  clear hb hP X1 HT1 HE1 C2
  go_wp2_with fail
  refine (C3.out _ HE2.out).mono ?_
  rintro e w3 ⟨q, c, rfl, hP, hb⟩
  obtain ⟨rfl, rfl⟩ := hP.uniq k_parse_oA
  have b3 : Below w3.heap.size w3 (w3.alloc (.cells (obsC oA).toArray 23)) := (Below.refl _ _).alloc (Nat.le_refl _) _
  have X25 := X2.out.call hb
  have X3 := Lib.hid (X25.call b3)
  have l3 := X25.lt
  clear hb hP X2 HE2 C3 b3
  have q0 := X25.row 0 _ rfl
  have q1 := X25.row 1 _ rfl
  have q2 := X25.row 2 _ rfl
  have q3 := X25.row 3 _ rfl
  have q4 := X25.row 4 _ rfl
  have q5 := X25.row 5 _ rfl
  have q6 := X25.row 6 _ rfl
  have q7 := X25.row 7 _ rfl
  simp only [Nat.zero_add] at q0 q1 q2 q3 q4 q5 q6 q7
  clear X25
  go_wp2_with (refine wpList_store_new rfl _ (.tmp 5) (.tmp 19) rfl _ _ rfl rfl info8 rfl ?_ ?_; simp [Value.oneCell'])
  go_ret
  exact ⟨rfl, X3.out.below⟩
end Ow
end Go.Proofs.YtgodhaphbgllhaaGreatDoor
/-
  The walk of Great of the reference of observations.
-/
namespace Go.Proofs.YtgodhaphbgllhaaGreatDoor
namespace Ow
open Go.RowKit Lw Go.Proofs.YtgodhaphbgllhaaGreatDoor.Ap Go.Proofs.YtgodhaphbgllhaaGreatDoor.Op Go.Proofs.YtgodhaphbgllhaaGreatDoor.Mp Go.Proofs.YtgodhaphbgllhaaGreatDoor.Mw

/-- Observations in a row of memory. -/
def ObsAt (w : World) (b off : Nat) (l : List Ob) : Prop := ∀ i (h : i < l.length), w.rangeAt b (off + i * 8) (obsC (l[i]'h))
theorem ObsAt.below {w w' : World} {b off : Nat} {l : List Ob} (h : ObsAt w b off l) (hb : Below w.heap.size w w') (lt : b < w.heap.size) : ObsAt w' b off l := fun i hi => rangeAt_below (h i hi) hb lt
/-- An observation with long names. -/
def longP (o : Ob) : Prop := 100 < o.name.size ∨ 100 < o.site.size
instance (o : Ob) : Decidable (longP o) := by unfold longP; infer_instance
def greatB (l : List Ob) (most : Int) : Bool := decide ((∃ o ∈ l, longP o) ∨ (most < l.length ∧ (l.length : Int) ≤ 500) ∨ 510 < (l.length : Int))
theorem great_yes {l : List Ob} {most : Int} {i : Nat} (h : i < l.length) (g : longP l[i]) : greatB l most = true := decide_eq_true (Or.inl ⟨_, List.getElem_mem h, g⟩)
theorem great_no {l : List Ob} {most : Int} (h : ∀ i (hi : i < l.length), ¬ longP (l[i]'hi)) : greatB l most = decide ((most < l.length ∧ (l.length : Int) ≤ 500) ∨ 510 < (l.length : Int)) := by
  refine decide_eq_decide.2 ⟨fun g => ?_, fun g => Or.inr g⟩
  rcases g with ⟨o, ho, g⟩ | g
  · obtain ⟨i, hi, rfl⟩ := List.getElem_of_mem ho
    exact absurd g (h i hi)
  · exact g
set_option maxRecDepth 100000 in
set_option maxHeartbeats 4000000 in
theorem great_any (b off cap : Nat) (l : List Ob) (most : Int) (w : World) (hl : ObsAt w b off l) (hm : l.length ≤ 1000000) (hn : ∀ o ∈ l, o.name.size ≤ maxLen ∧ o.site.size ≤ maxLen) :
    Calls Tryz.prog 10 #[.slice (some ⟨b, off, none⟩) l.length cap, .int .i64 most] w fun e w' => e = .returned (.bool (greatB l most)) ∧ w = w' := by
  have HL := Lib.hid hl
  have HN := Lib.hid hn
  have GY := Lib.hid (fun i (h : i < l.length) (g : longP l[i]) => great_yes (most := most) h g)
  obtain ⟨n, hnl⟩ : ∃ n, l.length = n := ⟨_, rfl⟩
  have GN : Hid ((∀ i (hi : i < l.length), ¬ longP (l[i]'hi)) → greatB l most = decide ((most < (n : Int) ∧ (n : Int) ≤ 500) ∨ 510 < (n : Int))) := Lib.hid fun h => by rw [great_no h, hnl]
  clear hl hn
  generalize greatB l most = gb at *
  rw [hnl] at hm ⊢
  have NL := Lib.hid hnl
  clear hnl
  go_enter Tryz.func10, Tryz.ntmps10
  go_wp2_with fail
  go_loop [5] (fun i => ∃ k : Nat, k ≤ n ∧ i = .int .i64 k ∧ Hid (∀ j (h : j < l.length), j < k → ¬ longP (l[j]'h))) (fun i => n - (intOf i).toNat)
  case atStart => exact ⟨0, Nat.zero_le _, rfl, Lib.hid (fun j _ h => by omega)⟩
  case round =>
    obtain ⟨k, hk, rfl, D⟩ := hrel
    by_cases hlt : k < n
    · have hkl : k < l.length := by rw [NL.out]; exact hlt
      have r := HL.out k hkl
      have q0 := r 0 _ rfl
      have q1 := r 1 _ rfl
      rw [Nat.add_zero] at q0
      have i1 : (k : Int) < (n : Int) := by omega
      have GYk := Lib.hid (GY.out k hkl)
      have DK := Lib.hid (fun (g : ¬ longP (l[k]'hkl)) => (show ∀ j (h : j < l.length), j < k + 1 → ¬ longP (l[j]'h) from fun j h hj => by
        by_cases e : j = k
        · subst e; exact g
        · exact D.out j h (by omega)))
      have zz := HN.out _ (List.getElem_mem hkl)
      unfold longP maxLen at *
      clear r D
      generalize (l[k]'hkl).name = nm at *
      generalize (l[k]'hkl).site = st at *
      obtain ⟨z1, z2⟩ := zz
      by_cases g1 : 100 < nm.size
      · have e := Lib.hid (GYk.out (Or.inl g1))
        have g1' : (100 : Int) < nm.size := by omega
        clear GYk DK
        go_wp2_with fail
        go_ret
        exact ⟨by rw [e.out]; rfl, rfl⟩
      · have g1' : ¬ (100 : Int) < nm.size := by omega
        by_cases g2 : 100 < st.size
        · have e := Lib.hid (GYk.out (Or.inr g2))
          have g2' : (100 : Int) < st.size := by omega
          clear GYk DK
          go_wp2_with fail
          go_ret
          exact ⟨by rw [e.out]; rfl, rfl⟩
        · have g2' : ¬ (100 : Int) < st.size := by omega
          have D2 := Lib.hid (DK.out (fun h => h.elim g1 g2))
          clear GYk DK
          go_wp2_with fail
          go_round
          case rel => exact ⟨k + 1, by omega, by go_num, D2⟩
          case measure => simp [intOf]; omega
    · obtain rfl : k = n := by omega
      have E := Lib.hid (GN.out (fun i hi => D.out i hi (by have := NL.out; omega)))
      clear GN D GY HN
      by_cases c1 : most < (k : Int)
      · by_cases c2 : (k : Int) ≤ 500
        · rw [decide_eq_true (Or.inl ⟨c1, c2⟩)] at E
          go_wp2_with fail
          go_ret
          exact ⟨by rw [E.out]; rfl, rfl⟩
        · by_cases c3 : 510 < (k : Int)
          · rw [decide_eq_true (Or.inr c3)] at E
            go_wp2_with fail
            go_ret
            exact ⟨by rw [E.out]; rfl, rfl⟩
          · rw [decide_eq_false (fun h => h.elim (fun x => c2 x.2) c3)] at E
            go_wp2_with fail
            go_ret
            exact ⟨by rw [E.out]; rfl, rfl⟩
      · by_cases c3 : 510 < (k : Int)
        · rw [decide_eq_true (Or.inr c3)] at E
          go_wp2_with fail
          go_ret
          exact ⟨by rw [E.out]; rfl, rfl⟩
        · rw [decide_eq_false (fun h => h.elim (fun x => c1 x.1) c3)] at E
          go_wp2_with fail
          go_ret
          exact ⟨by rw [E.out]; rfl, rfl⟩
end Ow
end Go.Proofs.YtgodhaphbgllhaaGreatDoor
/-
  An observation in a box: what stays at calls, and at stores into its cells.
-/
namespace Go.Proofs.YtgodhaphbgllhaaGreatDoor
namespace Ow
open Go.RowKit Lw Go.Proofs.YtgodhaphbgllhaaGreatDoor.Ap Go.Proofs.YtgodhaphbgllhaaGreatDoor.Op Go.Proofs.YtgodhaphbgllhaaGreatDoor.Mp Go.Proofs.YtgodhaphbgllhaaGreatDoor.Mw

structure Box (b : Nat) (o : Ob) (w : World) : Prop where
  lt : b < w.heap.size
  row : w.rangeAt b 0 (obsC o)
  th : w.there b 0 8
theorem Box.call {w w' : World} {b : Nat} {o : Ob} (h : Box b o w) (hb : Below w.heap.size w w') : Box b o w' := ⟨Nat.lt_of_lt_of_le h.lt hb.size, rangeAt_below h.row hb h.lt, there_below h.th hb h.lt⟩
theorem Box.new (w : World) (o : Ob) : Box w.heap.size o (w.alloc (.cells (obsC o).toArray 23)) := ⟨by simp, rangeAt_new w _ _, there_new w _ _ 8 (by show 8 ≤ 8; omega)⟩
theorem Box.set {w : World} {b : Nat} {o : Ob} (h : Box b o w) (i : Nat) (v : Value) (o' : Ob) (_hi : i < 8) (e : obsC o' = (obsC o).set i v) : Box b o' (w.setCell ⟨b, i, none⟩ v) := by
  have out := World.cell?_setCells_out b [v] i w
  have inn := World.cell?_setCells_in b [v] i w (fun j hj => by
    have hj : j < 1 := hj
    have := (h.th (i + j) (by omega)).1
    rwa [Nat.zero_add] at this)
  have ew : w.setCells b i [v] = w.setCell ⟨b, i, none⟩ v := rfl
  have fz : ∀ p, (w.setCell ⟨b, i, none⟩ v).frozen? p = w.frozen? p := fun p => by rw [← ew, World.frozen?_setCells]
  rw [ew] at out inn
  refine ⟨?_, ?_, ?_⟩
  · have := sets_size b [v] i w
    rw [ew] at this
    rw [this]; exact h.lt
  · intro j x hx
    rw [e] at hx
    rw [Nat.zero_add]
    by_cases hj : j = i
    · subst hj
      have hl : j < (obsC o).length := _hi
      rw [List.getElem?_set_self hl] at hx
      have := inn 0 (by show 0 < 1; omega)
      rw [Nat.add_zero] at this
      rw [this]; exact hx
    · rw [List.getElem?_set_ne (fun h => hj h.symm)] at hx
      rw [out _ (fun _ _ => by show j < i ∨ i + 1 ≤ j; omega)]
      have := h.row j x hx
      rwa [Nat.zero_add] at this
  · intro j hj
    refine ⟨?_, by rw [fz]; exact (h.th j hj).2⟩
    rw [Nat.zero_add]
    by_cases hj2 : j = i
    · subst hj2
      have := inn 0 (by show 0 < 1; omega)
      rw [Nat.add_zero] at this
      rw [this]; rfl
    · rw [out _ (fun _ _ => by show j < i ∨ i + 1 ≤ j; omega)]
      have := (h.th j hj).1
      rwa [Nat.zero_add] at this
theorem Box.apart {w : World} {b c : Nat} {o : Ob} (h : Box b o w) (hc : b ≠ c) (i : Nat) (v : Value) : Box b o (w.setCell ⟨c, i, none⟩ v) := by
  have out := World.cell?_setCells_out c [v] i w
  have ew : w.setCells c i [v] = w.setCell ⟨c, i, none⟩ v := rfl
  have fz : ∀ p, (w.setCell ⟨c, i, none⟩ v).frozen? p = w.frozen? p := fun p => by rw [← ew, World.frozen?_setCells]
  rw [ew] at out
  refine ⟨?_, ?_, ?_⟩
  · have := sets_size c [v] i w
    rw [ew] at this
    rw [this]; exact h.lt
  · intro j x hx
    rw [out _ (fun e => absurd e hc)]
    exact h.row j x hx
  · intro j hj
    rw [fz, out _ (fun e => absurd e hc)]
    exact h.th j hj
theorem OX.apart {w0 w : World} {b c : Nat} {o : Ob} (h : OX w0 b o w) (hc : b ≠ c) (h0 : w0.heap.size ≤ c) (i : Nat) (v : Value) : OX w0 b o (w.setCell ⟨c, i, none⟩ v) := by
  have out := World.cell?_setCells_out c [v] i w
  have ew : w.setCells c i [v] = w.setCell ⟨c, i, none⟩ v := rfl
  rw [ew] at out
  refine ⟨h.below.setCell (p := ⟨c, i, none⟩) h0 v, ?_, ?_⟩
  · have := sets_size c [v] i w
    rw [ew] at this
    rw [this]; exact h.lt
  · intro j x hx
    rw [out _ (fun e => absurd e hc)]
    exact h.row j x hx
theorem OX.draws {w0 w : World} {b : Nat} {o : Ob} (h : OX w0 b o w) (n : Nat) : OX w0 b o (w.drewN n) := h.call (drewN_below2 (Below.refl _ _) n)
theorem Box.draws {w : World} {b : Nat} {o : Ob} (h : Box b o w) (n : Nat) : Box b o (w.drewN n) := h.call (drewN_below2 (Below.refl _ _) n)
end Ow
end Go.Proofs.YtgodhaphbgllhaaGreatDoor
/-
  The walk of Check of the reference of observations.
-/
namespace Go.Proofs.YtgodhaphbgllhaaGreatDoor
namespace Ow
open Go.RowKit Lw Go.Proofs.YtgodhaphbgllhaaGreatDoor.Ap Go.Proofs.YtgodhaphbgllhaaGreatDoor.Op Go.Proofs.YtgodhaphbgllhaaGreatDoor.Mp Go.Proofs.YtgodhaphbgllhaaGreatDoor.Mw

set_option maxRecDepth 100000 in
set_option maxHeartbeats 16000000 in
theorem rcheck_any (o : Ob) (w : World) (h0 : -9223372036854775808 ≤ o.t) (h1 : o.t ≤ 9223372036854775807) (b0 : 0 ≤ o.band) (b1 : o.band ≤ 255) (n1 : o.name.size ≤ maxLen) (n2 : o.site.size ≤ maxLen) :
    Calls Tryz.prog 18 #[obsV o] w fun e w' => e = .returned (.int .i64 (checkC o)) ∧ Below w.heap.size w w' := by
  have K1 := Lib.hid (fun (a : preB o = true) (b : magP o.mag o.band) => check_ok a b)
  have K2 := Lib.hid (fun (b : ¬ magP o.mag o.band) => check_m b)
  have K3 := Lib.hid (fun (b : preB o = false) => check_p b)
  have PD := Lib.hid (show preA o = decide (timeP o.t ∧ nameP o.name ∧ o.site.size = 3 ∧ wordP o.site.data.toList) from rfl)
  have PB := Lib.hid (preB_of o)
  have X0 := OX.new w o
  obtain ⟨nm, st, tt, ra, dec, sg, mg, bd⟩ := o
  simp only at h0 h1 b0 b1 n1 n2 K1 K2 PD PB
  generalize checkC ⟨nm, st, tt, ra, dec, sg, mg, bd⟩ = cc at *
  generalize preB ⟨nm, st, tt, ra, dec, sg, mg, bd⟩ = pb at *
  generalize preA ⟨nm, st, tt, ra, dec, sg, mg, bd⟩ = pa at *
  have C1 := Lib.hid (fun w' => rtime_any tt w' h0 h1)
  have C2 := Lib.hid (fun w' => rname_any nm w' n1)
  have C3 := Lib.hid (fun w' => rword_any st w' n2)
  have q0 := X0.row 0 _ rfl
  have q1 := X0.row 1 _ rfl
  have q2 := X0.row 2 _ rfl
  have q3 := X0.row 3 _ rfl
  have q4 := X0.row 4 _ rfl
  have q5 := X0.row 5 _ rfl
  have q6 := X0.row 6 _ rfl
  have q7 := X0.row 7 _ rfl
  simp only [Nat.zero_add] at q0 q1 q2 q3 q4 q5 q6 q7
  have XX := Lib.hid X0
  have NB := Lib.hid (show nameB nm = true ↔ nameP nm from decide_eq_true_iff)
  have WB := Lib.hid (show wordB st.data.toList = true ↔ wordP st.data.toList from decide_eq_true_iff)
  clear X0 h0 h1 n1
  unfold maxLen at n2
  generalize nameB nm = nb at *
  generalize wordB st.data.toList = wb at *
  go_enter Tryz.func18, Tryz.ntmps18
  go_wp2_with fail
  refine (C1.out _).mono ?_
  rintro e w1 ⟨y, m, d, h, i, s, u, c, rfl, hc, hb⟩
  have bb := below_then hb ((Below.refl _ w1).alloc (Nat.le_refl _) (.cells (dateC y m d h i s u).toArray 79))
  have X1 := XX.out.call bb
  have lt1 : w.heap.size < w1.heap.size := by have := hb.size; simp at this; omega
  clear q0 q1 q2 q3 q4 q5 q6 q7
  have q0 := (XX.out.call hb).row 0 _ rfl
  have q1 := (XX.out.call hb).row 1 _ rfl
  have q2 := (XX.out.call hb).row 2 _ rfl
  have q3 := (XX.out.call hb).row 3 _ rfl
  have q4 := (XX.out.call hb).row 4 _ rfl
  have q5 := (XX.out.call hb).row 5 _ rfl
  have q6 := (XX.out.call hb).row 6 _ rfl
  have q7 := (XX.out.call hb).row 7 _ rfl
  simp only [Nat.zero_add] at q0 q1 q2 q3 q4 q5 q6 q7
  have XX1 := Lib.hid X1
  have HC := Lib.hid hc
  clear hb bb X1 XX C1 hc
  go_upto_region 2 with (refine wpList_store_new rfl _ (.tmp 3) (.tmp 9) rfl _ _ rfl rfl info7 rfl ?_ ?_; simp [Value.oneCell'])
  go_cut [60] (fun q wx => q = .bool (!pb) ∧ OX w w.heap.size ⟨nm, st, tt, ra, dec, sg, mg, bd⟩ wx)
  case first =>
    clear K1 K2 K3
    cases nb
    · have P := Lib.hid (PD.out.trans (decide_eq_false fun g => by have := NB.out.2 g.2.1; cases this))
      have P2 := Lib.hid (PB.out.trans (by rw [P.out]; rfl : _ = false))
      clear PD PB P
      go_wp2_with (first | (refine (C2.out _).mono ?_; rintro e w2 ⟨rfl, rfl⟩) | (refine wpList_store_new rfl _ (.tmp 3) (.tmp 9) rfl _ _ rfl rfl info7 rfl ?_ ?_; simp [Value.oneCell']))
      go_meet
      exact ⟨by rw [P2.out]; rfl, XX1.out⟩
    · by_cases h3 : st.size = 3
      · have k3 : (st.size : Int) = 3 := by omega
        cases wb
        · have P := Lib.hid (PD.out.trans (decide_eq_false fun g => by have := WB.out.2 g.2.2.2; cases this))
          have P2 := Lib.hid (PB.out.trans (by rw [P.out]; rfl : _ = false))
          clear PD PB P
          go_wp2_with (first | (refine (C2.out _).mono ?_; rintro e w2 ⟨rfl, rfl⟩) | (refine (C3.out _).mono ?_; rintro e w3 ⟨rfl, rfl⟩) | (refine wpList_store_new rfl _ (.tmp 3) (.tmp 9) rfl _ _ rfl rfl info7 rfl ?_ ?_; simp [Value.oneCell']))
          go_meet
          exact ⟨by rw [P2.out]; rfl, XX1.out⟩
        · rcases HC.out with ⟨ht, rfl⟩ | ⟨ht, rfl⟩
          · have P := Lib.hid (PD.out.trans (decide_eq_true ⟨ht, NB.out.1 (by first | rfl | trivial), h3, WB.out.1 (by first | rfl | trivial)⟩))
            have P1 := Lib.hid (PB.out.trans (by rw [P.out, Bool.true_and] : _ = decide (rngP ra dec sg)))
            clear PD PB P ht HC
            rcases rng_cases ra dec sg with g | ⟨g, g'⟩
            · have P2 := Lib.hid (P1.out.trans (decide_eq_true g))
              obtain ⟨r1, r2, r3, r4, r5, r6⟩ := g
              clear P1
              go_wp2_with (first | (refine (C2.out _).mono ?_; rintro e w2 ⟨rfl, rfl⟩) | (refine (C3.out _).mono ?_; rintro e w3 ⟨rfl, rfl⟩) | (refine wpList_store_new rfl _ (.tmp 3) (.tmp 9) rfl _ _ rfl rfl info7 rfl ?_ ?_; simp [Value.oneCell']))
              go_meet
              exact ⟨by first | (rw [P2.out]; rfl) | (rw [P2.out]; congr 1; simp; omega), XX1.out⟩
            · have P2 := Lib.hid (P1.out.trans (decide_eq_false g))
              clear P1 g
              rcases g' with r1 | ⟨r1, r2⟩ | ⟨r1, r2, r3⟩ | ⟨r1, r2, r3, r4⟩ | ⟨r1, r2, r3, r4, r5⟩ | ⟨r1, r2, r3, r4, r5, r6⟩
              all_goals
                go_wp2_with (first | (refine (C2.out _).mono ?_; rintro e w2 ⟨rfl, rfl⟩) | (refine (C3.out _).mono ?_; rintro e w3 ⟨rfl, rfl⟩) | (refine wpList_store_new rfl _ (.tmp 3) (.tmp 9) rfl _ _ rfl rfl info7 rfl ?_ ?_; simp [Value.oneCell']))
                go_meet
                exact ⟨by first | (rw [P2.out]; rfl) | (rw [P2.out]; congr 1; simp; omega), XX1.out⟩
          · have P := Lib.hid (PD.out.trans (decide_eq_false fun g => ht g.1))
            have P2 := Lib.hid (PB.out.trans (by rw [P.out]; rfl : _ = false))
            clear PD PB P ht HC
            go_wp2_with (first | (refine (C2.out _).mono ?_; rintro e w2 ⟨rfl, rfl⟩) | (refine (C3.out _).mono ?_; rintro e w3 ⟨rfl, rfl⟩) | (refine wpList_store_new rfl _ (.tmp 3) (.tmp 9) rfl _ _ rfl rfl info7 rfl ?_ ?_; simp [Value.oneCell']))
            go_meet
            exact ⟨by rw [P2.out]; rfl, XX1.out⟩
      · have P := Lib.hid (PD.out.trans (decide_eq_false fun g => h3 g.2.2.1))
        have P2 := Lib.hid (PB.out.trans (by rw [P.out]; rfl : _ = false))
        have k3 : ¬ (st.size : Int) = 3 := by omega
        clear PD PB P
        go_wp2_with (first | (refine (C2.out _).mono ?_; rintro e w2 ⟨rfl, rfl⟩) | (refine wpList_store_new rfl _ (.tmp 3) (.tmp 9) rfl _ _ rfl rfl info7 rfl ?_ ?_; simp [Value.oneCell']))
        go_meet
        exact ⟨by rw [P2.out]; rfl, XX1.out⟩
  case rest =>
    obtain ⟨rfl, X4⟩ := hcut
    clear q0 q1 q2 q3 q4 q5 q6 q7
    have q0 := X4.row 0 _ rfl
    have q1 := X4.row 1 _ rfl
    have q2 := X4.row 2 _ rfl
    have q3 := X4.row 3 _ rfl
    have q4 := X4.row 4 _ rfl
    have q5 := X4.row 5 _ rfl
    have q6 := X4.row 6 _ rfl
    have q7 := X4.row 7 _ rfl
    simp only [Nat.zero_add] at q0 q1 q2 q3 q4 q5 q6 q7
    have XX4 := Lib.hid X4
    clear X4 XX1 HC PD PB C2 C3 NB WB lt1
    cases pb
    · have E := Lib.hid (K3.out rfl)
      clear K1 K2 K3
      go_wp2_with fail
      go_ret
      exact ⟨by rw [E.out]; rfl, XX4.out.below⟩
    · have L1 := Lib.hid (fun w' => rletter_any bd w')
      rcases mag_cases mg bd with ⟨rfl, rfl, g⟩ | ⟨h9, rfl, h1, g⟩ | ⟨h9, rfl, h1, h2, g⟩ | ⟨h9, rfl, h1, h2, g⟩ | ⟨hb, h1, g⟩ | ⟨hb, h1, h2, h9, g⟩ | ⟨hb, rfl, g⟩ | ⟨hb, h1, h2, h9, g⟩
      · have E := Lib.hid (K1.out rfl g)
        clear K1 K2 K3 g
        go_wp2_with fail
        go_ret
        exact ⟨by rw [E.out]; rfl, XX4.out.below⟩
      · have E := Lib.hid (K2.out g)
        clear K1 K2 K3 g
        have hm2 : (mg == 9999) = false := beq_eq_false_iff_ne.2 h9
        go_wp2_with fail
        go_ret
        exact ⟨by rw [E.out]; rfl, XX4.out.below⟩
      · have E := Lib.hid (K2.out g)
        clear K1 K2 K3 g
        have hm2 : (mg == 9999) = false := beq_eq_false_iff_ne.2 h9
        go_wp2_with fail
        go_ret
        exact ⟨by rw [E.out]; rfl, XX4.out.below⟩
      · have E := Lib.hid (K1.out rfl g)
        have el : ltB 32 = false := by decide
        rw [el] at L1
        clear K1 K2 K3 g el
        have hm2 : (mg == 9999) = false := beq_eq_false_iff_ne.2 h9
        go_wp2_with (refine (L1.out _).mono ?_; rintro e w5 ⟨rfl, rfl⟩)
        go_ret
        exact ⟨by rw [E.out]; rfl, XX4.out.below⟩
      · have E := Lib.hid (K2.out g)
        clear K1 K2 K3 g
        have h9 : mg ≠ 9999 := by omega
        have hb2 : (bd == 32) = false := beq_eq_false_iff_ne.2 hb
        have hb3 : (bd != 32) = true := by simpa using hb
        have hm2 : (mg == 9999) = false := beq_eq_false_iff_ne.2 h9
        go_wp2_with fail
        go_ret
        exact ⟨by rw [E.out]; rfl, XX4.out.below⟩
      · have E := Lib.hid (K2.out g)
        clear K1 K2 K3 g
        have hb2 : (bd == 32) = false := beq_eq_false_iff_ne.2 hb
        have hb3 : (bd != 32) = true := by simpa using hb
        have hm2 : (mg == 9999) = false := beq_eq_false_iff_ne.2 h9
        go_wp2_with fail
        go_ret
        exact ⟨by rw [E.out]; rfl, XX4.out.below⟩
      · have E := Lib.hid (K2.out g)
        clear K1 K2 K3 g
        have hb2 : (bd == 32) = false := beq_eq_false_iff_ne.2 hb
        have hb3 : (bd != 32) = true := by simpa using hb
        go_wp2_with fail
        go_ret
        exact ⟨by rw [E.out]; rfl, XX4.out.below⟩
      · rcases lt_cases bd with ⟨hl, el⟩ | ⟨hl, el⟩
        · have E := Lib.hid (K1.out rfl (g.2 hl))
          rw [el] at L1
          clear K1 K2 K3 g hl el
          have hb2 : (bd == 32) = false := beq_eq_false_iff_ne.2 hb
          have hb3 : (bd != 32) = true := by simpa using hb
          have hm2 : (mg == 9999) = false := beq_eq_false_iff_ne.2 h9
          go_wp2_with (refine (L1.out _).mono ?_; rintro e w5 ⟨rfl, rfl⟩)
          go_ret
          exact ⟨by rw [E.out]; rfl, XX4.out.below⟩
        · have E := Lib.hid (K2.out (fun x => hl (g.1 x)))
          rw [el] at L1
          clear K1 K2 K3 g hl el
          have hb2 : (bd == 32) = false := beq_eq_false_iff_ne.2 hb
          have hb3 : (bd != 32) = true := by simpa using hb
          have hm2 : (mg == 9999) = false := beq_eq_false_iff_ne.2 h9
          go_wp2_with (refine (L1.out _).mono ?_; rintro e w5 ⟨rfl, rfl⟩)
          go_ret
          exact ⟨by rw [E.out]; rfl, XX4.out.below⟩
end Ow
end Go.Proofs.YtgodhaphbgllhaaGreatDoor
/-
  What the rows of the laws of observations say of memory: the table of powers, and the error of strconv.
-/
namespace Go.Proofs.YtgodhaphbgllhaaGreatDoor
namespace Ow
open Go.RowKit Lw

theorem laidMet_tail {P : Program} {W : World} {x : String × DataW Unit} {rest : List (String × DataW Unit)} (h : laidMet P (x :: rest) W) : laidMet P rest W := by
  obtain ⟨n, d⟩ := x
  obtain ⟨ps, ⟨g', t', cs, fuel, p, q, hg', ht', hvar, hd, hr, hp⟩, hn, ha⟩ := h
  subst hp
  exact ⟨q, hr, (List.nodup_append.1 hn).2.1, fun b off hm => ha b off (List.mem_append_right _ hm)⟩
set_option maxRecDepth 100000 in
theorem err_one {enc : TypeId × Value → Unit} {W : World} {base : Nat} {sp : Nat → Bool} {fuel : Nat} {t : TypeId} {tys : Array (String × TypeId)} {v : Value} {y : DataW Unit × List MemPlace} (ht : Tryz.prog.underlying t = some (.interface tys)) (h : DataW.trod enc Tryz.prog W base sp false fuel t [v] = some y) : v = .nilIface ∨ ∃ te pe, v = .iface te pe := by
  cases fuel with
  | zero => simp [DataW.trod] at h
  | succ n =>
    cases v with
    | nilIface => exact Or.inl rfl
    | iface te pe => exact Or.inr ⟨te, pe, rfl⟩
    | _ => simp [DataW.trod, ht] at h
set_option maxRecDepth 100000 in
theorem err_cell {enc : TypeId × Value → Unit} {W : World} {base : Nat} {sp : Nat → Bool} {fuel : Nat} {t : TypeId} {tys : Array (String × TypeId)} {cs : List Value} {y : DataW Unit × List MemPlace} (ht : Tryz.prog.underlying t = some (.interface tys)) (h : DataW.trod enc Tryz.prog W base sp false fuel t cs = some y) :
    ∃ v, cs = [v] ∧ (v = .nilIface ∨ ∃ te pe, v = .iface te pe) := by
  cases fuel with
  | zero => simp [DataW.trod] at h
  | succ n =>
    match cs, h with
    | [], h => simp [DataW.trod, ht] at h
    | [v], h =>
      exact ⟨v, rfl, err_one ht h⟩
    | _ :: _ :: _, h => simp [DataW.trod, ht] at h
theorem es_of {W : World} (hL : laidMet Tryz.prog Rows.obsLinesRow.laid W) : ES W := by
  obtain ⟨ps, ⟨g', t', cs, fuel, p, q, hg', ht', hvar, hd, _, _⟩, _⟩ := laidMet_tail (laidMet_tail (laidMet_tail (laidMet_tail (laidMet_tail hL))))
  have hg : Tryz.prog.globalNamed "strconv.ErrSyntax" = some 3 := by kernel_rfl
  have hty : (Tryz.prog.globals[(3 : Nat)]?).map (·.type) = some 91 := by kernel_rfl
  obtain rfl := Option.some.inj (hg.symm.trans hg')
  obtain rfl := Option.some.inj (hty.symm.trans ht')
  obtain ⟨tys, hu⟩ : ∃ tys, Tryz.prog.underlying 91 = some (.interface tys) := ⟨_, Tryz.underlying91⟩
  obtain ⟨v, hc, hv⟩ := err_cell hu hd
  have c := World.var?_cell hg hvar 0
  have e0 : cs[0]? = some v := by
    rw [← Array.getElem?_toList, hc]; rfl
  rw [e0] at c
  refine ⟨?_, v, c, hv⟩
  rcases Nat.lt_or_ge 3 W.heap.size with h | h
  · exact h
  · exfalso
    unfold World.cell? at c
    rw [Array.getElem?_eq_none h] at c
    cases c
theorem tab_of {W : World} (hL : laidMet Tryz.prog Rows.obsLinesRow.laid W) : Gt.Tab W :=
  Lib.tabIs_of_head (t := 218) (e := 115) (n := 20) Gt.gPow (by kernel_rfl) (by kernel_rfl) (by kernel_rfl) (by kernel_rfl) (by kernel_rfl) (laidMet_tail (laidMet_tail hL))
end Ow
end Go.Proofs.YtgodhaphbgllhaaGreatDoor
/-
  The walk of the law ObsRound.
-/
namespace Go.Proofs.YtgodhaphbgllhaaGreatDoor
namespace Ow
open Go.RowKit Lw Go.Proofs.YtgodhaphbgllhaaGreatDoor.Ap Go.Proofs.YtgodhaphbgllhaaGreatDoor.Op Go.Proofs.YtgodhaphbgllhaaGreatDoor.Mp Go.Proofs.YtgodhaphbgllhaaGreatDoor.Mw Go.Proofs.YtgodhaphbgllhaaGreatDoor.At

theorem great_one {w : World} {o : Ob} (hb : OB o) : Calls Tryz.prog 10 #[.slice (some ⟨w.heap.size, 0, none⟩) 1 1, .int .i64 1] (w.alloc (.cells (obsC o).toArray 23)) fun e w' => e = .returned (.bool (decide (longP o))) ∧ (w.alloc (.cells (obsC o).toArray 23)) = w' := by
  have h := great_any w.heap.size 0 1 [o] 1 (w.alloc (.cells (obsC o).toArray 23)) (fun i hi => by
    have hi : i < 1 := hi
    obtain rfl : i = 0 := by omega
    exact rangeAt_new w _ _) (by show 1 ≤ _; omega) (fun x hx => by
    obtain rfl := List.mem_singleton.1 hx
    exact ⟨hb.n1, hb.n2⟩)
  have e : greatB [o] 1 = decide (longP o) := decide_eq_decide.2 ⟨fun g => by
    rcases g with ⟨x, hx, g⟩ | ⟨g, _⟩ | g
    · obtain rfl := List.mem_singleton.1 hx; exact g
    · simp at g
    · simp at g, fun g => Or.inl ⟨o, List.mem_singleton_self o, g⟩⟩
  rw [e] at h
  exact h
/-- What is known of an observation that is rounded. -/
structure RndB (o r : Ob) : Prop where
  name : r.name = o.name
  site : r.site = o.site
  mag : r.mag = o.mag
  band : r.band = o.band
  sg : r.sg = 100000
  l0 : 0 ≤ o.t - r.t
  l1 : o.t - r.t < 100000
  d0 : o.dec - r.dec ≤ 5000
  d1 : -5000 ≤ o.dec - r.dec
  a0 : 0 ≤ o.ra - r.ra + 1296000000000
  a1 : o.ra - r.ra + 1296000000000 < 2592000000000
  a2 : (o.ra - r.ra + 1296000000000) % 1296000000000 ≤ 7500 ∨ 1295999992500 ≤ (o.ra - r.ra + 1296000000000) % 1296000000000
theorem rnd_b {day : ByteArray} {o r : Ob} (h : Rnd day o r) (ok : okO o) : RndB o r := by
  obtain ⟨_, _, _, _, r0, r1, _⟩ := ok
  have d1 := h.dif1
  have d2 := h.dif2
  have a := h.dd1
  have b := h.dd2
  have c := h.le
  have d := h.near
  have e := h.ra0
  have f := h.ra1
  refine ⟨h.name, h.site, h.mag, h.band, h.sg, by omega, by omega, by omega, by omega, by omega, by omega, ?_⟩
  unfold Pl.dif at d1 d2
  split at d1 <;> omega
set_option maxRecDepth 100000 in
set_option maxHeartbeats 40000000 in
theorem round_bad (o : Ob) (w : World) (hT : Gt.Tab w) (hE : ES w) (hb : OB o) (no : longP o ∨ ¬ okO o) : Calls Tryz.prog 6 #[obsV o] w fun e w' => e = .returned (.bool true) ∧ Below w.heap.size w w' := by
  have X0 := Lib.hid (OX.new w o)
  have HT := Lib.hid (hT.below X0.out.below)
  have HE := Lib.hid (hE.below X0.out.below)
  have AL := Lib.hid (fun w' (h : Gt.Tab w') (g : ES w') => alive_any w' h g)
  have GR := Lib.hid (fun w' : World => great_one (w := w') hb)
  have RC := Lib.hid (fun w' => rcheck_any o w' hb.t0 hb.t1 hb.b0 hb.b1 hb.n1 hb.n2)
  clear hT hE hb
  obtain ⟨nm, st, tt, ra, dec, sg, mg, bd⟩ := o
  go_enter Tryz.func6, Tryz.ntmps6
  go_wp2_with fail
  refine (AL.out _ HT.out HE.out).mono ?_
  rintro e w1 ⟨rfl, hb⟩
  have X1 := Lib.hid (X0.out.call hb)
  clear hb AL HT HE X0
  go_wp2_with (refine wpList_load_mid rfl _ (.tmp 1) rfl w.heap.size 0 rfl (obsC ⟨nm, st, tt, ra, dec, sg, mg, bd⟩) _ X1.out.row Tryz.underlying23 rfl info8 ?_)
  refine (GR.out _).mono ?_
  rintro e w2 ⟨rfl, rfl⟩
  have X2 := Lib.hid (X1.out.call ((Below.refl w1.heap.size w1).alloc (Nat.le_refl _) (.cells (obsC ⟨nm, st, tt, ra, dec, sg, mg, bd⟩).toArray 23)))
  by_cases hl : longP ⟨nm, st, tt, ra, dec, sg, mg, bd⟩
  · rw [decide_eq_true hl]
    clear no hl GR RC X1
    go_wp2_with fail
    go_ret
    exact ⟨rfl, X2.out.below⟩
  · rw [decide_eq_false hl]
    rw [show checkC ⟨nm, st, tt, ra, dec, sg, mg, bd⟩ = 8 from if_neg (no.resolve_left hl)] at RC
    clear no hl GR
    have q0 := X1.out.row 0 _ rfl
    have q1 := X1.out.row 1 _ rfl
    have q2 := X1.out.row 2 _ rfl
    have q3 := X1.out.row 3 _ rfl
    have q4 := X1.out.row 4 _ rfl
    have q5 := X1.out.row 5 _ rfl
    have q6 := X1.out.row 6 _ rfl
    have q7 := X1.out.row 7 _ rfl
    simp only [Nat.zero_add] at q0 q1 q2 q3 q4 q5 q6 q7
    have lt1 := X1.out.lt
    go_wp2_with fail
    refine (RC.out _).mono ?_
    rintro e w3 ⟨rfl, hb⟩
    have X3 := Lib.hid (X2.out.call hb)
    clear hb X2 X1 q0 q1 q2 q3 q4 q5 q6 q7 lt1
    go_wp2_with fail
    go_ret
    exact ⟨rfl, X3.out.below⟩
end Ow
end Go.Proofs.YtgodhaphbgllhaaGreatDoor
/-
  Plain law of observations: the plan of the law ObsRound.
-/
namespace Go.Proofs.YtgodhaphbgllhaaGreatDoor
namespace Ow
open Go.RowKit Lw Go.Proofs.YtgodhaphbgllhaaGreatDoor.Ap Go.Proofs.YtgodhaphbgllhaaGreatDoor.Op Go.Proofs.YtgodhaphbgllhaaGreatDoor.Mp Go.Proofs.YtgodhaphbgllhaaGreatDoor.Mw Go.Proofs.YtgodhaphbgllhaaGreatDoor.At

theorem day_has {t : Int} (h : timeP t) : ∃ day, DayIs t 6 day 0 := by
  unfold timeP at h
  obtain ⟨n, y, m, z, k, hd⟩ := day_ex t (by omega) (by omega)
  exact ⟨_, Or.inr (Or.inr ⟨by omega, by omega, h.1, h.2, n, y, m, z, k, hd, rfl, rfl⟩)⟩
theorem ok_ob {o : Ob} (ok : okO o) : OB o := by
  obtain ⟨t, n, s, _, _, _, _, _, _, _, m⟩ := ok
  obtain ⟨b0, b1, _⟩ := band_u8 m
  have b : -1000000000000000 ≤ bgv (-10227) 1972 1 ∧ bgv 36525 2100 1 ≤ 10000000000000000 := by decide +kernel
  unfold timeP at t
  have z : o.name.size ≤ 7 := by
    rcases n with h | h
    · have := h.1; omega
    · exact h.2.1
  exact ⟨by omega, by omega, b0, b1, by unfold maxLen; omega, by unfold maxLen; omega⟩
def negZ : ByteArray := ⟨#[45, 48, 48, 32, 48, 48, 32, 48, 48, 46, 48, 48]⟩
theorem negZ_is : 45 :: Gt.clockL 0 2 = negZ.data.toList := by decide +kernel
theorem line_eq {day : ByteArray} {o r : Ob} (R : Rnd day o r) (h : Gt.decL r.dec 2 = Gt.decL o.dec 2) : lineL day r = lineL day o := by
  unfold lineL
  rw [R.name, R.ra, h, R.mag, R.band, R.site]
/-- All that the law ObsRound asks of an observation. -/
theorem round_plan {o : Ob} (ok : okO o) : ∃ (r : Ob) (S T : ByteArray), PrintIs o S 0 ∧ ObsIs S r 0 ∧ RoundIs o r 0 ∧ RoundIs r r 0 ∧ PrintIs r T 0 ∧ S.size = 80 ∧ (T = S ∨ S.extract 44 56 = negZ) ∧ RndB o r ∧ okO r := by
  obtain ⟨day, hd⟩ := day_has ok.1
  obtain ⟨r, R⟩ := rnd_ex ok hd
  have okr := R.okO ok
  obtain ⟨q, R2⟩ := rnd_ex okr R.day
  obtain rfl := R.again R2
  have pS : PrintIs o ⟨(lineL day o).toArray⟩ 0 := Or.inl ⟨ok, ⟨day, hd, rfl⟩, rfl⟩
  have pT : PrintIs q ⟨(lineL day q).toArray⟩ 0 := Or.inl ⟨okr, ⟨day, R.day, rfl⟩, rfl⟩
  have gS : ObsIs ⟨(lineL day o).toArray⟩ q 0 := Or.inl ⟨line_good ok hd R, rfl⟩
  have gT : ObsIs ⟨(lineL day q).toArray⟩ q 0 := Or.inl ⟨line_good okr R.day R2, rfl⟩
  obtain ⟨n1, n2, _, G⟩ := line_seg ok hd
  refine ⟨q, _, _, pS, gS, Or.inl ⟨_, pS, gS⟩, Or.inl ⟨_, pT, gT⟩, pT, G.size, ?_, rnd_b R ok, okr⟩
  rcases R.dec with ⟨_, _, e⟩ | e
  · right
    rw [G.x44, e, negZ_is, mk_toL]
  · left
    rw [line_eq R e]
end Ow
end Go.Proofs.YtgodhaphbgllhaaGreatDoor
/-
  The walk of the law ObsRound: the main way.
-/
namespace Go.Proofs.YtgodhaphbgllhaaGreatDoor
namespace Ow
open Go.RowKit Lw Go.Proofs.YtgodhaphbgllhaaGreatDoor.Ap Go.Proofs.YtgodhaphbgllhaaGreatDoor.Op Go.Proofs.YtgodhaphbgllhaaGreatDoor.Mp Go.Proofs.YtgodhaphbgllhaaGreatDoor.Mw Go.Proofs.YtgodhaphbgllhaaGreatDoor.At

set_option maxRecDepth 100000 in
set_option maxHeartbeats 40000000 in
theorem round_main (o : Ob) (w : World) (hT : Gt.Tab w) (hE : ES w) (hb : OB o) (ok : okO o) (nl : ¬ longP o) : Calls Tryz.prog 6 #[obsV o] w fun e w' => e = .returned (.bool true) ∧ Below w.heap.size w w' := by
  have X0 := Lib.hid (OX.new w o)
  have HT := Lib.hid (hT.below X0.out.below)
  have HE := Lib.hid (hE.below X0.out.below)
  have AL := Lib.hid (fun w' (h : Gt.Tab w') (g : ES w') => alive_any w' h g)
  have GR := Lib.hid (fun w' : World => great_one (w := w') hb)
  have HTw := Lib.hid hT
  have HEw := Lib.hid hE
  have RC := Lib.hid (fun w' => rcheck_any o w' hb.t0 hb.t1 hb.b0 hb.b1 hb.n1 hb.n2)
  rw [show checkC o = 0 from if_pos ok] at RC
  rw [decide_eq_false nl] at GR
  obtain ⟨r, S, T, p1, p2, p3, p4, p5, zS, hTS, RB, okr⟩ := round_plan ok
  have obr := ok_ob okr
  have PO := Lib.hid (fun w' (h : Gt.Tab w') (g : ES w') => print_any o w' h g hb)
  have PS := Lib.hid (fun w' (g : ES w') => obs_parse_any S w' g (by rw [zS]; decide))
  have RO := Lib.hid (fun w' (h : Gt.Tab w') (g : ES w') => round_any o w' h g hb)
  have RR := Lib.hid (fun w' (h : Gt.Tab w') (g : ES w') => round_any r w' h g obr)
  have PR := Lib.hid (fun w' (h : Gt.Tab w') (g : ES w') => print_any r w' h g obr)
  have Q1 := Lib.hid p1
  have Q2 := Lib.hid p2
  have Q3 := Lib.hid p3
  have Q4 := Lib.hid p4
  have Q5 := Lib.hid p5
  have RB := Lib.hid RB
  have TS := Lib.hid hTS
  clear hT hE hb p1 p2 p3 p4 p5 okr obr ok nl hTS
  obtain ⟨nm, st, tt, ra, dec, sg, mg, bd⟩ := o
  obtain ⟨rn, rs, rt, rr, rd, rg, rm, rb⟩ := r
  obtain rfl : rn = nm := RB.out.name
  obtain rfl : rs = st := RB.out.site
  obtain rfl : rm = mg := RB.out.mag
  obtain rfl : rb = bd := RB.out.band
  obtain rfl : rg = 100000 := RB.out.sg
  go_enter Tryz.func6, Tryz.ntmps6
  go_wp2_with fail
  refine (AL.out _ HT.out HE.out).mono ?_
  rintro e w1 ⟨rfl, hb⟩
  have X1 := Lib.hid (X0.out.call hb)
  clear hb AL X0
  go_wp2_with (refine wpList_load_mid rfl _ (.tmp 1) rfl w.heap.size 0 rfl (obsC ⟨rn, rs, tt, ra, dec, sg, rm, rb⟩) _ X1.out.row Tryz.underlying23 rfl info8 ?_)
  refine (GR.out _).mono ?_
  rintro e w2 ⟨rfl, rfl⟩
  have X2 := Lib.hid (X1.out.call ((Below.refl w1.heap.size w1).alloc (Nat.le_refl _) (.cells (obsC ⟨rn, rs, tt, ra, dec, sg, rm, rb⟩).toArray 23)))
  have q0 := X1.out.row 0 _ rfl
  have q1 := X1.out.row 1 _ rfl
  have q2 := X1.out.row 2 _ rfl
  have q3 := X1.out.row 3 _ rfl
  have q4 := X1.out.row 4 _ rfl
  have q5 := X1.out.row 5 _ rfl
  have q6 := X1.out.row 6 _ rfl
  have q7 := X1.out.row 7 _ rfl
  simp only [Nat.zero_add] at q0 q1 q2 q3 q4 q5 q6 q7
  have lt1 := X1.out.lt
  clear GR
  go_wp2_with fail
  refine (RC.out _).mono ?_
  rintro e w3 ⟨rfl, hb⟩
  have X3 := Lib.hid (X2.out.call hb)
  clear hb X2 X1 q0 q1 q2 q3 q4 q5 q6 q7 lt1 RC HT HE
  go_wp2_with (refine wpList_load_mid rfl _ (.tmp 1) rfl w.heap.size 0 rfl (obsC ⟨rn, rs, tt, ra, dec, sg, rm, rb⟩) _ X3.out.row Tryz.underlying23 rfl info8 ?_)
  refine (PO.out _ (HTw.out.below X3.out.below) (HEw.out.below X3.out.below)).mono ?_
  rintro e w4 ⟨S', c, rfl, hP, hb⟩
  obtain ⟨rfl, rfl⟩ := hP.uniq Q1.out
  have X4 := Lib.hid (X3.out.call hb)
  clear hb hP X3 PO Q1
  go_wp2_with fail
  refine (PS.out _ (HEw.out.below X4.out.below)).mono ?_
  rintro e w5 ⟨q, c, rfl, hP, hb⟩
  obtain ⟨rfl, rfl⟩ := hP.uniq Q2.out
  have b5 : Below w5.heap.size w5 (w5.alloc (.cells (obsC ⟨rn, rs, rt, rr, rd, 100000, rm, rb⟩).toArray 23)) := (Below.refl _ _).alloc (Nat.le_refl _) _
  have X5a := X4.out.call hb
  have X5 := Lib.hid (X5a.call b5)
  have B5 := Lib.hid (Box.new w5 ⟨rn, rs, rt, rr, rd, 100000, rm, rb⟩)
  have AB := X5a.lt
  clear hb hP X4 PS Q2 b5 X5a
  go_wp2_with (first | (refine wpList_store_new rfl _ (.tmp 6) (.tmp 39) rfl _ _ rfl rfl info8 rfl ?_ ?_; simp [Value.oneCell']) | (refine wpList_load_mid rfl _ (.tmp 1) rfl w.heap.size 0 rfl (obsC ⟨rn, rs, tt, ra, dec, sg, rm, rb⟩) _ X5.out.row Tryz.underlying23 rfl info8 ?_))
  refine (RO.out _ (HTw.out.below X5.out.below) (HEw.out.below X5.out.below)).mono ?_
  rintro e w6 ⟨q, c, rfl, hP, hb⟩
  obtain ⟨rfl, rfl⟩ := hP.uniq Q3.out
  have b6 : Below w6.heap.size w6 (w6.alloc (.cells (obsC ⟨rn, rs, rt, rr, rd, 100000, rm, rb⟩).toArray 23)) := (Below.refl _ _).alloc (Nat.le_refl _) _
  have X6 := Lib.hid ((X5.out.call hb).call b6)
  have B6a := B5.out.call hb
  have B6 := Lib.hid (B6a.call b6)
  have C6 := Lib.hid (Box.new w6 ⟨rn, rs, rt, rr, rd, 100000, rm, rb⟩)
  clear hb hP X5 B5 RO Q3 b6 B6a
  go_wp2_with (first | (refine wpList_store_new rfl _ (.tmp 8) (.tmp 44) rfl _ _ rfl rfl info8 rfl ?_ ?_; simp [Value.oneCell']) | (refine wpList_load_mid rfl _ (.tmp 6) rfl w5.heap.size 0 rfl (obsC ⟨rn, rs, rt, rr, rd, 100000, rm, rb⟩) _ B6.out.row Tryz.underlying23 rfl info8 ?_))
  refine (RR.out _ (HTw.out.below X6.out.below) (HEw.out.below X6.out.below)).mono ?_
  rintro e w7 ⟨q, c, rfl, hP, hb⟩
  obtain ⟨rfl, rfl⟩ := hP.uniq Q4.out
  have b7 : Below w7.heap.size w7 (w7.alloc (.cells (obsC ⟨rn, rs, rt, rr, rd, 100000, rm, rb⟩).toArray 23)) := (Below.refl _ _).alloc (Nat.le_refl _) _
  have X7 := Lib.hid ((X6.out.call hb).call b7)
  have B7 := Lib.hid ((B6.out.call hb).call b7)
  have C7 := Lib.hid ((C6.out.call hb).call b7)
  have D7 := Lib.hid (Box.new w7 ⟨rn, rs, rt, rr, rd, 100000, rm, rb⟩)
  clear hb hP X6 B6 C6 RR Q4 b7
  go_wp2_with (first | (refine wpList_store_new rfl _ (.tmp 10) (.tmp 49) rfl _ _ rfl rfl info8 rfl ?_ ?_; simp [Value.oneCell']) | (refine wpList_load_mid rfl _ (.tmp 6) rfl w5.heap.size 0 rfl (obsC ⟨rn, rs, rt, rr, rd, 100000, rm, rb⟩) _ B7.out.row Tryz.underlying23 rfl info8 ?_))
  refine (PR.out _ (HTw.out.below X7.out.below) (HEw.out.below X7.out.below)).mono ?_
  rintro e w8 ⟨T', c, rfl, hP, hb⟩
  obtain ⟨rfl, rfl⟩ := hP.uniq Q5.out
  have X8 := Lib.hid (X7.out.call hb)
  have B8 := Lib.hid (B7.out.call hb)
  have C8 := C7.out.call hb
  have D8 := D7.out.call hb
  clear hb hP X7 B7 C7 D7 PR Q5 HTw HEw
  have r0 := B8.out.row 0 _ rfl
  have r1 := B8.out.row 1 _ rfl
  have r2 := B8.out.row 2 _ rfl
  have r3 := B8.out.row 3 _ rfl
  have r4 := B8.out.row 4 _ rfl
  have r5 := B8.out.row 5 _ rfl
  have r6 := B8.out.row 6 _ rfl
  have r7 := B8.out.row 7 _ rfl
  simp only [Nat.zero_add] at r0 r1 r2 r3 r4 r5 r6 r7
  have s0 := C8.row 0 _ rfl
  have s1 := C8.row 1 _ rfl
  have s2 := C8.row 2 _ rfl
  have s3 := C8.row 3 _ rfl
  have s4 := C8.row 4 _ rfl
  have s5 := C8.row 5 _ rfl
  have s6 := C8.row 6 _ rfl
  have s7 := C8.row 7 _ rfl
  simp only [Nat.zero_add] at s0 s1 s2 s3 s4 s5 s6 s7
  have u0 := D8.row 0 _ rfl
  have u1 := D8.row 1 _ rfl
  have u2 := D8.row 2 _ rfl
  have u3 := D8.row 3 _ rfl
  have u4 := D8.row 4 _ rfl
  have u5 := D8.row 5 _ rfl
  have u6 := D8.row 6 _ rfl
  have u7 := D8.row 7 _ rfl
  simp only [Nat.zero_add] at u0 u1 u2 u3 u4 u5 u6 u7
  have q0 := X8.out.row 0 _ rfl
  have q1 := X8.out.row 1 _ rfl
  have q2 := X8.out.row 2 _ rfl
  have q3 := X8.out.row 3 _ rfl
  have q4 := X8.out.row 4 _ rfl
  have q5 := X8.out.row 5 _ rfl
  have q6 := X8.out.row 6 _ rfl
  have q7 := X8.out.row 7 _ rfl
  simp only [Nat.zero_add] at q0 q1 q2 q3 q4 q5 q6 q7

  have f2 := (B8.out.th 2 (by omega)).2
  have f3 := (B8.out.th 3 (by omega)).2
  have f4 := (B8.out.th 4 (by omega)).2
  have f5 := (B8.out.th 5 (by omega)).2
  simp only [Nat.zero_add] at f2 f3 f4 f5
  clear C8 D8
  have z80 : (S'.size : Int) = 80 := by rw [zS]; rfl
  clear zS
  obtain ⟨L, hL⟩ : ∃ L, tt - rt = L := ⟨_, rfl⟩
  obtain ⟨D, hD⟩ : ∃ D, dec - rd = D := ⟨_, rfl⟩
  obtain ⟨A1, hA1⟩ : ∃ A1, ra - rr = A1 := ⟨_, rfl⟩
  obtain ⟨A2, hA2⟩ : ∃ A2, A1 + 1296000000000 = A2 := ⟨_, rfl⟩
  obtain ⟨A3, hA3⟩ : ∃ A3, A2 % 1296000000000 = A3 := ⟨_, rfl⟩
  obtain ⟨M, hM⟩ : ∃ M, max D (-D) = M := ⟨_, rfl⟩
  have k := RB.out
  have k1 : 0 ≤ L := by have := k.l0; simp only at this; omega
  have k2 : L < 100000 := by have := k.l1; simp only at this; omega
  have k3 : D ≤ 5000 := by have := k.d0; simp only at this; omega
  have k4 : -5000 ≤ D := by have := k.d1; simp only at this; omega
  have k5 : 0 ≤ A2 := by have := k.a0; simp only at this; omega
  have k6 : A2 < 2592000000000 := by have := k.a1; simp only at this; omega
  have k7 : A3 ≤ 7500 ∨ 1295999992500 ≤ A3 := by
    have := k.a2
    simp only at this
    rw [hA1, hA2, hA3] at this
    exact this
  have k8 : M ≤ 5000 := by omega
  have k9 : 0 ≤ A3 ∧ A3 < 1296000000000 := by omega
  have kt : A2.tmod 1296000000000 = A3 := by rw [Int.tmod_eq_emod_of_nonneg k5]; exact hA3
  have ka : -1296000000000 ≤ A1 ∧ A1 ≤ 1296000000000 := by omega
  obtain ⟨k9a, k9b⟩ := k9
  obtain ⟨ka0, ka1⟩ := ka
  clear k hA3 RB
  go_upto_region 9 with fail
  go_cut [103] (fun q wx => q = .bool false ∧ w8 = wx)
  case first =>
    by_cases hTS : T' = S'
    · subst hTS
      clear TS
      go_wp2_with fail
      go_meet
      exact ⟨by first | rfl | trivial, by first | rfl | trivial⟩
    · have nT : (T'.toList == S'.toList) = false := by
        rw [Lib.toList_data, Lib.toList_data]
        exact beq_eq_false_iff_ne.2 fun g => hTS (At.toL_inj g)
      have eN := TS.out.resolve_left hTS
      obtain ⟨N, hN⟩ : ∃ N, S'.extract 44 56 = N := ⟨_, rfl⟩
      have nN : (N.toList == [45, 48, 48, 32, 48, 48, 32, 48, 48, 46, 48, 48]) = true := by
        rw [← hN, eN, Lib.toList_data]
        rfl
      clear TS hTS eN
      go_wp2_with fail
      go_meet
      exact ⟨by first | rfl | trivial, by first | rfl | trivial⟩
  case rest =>
    obtain ⟨rfl, rfl⟩ := hcut
    clear TS s0 s1 s2 s3 s4 s5 s6 s7 u0 u1 u2 u3 u4 u5 u6 u7
    go_wp2_with fail
    go_quiet (fail)
    go_upto_region 13 with fail
    go_cut [141] (fun q wx => q = .bool false ∧ w8.drewN nq = wx)
    case first =>
      rcases k7 with k7 | k7
      · have k7' : ¬ 7500 < A3 := by omega
        go_wp2_with fail
        go_meet
        exact ⟨by first | rfl | trivial | (congr 1; simp; omega), by first | rfl | trivial⟩
      · have k7' : ¬ A3 < 1295999992500 := by omega
        have k7'' : 7500 < A3 := by omega
        go_wp2_with fail
        go_meet
        exact ⟨by first | rfl | trivial | (congr 1; simp; omega), by first | rfl | trivial⟩
    case rest =>
      obtain ⟨rfl, rfl⟩ := hcut
      clear hL hD hA1 hA2 hM k1 k2 k3 k4 k5 k6 k7 k8 kt k9a k9b ka0 ka1 z80
      go_wp2_with fail
      clear r0 r1 r6 r7 q0 q1 q6 q7 RB
      have W9 := Lib.hid (And.intro X8.out B8.out)
      clear X8 B8
      go_region
      clear r2 r3 r4 r5 q2 q3 q4 q5 f2 f3 f4 f5
      have ne : w.heap.size ≠ w5.heap.size := Nat.ne_of_lt AB
      have le : w.heap.size ≤ w5.heap.size := Nat.le_of_lt AB
      have BF := ((((W9.out.2.draws (nq + 1)).set 2 (.int .i64 tt) ⟨rn, rs, tt, rr, rd, 100000, rm, rb⟩ (by omega) rfl).set 3 (.int .i64 ra) ⟨rn, rs, tt, ra, rd, 100000, rm, rb⟩ (by omega) rfl).set 4 (.int .i64 dec) ⟨rn, rs, tt, ra, dec, 100000, rm, rb⟩ (by omega) rfl).set 5 (.int .i64 sg) ⟨rn, rs, tt, ra, dec, sg, rm, rb⟩ (by omega) rfl
      have XF := ((((W9.out.1.draws (nq + 1)).apart ne le 2 (.int .i64 tt)).apart ne le 3 (.int .i64 ra)).apart ne le 4 (.int .i64 dec)).apart ne le 5 (.int .i64 sg)
      clear W9
      generalize ((((w8.drewN (nq + 1)).setCell ⟨w5.heap.size, 2, none⟩ (.int .i64 tt)).setCell ⟨w5.heap.size, 3, none⟩ (.int .i64 ra)).setCell ⟨w5.heap.size, 4, none⟩ (.int .i64 dec)).setCell ⟨w5.heap.size, 5, none⟩ (.int .i64 sg) = wF at *
      have r0 := BF.row 0 _ rfl
      have r1 := BF.row 1 _ rfl
      have r2 := BF.row 2 _ rfl
      have r3 := BF.row 3 _ rfl
      have r4 := BF.row 4 _ rfl
      have r5 := BF.row 5 _ rfl
      have r6 := BF.row 6 _ rfl
      have r7 := BF.row 7 _ rfl
      simp only [Nat.zero_add] at r0 r1 r2 r3 r4 r5 r6 r7
      have q0 := XF.row 0 _ rfl
      have q1 := XF.row 1 _ rfl
      have q2 := XF.row 2 _ rfl
      have q3 := XF.row 3 _ rfl
      have q4 := XF.row 4 _ rfl
      have q5 := XF.row 5 _ rfl
      have q6 := XF.row 6 _ rfl
      have q7 := XF.row 7 _ rfl
      simp only [Nat.zero_add] at q0 q1 q2 q3 q4 q5 q6 q7
      have EB := Lib.hid XF.below
      clear BF XF ne le
      go_wp2_with fail
      go_ret
      exact ⟨by first | rfl | simp, EB.out⟩
theorem obsround_any (o : Ob) (w : World) (hT : Gt.Tab w) (hE : ES w) (hb : OB o) : Calls Tryz.prog 6 #[obsV o] w fun e w' => e = .returned (.bool true) ∧ Below w.heap.size w w' := by
  by_cases h : longP o ∨ ¬ okO o
  · exact round_bad o w hT hE hb h
  · by_cases ok : okO o
    · exact round_main o w hT hE hb ok (fun g => h (Or.inl g))
    · exact absurd (Or.inr ok) h
end Ow
end Go.Proofs.YtgodhaphbgllhaaGreatDoor
