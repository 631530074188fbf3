/-
  Lemmas and walks, texts joined: VFld2, VRnd, VRound, VDec, VRDeg, VRFld.
-/
import Derived.Recover
import Derived.Defers
import Derived.Test.YtaghilgfldaaiaaGreatDoorVa07
import Derived.Test.YtaghilgfldaaiaaGreatDoorVa04
import Derived.Test.YtaghilgfldaaiaaGreatDoorVa05
import Derived.Test.YtaghilgfldaaiaaGreatDoorVa03
set_option linter.unusedSimpArgs false
set_option linter.unusedVariables false
/-
  The walk of fields of psv.
-/
namespace Go.Proofs.YtaghilgfldaaiaaGreatDoor
namespace Vw
open Go.RowKit Lw Go.Proofs.YtaghilgfldaaiaaGreatDoor.Ap Go.Proofs.YtaghilgfldaaiaaGreatDoor.Vp Go.Proofs.YtaghilgfldaaiaaGreatDoor.Op Go.Proofs.YtaghilgfldaaiaaGreatDoor.Ow Go.Proofs.YtaghilgfldaaiaaGreatDoor.Mp Go.Proofs.YtaghilgfldaaiaaGreatDoor.At

/-- Strings as values. -/
def strC (l : List ByteArray) : List Value := l.map Value.string
theorem strC_len (l : List ByteArray) : (strC l).length = l.length := by unfold strC; rw [List.length_map]
theorem str_one (l : List ByteArray) : ((strC l).toArray.all (·.oneCell')) = true := by
  rw [Array.all_eq_true]
  intro i hi
  simp only [strC, List.getElem_toArray, List.getElem_map]
  rfl
def zeroF : List ByteArray := [ByteArray.empty, ByteArray.empty, ByteArray.empty, ByteArray.empty, ByteArray.empty, ByteArray.empty, ByteArray.empty, ByteArray.empty]
def flV (l : List ByteArray) : Value := .agg (strC l).toArray
theorem infoF : (Tryz.prog.info? 69).map (·.size) = some 8 := by kernel_rfl
/-- What fields keeps. -/
structure FX (w0 : World) (o : Ob) (l : List ByteArray) (w : World) : Prop where
  bx : Rw w w0.heap.size (obsC o)
  rs : Rw w (w0.heap.size + 1) (strC l)
  len : l.length = 8
  below : Below w0.heap.size w0 w
  tab : Gt.Tab w
theorem FX.call {w0 w w' : World} {o : Ob} {l : List ByteArray} (h : FX w0 o l w) (hb : Below w.heap.size w w') : FX w0 o l w' := ⟨h.bx.call hb, h.rs.call hb, h.len, below_then h.below hb, h.tab.below hb⟩
theorem FX.done {w0 w : World} {o : Ob} {l0 : List ByteArray} (h : FX w0 o l0 w) (hT : Gt.Tab w0) (l : List ByteArray) (hl : l.length = 8) : FX w0 o l (w.setCells (w0.heap.size + 1) 0 (strC l)) := by
  have hb := below_setCells (w0.heap.size + 1) (Nat.le_succ _) (strC l) 0 w h.below
  exact ⟨h.bx.sets_apart (strC l) (Nat.ne_of_lt (Nat.lt_succ_self _)) 0, h.rs.sets (strC l) (by rw [strC_len, strC_len, hl, h.len]), hl, hb, hT.below hb⟩
theorem FX.new (w : World) (o : Ob) (hT : Gt.Tab w) : FX w o zeroF ((w.alloc (.cells (obsC o).toArray 33)).alloc (.cells (strC zeroF).toArray 69)) := by
  have a1 := (Below.refl w.heap.size w).alloc (Nat.le_refl _) (.cells (obsC o).toArray 33)
  have r1 := Rw.new w (obsC o) 33
  have e1 : (w.alloc (.cells (obsC o).toArray 33)).heap.size = w.heap.size + 1 := by simp
  generalize w.alloc (.cells (obsC o).toArray 33) = v1 at *
  have a2 := (Below.refl v1.heap.size v1).alloc (Nat.le_refl _) (.cells (strC zeroF).toArray 69)
  have r2 := Rw.new v1 (strC zeroF) 69
  rw [e1] at r2
  exact ⟨r1.call a2, r2, rfl, below_then a1 a2, hT.below (below_then a1 a2)⟩
theorem band_trim {m b : Int} (h : magP m b) : (⟨(Lib.trimB [UInt8.ofNat b.toNat] 32).toArray⟩ : ByteArray) = stL (bandF b) := by
  unfold bandF stL
  by_cases hb : b = 32
  · subst hb
    rw [if_pos rfl]
    decide
  · rw [if_neg hb]
    obtain ⟨b0, _, b2⟩ := Ow.band_u8 h
    have n : (UInt8.ofNat b.toNat == 32) = false := by
      apply beq_eq_false_iff_ne.2
      intro e
      have := congrArg UInt8.toNat e
      rw [UInt8.toNat_ofNat'] at this
      have e3 : (32 : UInt8).toNat = 32 := rfl
      rw [e3] at this
      omega
    congr 1
    unfold Lib.trimB Lib.trimLeftB Lib.trimRightB
    simp [n]
def FieldsPost (o : Ob) (w : World) (e : Ending) (w' : World) : Prop :=
  ((∃ T, okO o ∧ TextIs o.t 6 T 0 ∧ e = .returned (.tuple #[flV (fieldL o T), .int .i64 0])) ∨ (¬ okO o ∧ e = .returned (.tuple #[flV zeroF, .int .i64 8]))) ∧ Below w.heap.size w w'
set_option maxRecDepth 100000 in
set_option maxHeartbeats 16000000 in
theorem fields_bad (o : Ob) (w : World) (hT : Gt.Tab w) (hE : ES w) (hb : OB o) (no : ¬ okO o) : Calls Tryz.prog 35 #[obsV o] w (FieldsPost o w) := by
  have X0 := Lib.hid (FX.new w o hT)
  have HT0 := Lib.hid hT
  have C := Lib.hid (fun w' (h : ES w') => check_any o w' h hb.t0 hb.t1 hb.b0 hb.b1 hb.n1 hb.n2)
  rw [show checkC o = 8 from if_neg no] at C
  have HE := Lib.hid (hE.below X0.out.below)
  have NO := Lib.hid no
  clear hT hE hb no
  go_enter Tryz.func35, Tryz.ntmps35
  have R := X0.out.bx.row
  go_wp2_with (refine wpList_load_mid rfl _ (.tmp 1) rfl w.heap.size 0 rfl (obsC o) _ R Tryz.underlying33 rfl info8 ?_)
  refine (C.out _ HE.out).mono ?_
  rintro e w1 ⟨rfl, hb⟩
  have X1 := Lib.hid (X0.out.call hb)
  clear hb X0 C HE R
  have TH := X1.out.rs.th
  have HY := Lib.hid (X1.out.done HT0.out zeroF rfl)
  obtain ⟨w2, hw2⟩ : ∃ w2, w1.setCells (w.heap.size + 1) 0 (strC zeroF) = w2 := ⟨_, rfl⟩
  rw [hw2] at HY
  have HW2 := Lib.hid hw2
  clear hw2
  go_wp2_with (refine wpList_store_mid rfl _ (.tmp 2) (.tmp 14) rfl (w.heap.size + 1) 0 (strC zeroF).toArray rfl rfl TH infoF (str_one zeroF) ?_; rw [List.toList_toArray, HW2.out])
  exact bodyPost_ret (ret_cell_tmp Tryz.results35 _ _ (w.heap.size + 1) (strC zeroF) _ rfl HY.out.rs.row Tryz.underlying69 rfl infoF) rfl ⟨Or.inr ⟨NO.out, rfl⟩, HY.out.below⟩
set_option maxRecDepth 100000 in
set_option maxHeartbeats 16000000 in
theorem fields_ok (o : Ob) (w : World) (hT : Gt.Tab w) (hE : ES w) (hb : OB o) (ok : okO o) : Calls Tryz.prog 35 #[obsV o] w (FieldsPost o w) := by
  have X0 := Lib.hid (FX.new w o hT)
  have HT0 := Lib.hid hT
  have C := Lib.hid (fun w' (h : ES w') => check_any o w' h hb.t0 hb.t1 hb.b0 hb.b1 hb.n1 hb.n2)
  rw [show checkC o = 0 from if_pos ok] at C
  have TX := Lib.hid (fun w' (h : Gt.Tab w') => At.text_any o.t 6 w' h hb.t0 hb.t1)
  have HE := Lib.hid (hE.below X0.out.below)
  have OK := Lib.hid ok
  clear hT hE
  obtain ⟨ot, on, os, ow, or0, or1, od0, od1, og0, og1, om⟩ := ok
  have D1 := Lib.hid (fun w' (h : Gt.Tab w') => Gt.degtext_any o.ra 9 w' h (by omega) (by omega) (by omega) (by omega))
  have D2 := Lib.hid (fun w' (h : Gt.Tab w') => Gt.degtext_any o.dec 9 w' h (by omega) (by omega) (by omega) (by omega))
  have FI : Hid (∀ w' (h : Gt.Tab w'), Calls Tryz.prog 71 #[.int .i64 o.sg, .int .i64 10] w' fun e w2 => e = .returned (.string (stL (Lib.itoa o.sg))) ∧ Below w'.heap.size w' w2) := Lib.hid (fun w' h => (Tryz.strconv_FormatInt_10 o.sg (by omega) (by omega) w' h).mono fun _ _ ⟨x, k, os, y⟩ => ⟨x, by rw [y]; exact Gt.below_grow w' k os⟩)
  have mb : -999 ≤ o.mag ∧ o.mag ≤ 9999 := by
    by_cases h9 : o.mag = 9999
    · omega
    · have := mag_bd om h9
      omega
  have MG := Lib.hid (fun w' (h : Gt.Tab w') => vmag_any o.mag w' h mb.1 mb.2)
  have EB := Lib.hid (Ow.band_enc om)
  have TB : Hid (∀ w', Calls Tryz.prog 51 #[.string ⟨#[UInt8.ofNat o.band.toNat]⟩, .string ⟨#[32]⟩] w' fun e w2 => e = .returned (.string (stL (bandF o.band))) ∧ (w2 = w' ∨ w2 = w'.drew)) := Lib.hid (fun w' => (Tryz.strings_Trim_one ⟨#[UInt8.ofNat o.band.toNat]⟩ 32 (by decide) w' (by show (1 : Nat) ≤ _; omega)).mono fun _ _ ⟨x, y⟩ => ⟨by rw [x]; exact congrArg (fun z => Ending.returned (.string z)) (band_trim om), y⟩)
  have BB := Ow.band_u8 om
  obtain ⟨b0, b1, b2⟩ := BB
  clear ot on os ow or0 or1 od0 od1 og0 og1 om mb hb
  go_enter Tryz.func35, Tryz.ntmps35
  have R := X0.out.bx.row
  go_wp2_with (refine wpList_load_mid rfl _ (.tmp 1) rfl w.heap.size 0 rfl (obsC o) _ R Tryz.underlying33 rfl info8 ?_)
  refine (C.out _ HE.out).mono ?_
  rintro e w1 ⟨rfl, hb⟩
  have X1 := Lib.hid (X0.out.call hb)
  clear hb X0 C HE R
  have q := X1.out.bx.cell (j := 2) (v := _) rfl
  go_wp2_with fail
  clear q
  refine (TX.out _ X1.out.tab).mono ?_
  rintro e w2 ⟨T, c, rfl, hT, hb⟩
  obtain rfl : c = 0 := by
    have ot := OK.out.1
    unfold timeP at ot
    rcases hT with ⟨h, _, _⟩ | ⟨_, _, h, _, _⟩ | ⟨_, _, _, _, _, _, _, _, _, _, _, h⟩
    · omega
    · omega
    · exact h
  have HTX := Lib.hid hT
  have X2 := Lib.hid (X1.out.call hb)
  clear hb X1 TX hT
  have q := X2.out.bx.cell (j := 3) (v := _) rfl
  go_wp2_with fail
  clear q
  refine (D1.out _ X2.out.tab).mono ?_
  rintro e w3 ⟨rfl, hb⟩
  have X3 := Lib.hid (X2.out.call hb)
  clear hb X2 D1
  have q := X3.out.bx.cell (j := 4) (v := _) rfl
  go_wp2_with fail
  clear q
  refine (D2.out _ X3.out.tab).mono ?_
  rintro e w4 ⟨rfl, hb⟩
  have X4 := Lib.hid (X3.out.call hb)
  clear hb X3 D2
  have q := X4.out.bx.cell (j := 7) (v := _) rfl
  go_wp2_with fail
  clear q
  rw [EB.out]
  refine (TB.out _).mono ?_
  rintro e w5 ⟨rfl, hw⟩
  have X5 := Lib.hid (show FX w o zeroF w5 by rcases hw with rfl | rfl; exact X4.out; exact X4.out.call (Below.refl _ _).drew)
  clear hw X4 TB EB
  go_upto_region 14 with fail
  refine wp_region_held_drew (S := fun wx => ∃ l, FX w o l wx) (by kernel_rfl) ⟨_, X5.out.call (Below.refl _ _).drew⟩ (fun hHeld => ?_)
  have X6 : Hid (FX w o zeroF w5.drew) := Lib.hid (X5.out.call (Below.refl _ _).drew)
  clear X5
  refine wpAnyH_take (i := 0) (oi := ?oi0x1) (v := ?v0x1) ?hi0x1 (by kernel_rfl) (by kernel_rfl) (by kernel_rfl) ?hq0x1 ?hy0x1 hHeld ?rest0x1
  case hi0x1 => ((try simp only [List.getElem?_toArray, List.getElem?_cons_succ, List.getElem?_cons_zero]); (try rfl))
  case hq0x1 => exact fun _ _ _ h => h
  case hy0x1 => exact Or.inl ⟨by rfl, by intro w hSw; clear hSw; go_simp; try with_reducible rfl⟩
  try simp only [Act.put, List.setIfInBounds_toArray, List.set_cons_zero, List.set_cons_succ]
  refine wpAnyH_take (i := 1) (oi := ?oi1x2) (v := ?v1x2) ?hi1x2 (by kernel_rfl) (by kernel_rfl) (by kernel_rfl) ?hq1x2 ?hy1x2 hHeld ?rest1x2
  case hi1x2 => ((try simp only [List.getElem?_toArray, List.getElem?_cons_succ, List.getElem?_cons_zero]); (try rfl))
  case hq1x2 => exact fun _ _ _ h => h
  case hy1x2 => exact Or.inl ⟨by rfl, by intro w hSw; obtain ⟨_, hc⟩ := hSw; have q := hc.bx.cell (j := 0) (v := _) rfl; clear hc; go_simp; try with_reducible rfl⟩
  try simp only [Act.put, List.setIfInBounds_toArray, List.set_cons_zero, List.set_cons_succ]
  refine wpAnyH_take (i := 2) (oi := ?oi2x3) (v := ?v2x3) ?hi2x3 (by kernel_rfl) (by kernel_rfl) (by kernel_rfl) ?hq2x3 ?hy2x3 hHeld ?rest2x3
  case hi2x3 => ((try simp only [List.getElem?_toArray, List.getElem?_cons_succ, List.getElem?_cons_zero]); (try rfl))
  case hq2x3 => exact fun _ _ _ h => h
  case hy2x3 => exact Or.inl ⟨by rfl, by intro w hSw; clear hSw; go_simp; try with_reducible rfl⟩
  try simp only [Act.put, List.setIfInBounds_toArray, List.set_cons_zero, List.set_cons_succ]
  refine wpAnyH_take (i := 3) (oi := ?oi3x4) (v := ?v3x4) ?hi3x4 (by kernel_rfl) (by kernel_rfl) (by kernel_rfl) ?hq3x4 ?hy3x4 hHeld ?rest3x4
  case hi3x4 => ((try simp only [List.getElem?_toArray, List.getElem?_cons_succ, List.getElem?_cons_zero]); (try rfl))
  case hq3x4 => exact fun _ _ _ h => h
  case hy3x4 => exact Or.inl ⟨by rfl, by intro w hSw; obtain ⟨_, hc⟩ := hSw; have q := hc.bx.cell (j := 1) (v := _) rfl; clear hc; go_simp; try with_reducible rfl⟩
  try simp only [Act.put, List.setIfInBounds_toArray, List.set_cons_zero, List.set_cons_succ]
  refine wpAnyH_take (i := 4) (oi := ?oi4x5) (v := ?v4x5) ?hi4x5 (by kernel_rfl) (by kernel_rfl) (by kernel_rfl) ?hq4x5 ?hy4x5 hHeld ?rest4x5
  case hi4x5 => ((try simp only [List.getElem?_toArray, List.getElem?_cons_succ, List.getElem?_cons_zero]); (try rfl))
  case hq4x5 => exact fun _ _ _ h => h
  case hy4x5 => exact Or.inl ⟨by rfl, by intro w hSw; clear hSw; go_simp; try with_reducible rfl⟩
  try simp only [Act.put, List.setIfInBounds_toArray, List.set_cons_zero, List.set_cons_succ]
  refine wpAnyH_take (i := 5) (oi := ?oi5x6) (v := ?v5x6) ?hi5x6 (by kernel_rfl) (by kernel_rfl) (by kernel_rfl) ?hq5x6 ?hy5x6 hHeld ?rest5x6
  case hi5x6 => ((try simp only [List.getElem?_toArray, List.getElem?_cons_succ, List.getElem?_cons_zero]); (try rfl))
  case hq5x6 => exact fun _ _ _ h => h
  case hy5x6 => exact Or.inl ⟨by rfl, by intro w hSw; clear hSw; go_simp; try with_reducible rfl⟩
  try simp only [Act.put, List.setIfInBounds_toArray, List.set_cons_zero, List.set_cons_succ]
  refine wpAnyH_take (i := 6) (oi := ?oi6x7) (v := ?v6x7) ?hi6x7 (by kernel_rfl) (by kernel_rfl) (by kernel_rfl) ?hq6x7 ?hy6x7 hHeld ?rest6x7
  case hi6x7 => ((try simp only [List.getElem?_toArray, List.getElem?_cons_succ, List.getElem?_cons_zero]); (try rfl))
  case hq6x7 => exact fun _ _ _ h => h
  case hy6x7 => exact Or.inl ⟨by rfl, by intro w hSw; clear hSw; go_simp; try with_reducible rfl⟩
  try simp only [Act.put, List.setIfInBounds_toArray, List.set_cons_zero, List.set_cons_succ]
  refine wpAnyH_take (i := 7) (oi := ?oi7x8) (v := ?v7x8) ?hi7x8 (by kernel_rfl) (by kernel_rfl) (by kernel_rfl) ?hq7x8 ?hy7x8 hHeld ?rest7x8
  case hi7x8 => ((try simp only [List.getElem?_toArray, List.getElem?_cons_succ, List.getElem?_cons_zero]); (try rfl))
  case hq7x8 => exact fun _ _ _ h => h
  case hy7x8 => exact Or.inl ⟨by rfl, by intro w hSw; clear hSw; go_simp; try with_reducible rfl⟩
  try simp only [Act.put, List.setIfInBounds_toArray, List.set_cons_zero, List.set_cons_succ]
  refine wpAnyH_take (i := 8) (oi := ?oi8x9) (v := ?v8x9) ?hi8x9 (by kernel_rfl) (by kernel_rfl) (by kernel_rfl) ?hq8x9 ?hy8x9 hHeld ?rest8x9
  case hi8x9 => ((try simp only [List.getElem?_toArray, List.getElem?_cons_succ, List.getElem?_cons_zero]); (try rfl))
  case hq8x9 => exact fun _ _ _ h => h
  case hy8x9 => exact Or.inl ⟨by rfl, by intro w hSw; obtain ⟨_, hc⟩ := hSw; have q := hc.bx.cell (j := 5) (v := _) rfl; clear hc; go_simp; try with_reducible rfl⟩
  try simp only [Act.put, List.setIfInBounds_toArray, List.set_cons_zero, List.set_cons_succ]
  refine wpAnyH_take (i := 10) (oi := ?oi10x10) (v := ?v10x10) ?hi10x10 (by kernel_rfl) (by kernel_rfl) (by kernel_rfl) ?hq10x10 ?hy10x10 hHeld ?rest10x10
  case hi10x10 => ((try simp only [List.getElem?_toArray, List.getElem?_cons_succ, List.getElem?_cons_zero]); (try rfl))
  case hq10x10 => exact fun _ _ _ h => h
  case hy10x10 => exact Or.inl ⟨by rfl, by intro w hSw; clear hSw; go_simp; try with_reducible rfl⟩
  try simp only [Act.put, List.setIfInBounds_toArray, List.set_cons_zero, List.set_cons_succ]
  refine wpAnyH_take (i := 11) (oi := ?oi11x11) (v := ?v11x11) ?hi11x11 (by kernel_rfl) (by kernel_rfl) (by kernel_rfl) ?hq11x11 ?hy11x11 hHeld ?rest11x11
  case hi11x11 => ((try simp only [List.getElem?_toArray, List.getElem?_cons_succ, List.getElem?_cons_zero]); (try rfl))
  case hq11x11 => exact fun _ _ _ h => h
  case hy11x11 => exact Or.inl ⟨by rfl, by intro w hSw; obtain ⟨_, hc⟩ := hSw; have q := hc.bx.cell (j := 6) (v := _) rfl; clear hc; go_simp; try with_reducible rfl⟩
  try simp only [Act.put, List.setIfInBounds_toArray, List.set_cons_zero, List.set_cons_succ]
  refine wpAnyH_take (i := 13) (oi := ?oi13x12) (v := ?v13x12) ?hi13x12 (by kernel_rfl) (by kernel_rfl) (by kernel_rfl) ?hq13x12 ?hy13x12 hHeld ?rest13x12
  case hi13x12 => ((try simp only [List.getElem?_toArray, List.getElem?_cons_succ, List.getElem?_cons_zero]); (try rfl))
  case hq13x12 => exact fun _ _ _ h => h
  case hy13x12 => exact Or.inl ⟨by rfl, by intro w hSw; clear hSw; go_simp; try with_reducible rfl⟩
  try simp only [Act.put, List.setIfInBounds_toArray, List.set_cons_zero, List.set_cons_succ]
  refine wpAnyH_ready (rs := [9]) (by kernel_rfl) (by simp) ?_
  refine AllReadyH.cons rfl (fun K' hK => ?_) AllReadyH.nil
  clear hHeld
  go_simp
  refine (FI.out _ X6.out.tab).mono ?_
  rintro e wx ⟨rfl, hb⟩
  have X7 := Lib.hid (X6.out.call hb)
  clear hb FI X6
  refine hK.out _ _ ⟨_, X7.out⟩ (fun hHeld => ?_)
  clear hK
  try simp only [Act.put, List.setIfInBounds_toArray, List.set_cons_zero, List.set_cons_succ]
  refine wpAnyH_ready (rs := [12]) (by kernel_rfl) (by simp) ?_
  refine AllReadyH.cons rfl (fun K' hK => ?_) AllReadyH.nil
  clear hHeld
  go_simp
  refine (MG.out _ X7.out.tab).mono ?_
  rintro e wx ⟨rfl, hb⟩
  have X8 := Lib.hid (X7.out.call hb)
  clear hb MG X7
  refine hK.out _ _ ⟨_, X8.out⟩ (fun hHeld => ?_)
  clear hK
  try simp only [Act.put, List.setIfInBounds_toArray, List.set_cons_zero, List.set_cons_succ]
  refine wpAnyH_take (i := 14) (oi := ?oi14x13) (v := ?v14x13) ?hi14x13 (by kernel_rfl) (by kernel_rfl) (by kernel_rfl) ?hq14x13 ?hy14x13 hHeld ?rest14x13
  case hi14x13 => ((try simp only [List.getElem?_toArray, List.getElem?_cons_succ, List.getElem?_cons_zero]); (try rfl))
  case hq14x13 => exact fun _ _ _ h => h
  case hy14x13 => exact Or.inl ⟨by rfl, by intro w hSw; clear hSw; go_simp; try with_reducible rfl⟩
  try simp only [Act.put, List.setIfInBounds_toArray, List.set_cons_zero, List.set_cons_succ]
  refine wpAnyH_ready (rs := [15]) (by kernel_rfl) (by simp) ?_
  refine AllReadyH.cons rfl (fun K' hK => ?_) AllReadyH.nil
  have TH := X8.out.rs.th
  have HZ := Lib.hid (X8.out.done HT0.out (fieldL o T) rfl)
  clear hHeld
  rw [if_pos (by rfl)]
  refine wp_store_mid _ _ _ rfl (w.heap.size + 1) 0 (strC (fieldL o T)).toArray rfl rfl TH infoF (str_one (fieldL o T)) ?_
  rw [List.toList_toArray]
  refine hK.out _ _ ⟨_, HZ.out⟩ (fun hHeld => ?_)
  clear hK TH X8
  generalize World.setCells _ (w.heap.size + 1) 0 (strC (fieldL o T)) = w9 at *
  try simp only [Act.put, List.setIfInBounds_toArray, List.set_cons_zero, List.set_cons_succ]
  refine wpAnyH_take (i := 16) (oi := ?oi16x14) (v := ?v16x14) ?hi16x14 (by kernel_rfl) (by kernel_rfl) (by kernel_rfl) ?hq16x14 ?hy16x14 hHeld ?rest16x14
  case hi16x14 => ((try simp only [List.getElem?_toArray, List.getElem?_cons_succ, List.getElem?_cons_zero]); (try rfl))
  case hq16x14 => exact fun _ _ _ h => h
  case hy16x14 => exact Or.inl ⟨by rfl, by intro w hSw; clear hSw; go_simp; try with_reducible rfl⟩
  try simp only [Act.put, List.setIfInBounds_toArray, List.set_cons_zero, List.set_cons_succ]
  refine wpAnyH_done (by kernel_rfl) ?_ _
  clear hHeld
  go_wp2_with fail
  exact bodyPost_ret (ret_cell_tmp Tryz.results35 _ _ (w.heap.size + 1) (strC (fieldL o T)) _ rfl HZ.out.rs.row Tryz.underlying69 rfl infoF) rfl ⟨Or.inl ⟨T, OK.out, HTX.out, rfl⟩, HZ.out.below⟩
theorem fields_any (o : Ob) (w : World) (hT : Gt.Tab w) (hE : ES w) (hb : OB o) : Calls Tryz.prog 35 #[obsV o] w (FieldsPost o w) := by
  by_cases ok : okO o
  · exact fields_ok o w hT hE hb ok
  · exact fields_bad o w hT hE hb ok
end Vw
end Go.Proofs.YtaghilgfldaaiaaGreatDoor
/-
  What a row made of an observation's fields is read as: plain law.
-/
namespace Go.Proofs.YtaghilgfldaaiaaGreatDoor
namespace Vp
open Go.RowKit Lw Go.Proofs.YtaghilgfldaaiaaGreatDoor.Ap Go.Proofs.YtaghilgfldaaiaaGreatDoor.Op Go.Proofs.YtaghilgfldaaiaaGreatDoor.Mp Go.Proofs.YtaghilgfldaaiaaGreatDoor.Mw Go.Proofs.YtaghilgfldaaiaaGreatDoor.At

/-- Without spaces. -/
def noS (l : List UInt8) : Prop := ∀ c ∈ l, c ≠ 32
theorem noS_app {a b : List UInt8} (h : noS a) (g : noS b) : noS (a ++ b) := fun c hc => by
  rcases List.mem_append.1 hc with hc | hc
  · exact h c hc
  · exact g c hc
theorem noS_cons {a : UInt8} {b : List UInt8} (h : a ≠ 32) (g : noS b) : noS (a :: b) := fun c hc => by
  rcases List.mem_cons.1 hc with rfl | hc
  · exact h
  · exact g c hc
theorem noS_nil : noS [] := fun c hc => by simp at hc
theorem dw_id {l : List UInt8} (h : noS l) : l.dropWhile (· == 32) = l := by
  cases l with
  | nil => rfl
  | cons a r =>
    have : (a == 32) = false := beq_eq_false_iff_ne.2 (h a (List.mem_cons_self ..))
    simp [this]
theorem trim_id {l : List UInt8} (h : noS l) : Lib.trimB l 32 = l := by
  unfold Lib.trimB Lib.trimLeftB Lib.trimRightB
  rw [dw_id (l := l.reverse) (fun c hc => h c (List.mem_reverse.1 hc)), List.reverse_reverse, dw_id h]
theorem u_ne {c : UInt8} {k : Nat} (hk : k < 256) (h : ¬ ((c.toNat : Nat) : Int) = k) : c ≠ UInt8.ofNat k := fun e => h (by
  rw [e, UInt8.toNat_ofNat']
  omega)
theorem noS_bd {l : List UInt8} (h : ∀ c ∈ l, 33 ≤ (c.toNat : Int)) : noS l := fun c hc => u_ne (k := 32) (by omega) (by have := h c hc; omega)
theorem noS_alld {l : List UInt8} (h : Gp.allD l) : noS l := noS_bd fun c hc => by have := (h c hc).1; omega
theorem noS_alld2 {l : List UInt8} (h : Ap.allD l) : noS l := noS_bd fun c hc => by have := (h c hc).1; omega
theorem noS_word {l : List UInt8} (h : wordP l) : noS l := noS_bd fun c hc => by
  have := h c hc
  unfold dgP ltP at this
  omega
theorem list_split (s : ByteArray) (n : Nat) (h : s.size = n) (k : Nat) (hk : k ≤ n) : s.data.toList = (s.extract 0 k).data.toList ++ (s.extract k n).data.toList := by
  have l : s.data.toList.length = n := h
  simp only [ByteArray.data_extract, Array.toList_extract, List.extract_eq_take_drop, List.drop_zero, Nat.sub_zero]
  rw [List.take_of_length_le (l := s.data.toList.drop k) (by rw [List.length_drop]; omega), List.take_append_drop]
theorem noS_name {s : ByteArray} (h : nameP s) : noS s.data.toList := by
  rcases h with ⟨z, h⟩ | ⟨_, _, h⟩
  · rw [list_split s 5 z 1 (by omega)]
    have one : ∃ c, (s.extract 0 1).data.toList = [c] ∧ bt s 0 = (c.toNat : Int) := ⟨s[0]'(by omega), by
      simp only [ByteArray.data_extract, Array.toList_extract, List.extract_eq_take_drop, List.drop_zero, Nat.sub_zero]
      have l : s.data.toList.length = 5 := z
      have e : s.data.toList = (s.data.toList[0]'(by omega)) :: s.data.toList.drop 1 := by
        rw [← List.drop_eq_getElem_cons (by omega)]
        rfl
      rw [e]
      rfl, bt_of s 0 (by omega)⟩
    obtain ⟨c, e, b⟩ := one
    rcases h with ⟨h1, h2⟩ | ⟨h1, h2⟩
    · refine noS_app ?_ (noS_word h2)
      rw [e]
      exact noS_cons (u_ne (k := 32) (by omega) (by omega)) noS_nil
    · exact noS_app (noS_word h1) (noS_alld2 h2.2)
  · exact noS_word h
theorem itoa_d (n : Nat) : Gp.allD (Lib.itoa (n : Int)) := (Gt.itoa_num n).2
theorem noS_itoa {n : Int} (h : 0 ≤ n) : noS (Lib.itoa n) := by
  obtain ⟨m, rfl⟩ := Int.eq_ofNat_of_zero_le h
  exact noS_alld (itoa_d m)
theorem noS_pad (r d : Nat) : noS (Gt.padL (r : Int) d) := noS_app (noS_alld (Gt.rep_num _).2) (noS_alld (itoa_d r))
theorem noS_deg (a : Int) (d : Nat) : noS (Gt.degL a d) := by
  have b : ∀ N, noS (Gt.degB N d) := fun N => noS_app (noS_alld (itoa_d _)) (noS_cons (by decide) (noS_pad _ _))
  unfold Gt.degL
  split
  · exact noS_cons (by decide) (b _)
  · exact b _
theorem noS_text {t : Int} {T : ByteArray} (h : TextIs t 6 T 0) : noS T.data.toList := by
  have d : ∀ k n, noS (decL n k) := fun k n => noS_alld2 (decL_num k n).2
  rcases h with ⟨_, _, c⟩ | ⟨_, _, _, _, c⟩ | ⟨_, _, _, _, n, y, m, z, k, _, hs, _⟩
  · omega
  · omega
  · rw [hs, text_L]
    refine noS_app (d _ _) (noS_cons (by decide) (noS_app (d _ _) (noS_cons (by decide) (noS_app (d _ _) (noS_cons (by decide) (noS_app (d _ _) (noS_cons (by decide) (noS_app (d _ _) (noS_cons (by decide) (noS_app (d _ _) (noS_app ?_ (noS_cons (by decide) noS_nil))))))))))))
    split
    · exact noS_cons (by decide) (fun c hc => d _ _ c (List.mem_of_mem_take hc))
    · exact noS_nil
theorem noS_dg (n : Nat) (h : n < 10) : dg n ≠ 32 := u_ne (k := 32) (by omega) (by have := dg_of n h; omega)
theorem magB_list (m : Int) : magB m = (if m < 0 then [45] else []) ++ (Lib.itoa ((m.natAbs / 100 : Nat) : Int) ++ (46 :: [dg (m.natAbs / 10 % 10), dg (m.natAbs % 10)])) := by
  show (if m < 0 then [45] else []) ++ Lib.itoa ((m.natAbs / 100 : Nat) : Int) ++ [46] ++ [dg (m.natAbs / 10 % 10), dg (m.natAbs % 10)] = _
  simp only [List.append_assoc, List.cons_append, List.nil_append]
theorem noS_mag (m : Int) : noS (Vp.magF m) := by
  unfold Vp.magF
  split
  · exact noS_nil
  · rw [magB_list]
    refine noS_app ?_ (noS_app (noS_alld (itoa_d _)) (noS_cons (by decide) (noS_cons (noS_dg _ (Nat.mod_lt _ (by omega))) (noS_cons (noS_dg _ (Nat.mod_lt _ (by omega))) noS_nil))))
    split
    · exact noS_cons (by decide) noS_nil
    · exact noS_nil
theorem noS_band {m b : Int} (h : magP m b) : noS (bandF b) := by
  unfold bandF
  split
  · exact noS_nil
  · rename_i hb
    obtain ⟨b0, _, b2⟩ := Ow.band_u8 h
    refine noS_cons (u_ne (k := 32) (by omega) ?_) noS_nil
    rw [UInt8.toNat_ofNat']
    omega
/-! ### Magnitudes -/
theorem index_pt : ∀ (l r : List UInt8), (∀ c ∈ l, c ≠ 46) → Lib.index (l ++ 46 :: r) [46] = l.length
  | [], r, _ => by
    unfold Lib.index
    rw [List.nil_append]
    rfl
  | b :: l, r, h => by
    have ih := index_pt l r (fun c hc => h c (List.mem_cons_of_mem _ hc))
    have nb : ((46 : UInt8) == b) = false := beq_eq_false_iff_ne.2 fun e => h b (List.mem_cons_self ..) e.symm
    have np : ([46] : List UInt8).isPrefixOf (b :: (l ++ 46 :: r)) = false := by
      simp [List.isPrefixOf, nb]
    rw [List.cons_append, Lib.index, np, ih]
    have ne : ((l.length : Int) == -1) = false := beq_eq_false_iff_ne.2 (by omega)
    rw [ne]
    simp
theorem cut_pt {l r : List UInt8} (h : ∀ c ∈ l, c ≠ 46) : Lib.cut (l ++ 46 :: r) [46] = (l, r, true) := by
  unfold Lib.cut
  rw [index_pt l r h, if_pos (by omega), Int.toNat_natCast]
  simp
theorem numR_itoa (n : Nat) (h : n < 100) : numR (Lib.itoa (n : Int)) 1 2 = some (n : Int) := by
  obtain ⟨x, l, e, hl, _⟩ := Gt.dd_small n h
  have z : (Lib.itoa (n : Int)).length = l.length + 1 := by rw [e]; rfl
  unfold numR
  rw [if_pos ⟨by omega, by omega, itoa_d n⟩, (Gt.itoa_num n).1]
theorem numR_two (x y : Nat) (hx : x < 10) (hy : y < 10) : numR [dg x, dg y] 1 2 = some (10 * (x : Int) + y) := by
  have ex := dg_of x hx
  have ey := dg_of y hy
  unfold numR
  rw [if_pos ⟨by simp, by simp, fun c hc => by
    rcases List.mem_cons.1 hc with rfl | hc
    · omega
    · rw [List.mem_singleton.1 hc]; omega⟩]
  unfold Gp.numL
  simp only [List.foldl_cons, List.foldl_nil]
  congr 1
  omega
theorem dig_45 {l : List UInt8} {x : UInt8} (h : Gp.allD (x :: l)) : x ≠ 45 := u_ne (k := 45) (by omega) (by have := (h x (List.mem_cons_self ..)).1; omega)
theorem magR_neg (l : List UInt8) : magR (45 :: l) = magC true (Lib.cut l [46]) := rfl
theorem magR_pos {x : UInt8} {l : List UInt8} (h : x ≠ 45) : magR (x :: l) = magC false (Lib.cut (x :: l) [46]) := by
  unfold magR
  have e : ((x :: l).head? == some 45) = false := by
    show (some x == some 45) = false
    exact beq_eq_false_iff_ne.2 fun e => h (Option.some.inj e)
  rw [e]
  rfl
theorem magC_two {mn : Bool} {A B : List UInt8} {a k n : Int} (h1 : numR A 1 2 = some a) (h2 : numR B 1 2 = some k) (hl : B.length = 2) (V : 100 * a + k = n) (hn : n ≤ 3000) (hp : 0 < n ∨ mn = false) : magC mn (A, B, true) = some (if mn = true then -n else n) := by
  have hl1 : ¬ B.length = 1 := by omega
  unfold magC
  show (numR A 1 2).bind _ = _
  rw [h1]
  show ((if (true : Bool) = true then (numR B 1 2).map fun k => 100 * a + (if B.length = 1 then 10 * k else k) else some (100 * a)).bind _) = _
  rw [if_pos rfl, h2]
  show (if (100 * a + (if B.length = 1 then 10 * k else k)) ≤ 3000 ∧ (0 < (100 * a + (if B.length = 1 then 10 * k else k)) ∨ mn = false) then some (if mn = true then -(100 * a + (if B.length = 1 then 10 * k else k)) else (100 * a + (if B.length = 1 then 10 * k else k))) else none) = _
  rw [if_neg hl1, V, if_pos ⟨hn, hp⟩]
theorem read_mag {m : Int} (h0 : -500 ≤ m) (h1 : m ≤ 3000) : magR (magB m) = some m ∧ 0 < (magB m).length := by
  obtain ⟨n, hn⟩ : ∃ n, m.natAbs = n := ⟨_, rfl⟩
  have e := magB_list m
  rw [hn] at e
  have nb : n ≤ 3000 := by omega
  obtain ⟨x, l, ei, _, _⟩ := Gt.dd_small (n / 100) (by omega)
  have ad := itoa_d (n / 100)
  have no46 : ∀ c ∈ Lib.itoa ((n / 100 : Nat) : Int), c ≠ 46 := fun c hc => u_ne (k := 46) (by omega) (by have := (ad c hc).1; omega)
  have c1 := cut_pt (r := [dg (n / 10 % 10), dg (n % 10)]) no46
  have r1 := numR_itoa (n / 100) (by omega)
  have r2 := numR_two (n / 10 % 10) (n % 10) (Nat.mod_lt _ (by omega)) (Nat.mod_lt _ (by omega))
  have V : (100 * ((n / 100 : Nat) : Int) + (10 * ((n / 10 % 10 : Nat) : Int) + ((n % 10 : Nat) : Int))) = n := by omega
  by_cases hm : m < 0
  · rw [if_pos hm] at e
    rw [e]
    refine ⟨?_, by simp⟩
    show magR (45 :: (Lib.itoa ((n / 100 : Nat) : Int) ++ 46 :: [dg (n / 10 % 10), dg (n % 10)])) = _
    rw [magR_neg]
    rw [c1, magC_two r1 r2 rfl V (by omega) (Or.inl (by omega)), if_pos rfl]
    congr 1
    omega
  · rw [if_neg hm, List.nil_append] at e
    rw [e]
    refine ⟨?_, by simp⟩
    rw [show Lib.itoa ((n / 100 : Nat) : Int) ++ 46 :: [dg (n / 10 % 10), dg (n % 10)] = x :: (l ++ 46 :: [dg (n / 10 % 10), dg (n % 10)]) by rw [ei]; rfl, magR_pos (dig_45 (by rw [ei] at ad; exact ad)), ← List.cons_append, ← ei, c1]
    rw [magC_two r1 r2 rfl V (by omega) (Or.inr rfl), if_neg (by decide)]
    congr 1
    omega
/-! ### The row -/
theorem trimS_mk {l : List UInt8} (h : noS l) : Vw.trimS (stL l) = stL l := by unfold Vw.trimS; rw [stL_L, trim_id h]
theorem trimS_of {s : ByteArray} (h : noS s.data.toList) : Vw.trimS s = s := by
  unfold Vw.trimS
  rw [trim_id h]
  rfl
theorem fields_trim {o : Ob} {T : ByteArray} (ok : okO o) (hT : TextIs o.t 6 T 0) : (fieldL o T).map Vw.trimS = fieldL o T := by
  obtain ⟨ot, on, os, ow, or0, or1, od0, od1, og0, og1, om⟩ := ok
  unfold fieldL
  simp only [List.map_cons, List.map_nil]
  rw [trimS_of (noS_name on), trimS_of (noS_word ow), trimS_of (noS_text hT), trimS_mk (noS_deg _ _), trimS_mk (noS_deg _ _), trimS_mk (noS_itoa (by omega)), trimS_mk (noS_mag _), trimS_mk (noS_band om)]
theorem rd_time {t : Int} {T : ByteArray} (h : TextIs t 6 T 0) : timeR T = some t ∧ T.size ≤ 27 := by
  obtain ⟨v, hp, h1, h2, h3⟩ := text_parse h
  have e : tenI (6 - (6 : Int).toNat) = 1 := by decide
  rw [e] at h2
  obtain rfl : v = t := by omega
  rcases timeR_is hp with ⟨_, g⟩ | ⟨g, _, _⟩
  · exact ⟨g, h3⟩
  · omega
theorem rd_deg {a : Int} (h0 : -1296000000000 ≤ a) (h1 : a ≤ 1296000000000) : degR (stL (Gt.degL a 9)) = some (dgR a) := by
  have h := (deg_read a h0 h1).1
  rcases degR_is (s := stL (Gt.degL a 9)) (v := dgR a) (e := 0) h with ⟨_, g⟩ | ⟨g, _, _⟩
  · exact g
  · omega
theorem round_ok {o : Ob} (ok : okO o) : okO (roundP o) := by
  obtain ⟨ot, on, os, ow, or0, or1, od0, od1, og0, og1, om⟩ := ok
  have p := dg_pole od0 od1
  refine ⟨ot, on, os, ow, ?_, ?_, p.1, p.2, og0, og1, om⟩
  · exact Int.emod_nonneg _ (by decide)
  · exact Int.emod_lt_of_pos _ (by decide)
theorem fold_fields {o : Ob} {T : ByteArray} (ok : okO o) (hT : TextIs o.t 6 T 0) : foldR ([0, 1, 2, 3, 4, 5, 6, 7].zip (fieldL o T)) baseO = some (roundP o) := by
  obtain ⟨ot, on, os, ow, or0, or1, od0, od1, og0, og1, om⟩ := ok
  have r2 := (rd_time hT).1
  have r3 := rd_deg (a := o.ra) (by omega) (by omega)
  have p3 := (dg_turn or0 (by omega)).1
  have r4 := rd_deg (a := o.dec) (by omega) (by omega)
  obtain ⟨r5, n5⟩ := read_sig og0 og1
  have r6 : ∀ x : Ob, x.mag = 9999 → readF 6 (stL (Vp.magF o.mag)) x = some { x with mag := o.mag } := fun x hx => by
    show (if (stL (Vp.magF o.mag)).size = 0 then some x else (magR (stL (Vp.magF o.mag)).data.toList).map fun n => { x with mag := n }) = _
    rw [stL_size, stL_L]
    unfold Vp.magF
    by_cases h9 : o.mag = 9999
    · rw [if_pos h9, if_pos (show ([] : List UInt8).length = 0 from rfl), h9, ← hx]
    · rw [if_neg h9]
      obtain ⟨b0, b1⟩ := Ow.mag_bd om h9
      obtain ⟨q, z⟩ := read_mag b0 b1
      rw [if_neg (by omega), q]
      rfl
  have r7 : ∀ x : Ob, x.band = 32 → readF 7 (stL (bandF o.band)) x = some { x with band := o.band } := fun x hx => by
    show (if (stL (bandF o.band)).size = 0 then some x else if (stL (bandF o.band)).size = 1 then some { x with band := bt (stL (bandF o.band)) 0 } else none) = _
    rw [stL_size]
    unfold bandF
    by_cases hb : o.band = 32
    · rw [if_pos hb, if_pos (show ([] : List UInt8).length = 0 from rfl), hb, ← hx]
    · obtain ⟨b0, _, b2⟩ := Ow.band_u8 om
      rw [if_neg hb, if_neg (by simp), if_pos (show [UInt8.ofNat o.band.toNat].length = 1 from rfl)]
      have : bt (stL [UInt8.ofNat o.band.toNat]) 0 = o.band := by
        rw [bt_of (stL [UInt8.ofNat o.band.toNat]) 0 (by show (0 : Nat) < 1; omega)]
        show (((UInt8.ofNat o.band.toNat).toNat : Nat) : Int) = _
        rw [UInt8.toNat_ofNat']
        omega
      rw [this]
  have e3 : readF 3 (stL (Gt.degL o.ra 9)) { { { baseO with name := o.name } with site := o.site } with t := o.t } = some { { { { baseO with name := o.name } with site := o.site } with t := o.t } with ra := dgR o.ra % turnI } := by
    show ((degR (stL (Gt.degL o.ra 9))).bind fun a => if 0 ≤ a then some { { { { baseO with name := o.name } with site := o.site } with t := o.t } with ra := a % turnI } else none) = _
    rw [r3]
    show (if 0 ≤ dgR o.ra then _ else none) = _
    rw [if_pos p3]
  show foldR [(0, o.name), (1, o.site), (2, T), (3, stL (Gt.degL o.ra 9)), (4, stL (Gt.degL o.dec 9)), (5, stL (Lib.itoa o.sg)), (6, stL (Vp.magF o.mag)), (7, stL (bandF o.band))] baseO = _
  rw [foldR_cons]
  show foldR _ { baseO with name := o.name } = _
  rw [foldR_cons]
  show foldR _ { { baseO with name := o.name } with site := o.site } = _
  rw [foldR_cons]
  show ((timeR T).map fun t => { { { baseO with name := o.name } with site := o.site } with t := t }).bind _ = _
  rw [r2]
  show foldR _ { { { baseO with name := o.name } with site := o.site } with t := o.t } = _
  rw [foldR_cons, e3]
  show foldR _ { { { { baseO with name := o.name } with site := o.site } with t := o.t } with ra := dgR o.ra % turnI } = _
  rw [foldR_cons]
  show ((degR (stL (Gt.degL o.dec 9))).map fun a => { { { { { baseO with name := o.name } with site := o.site } with t := o.t } with ra := dgR o.ra % turnI } with dec := a }).bind _ = _
  rw [r4]
  show foldR _ { { { { { baseO with name := o.name } with site := o.site } with t := o.t } with ra := dgR o.ra % turnI } with dec := dgR o.dec } = _
  rw [foldR_cons]
  show (if (stL (Lib.itoa o.sg)).size = 0 then _ else (sigR (stL (Lib.itoa o.sg)).data.toList).map fun n => { { { { { { baseO with name := o.name } with site := o.site } with t := o.t } with ra := dgR o.ra % turnI } with dec := dgR o.dec } with sg := n }).bind _ = _
  rw [stL_size, if_neg (by omega), stL_L, r5]
  show foldR _ { { { { { { baseO with name := o.name } with site := o.site } with t := o.t } with ra := dgR o.ra % turnI } with dec := dgR o.dec } with sg := o.sg } = _
  rw [foldR_cons, r6 _ rfl]
  show foldR _ { { { { { { { baseO with name := o.name } with site := o.site } with t := o.t } with ra := dgR o.ra % turnI } with dec := dgR o.dec } with sg := o.sg } with mag := o.mag } = _
  rw [foldR_cons, r7 _ rfl]
  rfl
/-- A row of an observation's fields is read as the observation, rounded. -/
theorem row_round {o : Ob} {T : ByteArray} (ok : okO o) (hT : TextIs o.t 6 T 0) : rowR [0, 1, 2, 3, 4, 5, 6, 7] ((fieldL o T).map Vw.trimS) = some (roundP o) := by
  rw [fields_trim ok hT]
  unfold rowR
  rw [if_pos (by rfl), fold_fields ok hT]
  exact if_pos (round_ok ok)
theorem field_size {o : Ob} {T : ByteArray} (ok : okO o) (hT : TextIs o.t 6 T 0) : ∀ s ∈ fieldL o T, s.size ≤ 100 := by
  obtain ⟨ot, on, os, ow, or0, or1, od0, od1, og0, og1, om⟩ := ok
  have z2 := (rd_time hT).2
  have z3 := (deg_read o.ra (by omega) (by omega)).2
  have z4 := (deg_read o.dec (by omega) (by omega)).2
  have z5 := Lib.itoa_length_le o.sg (by omega) (by omega)
  have z6 : (Vp.magF o.mag).length ≤ 5 := by
    unfold Vp.magF
    split
    · exact Nat.zero_le _
    · rename_i h9
      obtain ⟨b0, b1⟩ := Ow.mag_bd om h9
      exact (Op.magB_len (by omega) (by omega)).1
  have z7 : (bandF o.band).length ≤ 1 := by unfold bandF; split <;> simp
  have z0 : o.name.size ≤ 7 := by
    rcases on with ⟨h, _⟩ | ⟨_, h, _⟩
    · omega
    · exact h
  intro s hs
  unfold fieldL at hs
  simp only [List.mem_cons, List.not_mem_nil, or_false] at hs
  rcases hs with rfl | rfl | rfl | rfl | rfl | rfl | rfl | rfl
  · omega
  · omega
  · omega
  · rw [stL_size]; omega
  · rw [stL_size]; omega
  · rw [stL_size]; omega
  · rw [stL_size]; omega
  · rw [stL_size]; omega
end Vp
end Go.Proofs.YtaghilgfldaaiaaGreatDoor
/-
  The walk of Round of psv.
-/
namespace Go.Proofs.YtaghilgfldaaiaaGreatDoor
namespace Vw
open Go.RowKit Lw Go.Proofs.YtaghilgfldaaiaaGreatDoor.Ap Go.Proofs.YtaghilgfldaaiaaGreatDoor.Vp Go.Proofs.YtaghilgfldaaiaaGreatDoor.Op Go.Proofs.YtaghilgfldaaiaaGreatDoor.Ow Go.Proofs.YtaghilgfldaaiaaGreatDoor.Mp Go.Proofs.YtaghilgfldaaiaaGreatDoor.At

theorem vcatch_idle (p q : Addr) (w : World) : CallsD Tryz.prog 36 #[.pointer (some p), .pointer (some q)] .returning w fun e u' w' => e = .returned (.tuple #[]) ∧ u' = .returning ∧ w' = w := by
  refine callsD_of_wpS Tryz.func36 rfl fun c₀ cs hu => ?_
  apply wpS_seq
  apply wpS_region
  simp [wpOpsS, go_sem, recoverD, hu, Tryz.ntmps36, Exit.thenS]
  refine wpS_of_wp ?_
  go_wp2
  cases c₀
  simp_all [bodyPostS, results, Tryz.results36]
section
variable {P : Program}
theorem ret_cells {fn : Func} {p q : Tmp} {ty ty2 : TypeId} (h : fn.results = #[.cell p ty, .cell q ty2]) (tmps : Array Value) (w : World) (b c : Nat) (cs : List Value) (z : Value) (d : TypeDesc)
    (hp : tmps.getD p undef = .pointer (some ⟨b, 0, none⟩)) (hq : tmps.getD q undef = .pointer (some ⟨c, 0, none⟩)) (hr : w.rangeAt b 0 cs) (hu : P.underlying ty = some d) (hd : d.isRow = true) (hi : (P.info? ty).map (·.size) = some cs.length)
    (hz : (loadVar ty2 ⟨c, 0, none⟩).run P w = .ok z w) :
    (results fn tmps).run P w = .ok (.tuple #[.agg cs.toArray, z]) w := by
  have hp' : tmps[p]?.getD undef = .pointer (some ⟨b, 0, none⟩) := by simpa using hp
  have hq' : tmps[q]?.getD undef = .pointer (some ⟨c, 0, none⟩) := by simpa using hq
  simp [results, h, hp', hq', asAddr, run_loadVar_mid w b 0 ty cs d hr hu hd hi, hz, Result.andThen]
end
/-- What Round keeps. -/
structure NX (w0 : World) (o q : Ob) (c : Int) (w : World) : Prop where
  bx : Rw w w0.heap.size (obsC o)
  rs : Rw w (w0.heap.size + 1) (obsC q)
  er : Rw w (w0.heap.size + 2) [.int .i64 c]
  below : Below w0.heap.size w0 w
theorem NX.call {w0 w w' : World} {o q : Ob} {c : Int} (h : NX w0 o q c w) (hb : Below w.heap.size w w') : NX w0 o q c w' := ⟨h.bx.call hb, h.rs.call hb, h.er.call hb, below_then h.below hb⟩
theorem NX.new (w : World) (o : Ob) : NX w o zeroO 0 (((w.alloc (.cells (obsC o).toArray 33)).alloc (.cells (obsC zeroO).toArray 33)).alloc (.cells #[.int .i64 0] 25)) := by
  have a1 := (Below.refl w.heap.size w).alloc (Nat.le_refl _) (.cells (obsC o).toArray 33)
  have r1 := Rw.new w (obsC o) 33
  have e1 : (w.alloc (.cells (obsC o).toArray 33)).heap.size = w.heap.size + 1 := by simp
  generalize w.alloc (.cells (obsC o).toArray 33) = v1 at *
  have a2 := (Below.refl v1.heap.size v1).alloc (Nat.le_refl _) (.cells (obsC zeroO).toArray 33)
  have r2 := Rw.new v1 (obsC zeroO) 33
  have e2 : (v1.alloc (.cells (obsC zeroO).toArray 33)).heap.size = v1.heap.size + 1 := by simp
  generalize v1.alloc (.cells (obsC zeroO).toArray 33) = v2 at *
  have a3 := (Below.refl v2.heap.size v2).alloc (Nat.le_refl _) (.cells #[.int .i64 0] 25)
  have r3 := Rw.new v2 [.int .i64 0] 25
  rw [e1] at r2 e2
  rw [e2] at r3
  exact ⟨(r1.call a2).call a3, r2.call a3, r3, below_then (below_then a1 a2) a3⟩
theorem NX.res {w0 w : World} {o q : Ob} {c : Int} (h : NX w0 o q c w) (q' : Ob) : NX w0 o q' c (w.setCells (w0.heap.size + 1) 0 (obsC q')) := by
  have l1 : w0.heap.size + 1 ≠ w0.heap.size := by omega
  have l3 : w0.heap.size + 2 ≠ w0.heap.size + 1 := by omega
  exact ⟨h.bx.sets_apart (obsC q') (Ne.symm l1) 0, h.rs.sets (obsC q') rfl, h.er.sets_apart (obsC q') l3 0, below_setCells (w0.heap.size + 1) (Nat.le_succ _) (obsC q') 0 w h.below⟩
theorem NX.err {w0 w : World} {o q : Ob} {c : Int} (h : NX w0 o q c w) (c' : Int) : NX w0 o q c' (w.setCell ⟨w0.heap.size + 1 + 1, 0, none⟩ (.int .i64 c')) := by
  have l2 : w0.heap.size + 2 ≠ w0.heap.size := by omega
  have l3 : w0.heap.size + 2 ≠ w0.heap.size + 1 := by omega
  exact ⟨h.bx.apart (Ne.symm l2) 0 _, h.rs.apart (Ne.symm l3) 0 _, h.er.set 0 _ (by simp), h.below.setCell (p := ⟨w0.heap.size + 2, 0, none⟩) (by show w0.heap.size ≤ w0.heap.size + 2; omega) _⟩
/-- What Round returns. -/
def VRoundIs (o q : Ob) (c : Int) : Prop := (okO o ∧ q = roundP o ∧ c = 0) ∨ (¬ okO o ∧ q = zeroO ∧ c = 8)
theorem VRoundIs.uniq {o q q' : Ob} {c c' : Int} (a : VRoundIs o q c) (b : VRoundIs o q' c') : q = q' ∧ c = c' := by
  rcases a with ⟨a1, a2, a3⟩ | ⟨a1, a2, a3⟩ <;> rcases b with ⟨b1, b2, b3⟩ | ⟨b1, b2, b3⟩
  · exact ⟨by rw [a2, b2], by omega⟩
  · exact absurd a1 b1
  · exact absurd b1 a1
  · exact ⟨by rw [a2, b2], by omega⟩
def VRoundPost (o : Ob) (w : World) (e : Ending) (w' : World) : Prop := ∃ (q : Ob) (c : Int), e = .returned (.tuple #[obsV q, .int .i64 c]) ∧ VRoundIs o q c ∧ Below w.heap.size w w'
def ord8 : List Nat := [0, 1, 2, 3, 4, 5, 6, 7]
def ordC : List Value := ord8.map fun (n : Nat) => Value.int .i64 (n : Int)
theorem StA.of_row {w : World} {f : Nat} {l : List ByteArray} (h : Rw w f (strC l)) : StA w (some ⟨f, 0, none⟩) l := Or.inr ⟨f, 0, rfl, h.lt, fun i hi => by
  rw [Nat.zero_add]
  exact h.cell (by unfold strC; rw [List.getElem?_map, List.getElem?_eq_getElem hi]; rfl)⟩
theorem InA.of_row {w : World} {g : Nat} (h : Rw w g ordC) : InA w (some ⟨g, 0, none⟩) ord8 := Or.inr ⟨g, 0, rfl, h.lt, fun i hi => by
  rw [Nat.zero_add]
  exact h.cell (by unfold ordC; rw [List.getElem?_map, List.getElem?_eq_getElem hi]; rfl)⟩
theorem row_fields {o : Ob} {T : ByteArray} (ok : okO o) (hT : TextIs o.t 6 T 0) (f g : Nat) (w : World) (hM : MX w) (hE : ES w) (hf : Rw w f (strC (fieldL o T))) (hg : Rw w g ordC) :
    Calls Tryz.prog 37 #[.slice (some ⟨f, 0, none⟩) 8 8, .slice (some ⟨g, 0, none⟩) 8 8] w fun e w' => e = .returned (obsV (roundP o)) ∧ Below w.heap.size w w' := by
  refine (row_any (some ⟨f, 0, none⟩) 8 (fieldL o T) (some ⟨g, 0, none⟩) 8 ord8 w hM hE (StA.of_row hf) (InA.of_row hg) (by decide) (field_size ok hT) (by show (8 : Nat) ≤ _; omega) (by decide)).mono ?_
  rintro e w' ⟨h, hb⟩
  have R := row_round ok hT
  refine ⟨?_, hb⟩
  rcases h with ⟨q, h, rfl, _⟩ | ⟨h, _⟩
  · have : some q = some (roundP o) := h.symm.trans R
    rw [Option.some.inj this]
  · exact absurd (h.symm.trans R) (by simp)
set_option maxRecDepth 100000 in
set_option maxHeartbeats 16000000 in
theorem vround_any (o : Ob) (w : World) (hT : Gt.Tab w) (hE : ES w) (hM : MX w) (hb : OB o) : Calls Tryz.prog 14 #[obsV o] w (VRoundPost o w) := by
  have X0 := Lib.hid (NX.new w o)
  have FI := Lib.hid (fun w' (h : Gt.Tab w') (g : ES w') => fields_any o w' h g hb)
  have HT := Lib.hid (hT.below X0.out.below)
  have HE := Lib.hid (hE.below X0.out.below)
  have HM := Lib.hid (hM.below X0.out.below)
  clear hT hE hM hb
  have hmf : ∀ (fn : Fn) (first cap : Array Value) (w : World), (Instr.makeFunc fn first cap).run Tryz.prog w = .ok (.func fn first cap) w := fun _ _ _ _ => rfl
  go_enter_defers Tryz.func14, Tryz.ntmps14
  have R := X0.out.bx.row
  go_wp2_with (refine wpList_load_mid rfl _ (.tmp 1) rfl w.heap.size 0 rfl (obsC o) _ R Tryz.underlying33 rfl info8 ?_)
  refine (FI.out _ HT.out HE.out).mono ?_
  rintro e w1 ⟨h, hb⟩
  have X1 := Lib.hid (X0.out.call hb)
  have HE1 := Lib.hid (HE.out.below hb)
  have HM1 := Lib.hid (HM.out.below hb)
  clear hb X0 R FI HT HE HM
  rcases h with ⟨T, ok, ht, rfl⟩ | ⟨no, rfl⟩
  · go_upto_region 5 with (refine wpList_store_new rfl _ (.tmp 4) (.tmp 9) rfl _ (strC (fieldL o T)).toArray rfl rfl infoF rfl (str_one (fieldL o T)) ?_)
    go_wp2_with fail
    have a2 := (Below.refl w1.heap.size w1).alloc (Nat.le_refl _) (.cells (strC (fieldL o T)).toArray 69)
    have r2 := Rw.new w1 (strC (fieldL o T)) 69
    have e2 : (w1.alloc (.cells (strC (fieldL o T)).toArray 69)).heap.size = w1.heap.size + 1 := by simp
    obtain ⟨v2, hv2⟩ : ∃ v, w1.alloc (.cells (strC (fieldL o T)).toArray 69) = v := ⟨_, rfl⟩
    rw [hv2] at a2 r2 e2 ⊢
    clear hv2
    have a3 := (Below.refl v2.heap.size v2).alloc (Nat.le_refl _) (.cells ordC.toArray 3)
    have r3 := Rw.new v2 ordC 3
    rw [e2] at r3
    have R2 := r2.call a3
    have b3 := below_then a2 a3
    have RF := Lib.hid (row_fields ok ht w1.heap.size (w1.heap.size + 1) _ (HM1.out.below b3) (HE1.out.below b3) R2 r3)
    have X2 := Lib.hid (X1.out.call b3)
    have OK := Lib.hid ok
    clear a2 r2 e2 a3 r3 R2 b3 X1 HE1 HM1 ht ok
    refine RF.out.mono ?_
    rintro e w4 ⟨rfl, hb⟩
    have X4 := Lib.hid (X2.out.call hb)
    clear hb X2 RF
    have TH := X4.out.rs.th
    have X5 := Lib.hid (X4.out.res (roundP o))
    obtain ⟨w5, hw5⟩ : ∃ w5, w4.setCells (w.heap.size + 1) 0 (obsC (roundP o)) = w5 := ⟨_, rfl⟩
    rw [hw5] at X5
    have HW5 := Lib.hid hw5
    clear hw5
    have ce : w5.cell? ⟨w.heap.size + 1 + 1, 0, none⟩ = some (.int .i64 0) := X5.out.er.cell (j := 0) rfl
    have fe : w5.frozen? ⟨w.heap.size + 1 + 1, 0, none⟩ = false := X5.out.er.free (j := 0) (by simp)
    have X6 := Lib.hid (X5.out.err 0)
    go_wp2_with (refine wpList_store_mid rfl _ (.tmp 2) (.tmp 18) rfl (w.heap.size + 1) 0 (obsC (roundP o)).toArray rfl rfl TH info8 (by simp [Value.oneCell']) ?_; rw [List.toList_toArray, HW5.out])
    obtain ⟨w6, hw6⟩ : ∃ w6, w5.setCell ⟨w.heap.size + 1 + 1, 0, none⟩ (.int .i64 0) = w6 := ⟨_, rfl⟩
    rw [hw6] at X6 ⊢
    refine leaves_cons (f := 36) (args := #[.pointer (some ⟨w.heap.size + 1, 0, none⟩), .pointer (some ⟨w.heap.size + 1 + 1, 0, none⟩)]) (by simp) (by simp [go_sem]) ?_
    refine (vcatch_idle ⟨w.heap.size + 1, 0, none⟩ ⟨w.heap.size + 1 + 1, 0, none⟩ _).mono ?_
    rintro e u' w'' ⟨rfl, rfl, rfl⟩
    have c6 : w''.cell? ⟨w.heap.size + 1 + 1, 0, none⟩ = some (.int .i64 0) := X6.out.er.cell (j := 0) rfl
    exact ⟨_, ret_cells Tryz.results14 _ _ (w.heap.size + 1) (w.heap.size + 1 + 1) (obsC (roundP o)) (.int .i64 0) _ rfl rfl X6.out.rs.row Tryz.underlying33 rfl info8 (by simp [go_sem, c6]), roundP o, 0, rfl, Or.inl ⟨OK.out, rfl, rfl⟩, X6.out.below⟩
  · have a2 := (Below.refl w1.heap.size w1).alloc (Nat.le_refl _) (.cells (strC zeroF).toArray 69)
    have NO := Lib.hid no
    have X4 := Lib.hid (X1.out.call a2)
    clear a2 X1 HE1 HM1 no
    obtain ⟨w4, hw4⟩ : ∃ w4, w1.alloc (.cells (strC zeroF).toArray 69) = w4 := ⟨_, rfl⟩
    rw [hw4] at X4
    have HW4 := Lib.hid hw4
    clear hw4
    have TH := X4.out.rs.th
    have X5 := Lib.hid (X4.out.res zeroO)
    obtain ⟨w5, hw5⟩ : ∃ w5, w4.setCells (w.heap.size + 1) 0 (obsC zeroO) = w5 := ⟨_, rfl⟩
    rw [hw5] at X5
    have HW5 := Lib.hid hw5
    clear hw5
    have ce : w5.cell? ⟨w.heap.size + 1 + 1, 0, none⟩ = some (.int .i64 0) := X5.out.er.cell (j := 0) rfl
    have fe : w5.frozen? ⟨w.heap.size + 1 + 1, 0, none⟩ = false := X5.out.er.free (j := 0) (by simp)
    have X6 := Lib.hid (X5.out.err 8)
    go_upto_region 3 with (refine wpList_store_new rfl _ (.tmp 4) (.tmp 9) rfl _ (strC zeroF).toArray rfl rfl infoF rfl (str_one zeroF) ?_)
    rw [HW4.out]
    go_wp2_with (refine wpList_store_mid rfl _ (.tmp 2) (.tmp 13) rfl (w.heap.size + 1) 0 (obsC zeroO).toArray rfl rfl TH info8 (by simp [Value.oneCell']) ?_; rw [List.toList_toArray, HW5.out])
    obtain ⟨w6, hw6⟩ : ∃ w6, w5.setCell ⟨w.heap.size + 1 + 1, 0, none⟩ (.int .i64 8) = w6 := ⟨_, rfl⟩
    rw [hw6] at X6 ⊢
    have c6 : w6.cell? ⟨w.heap.size + 1 + 1, 0, none⟩ = some (.int .i64 8) := X6.out.er.cell (j := 0) rfl
    exact ⟨_, ret_cells Tryz.results14 _ _ (w.heap.size + 1) (w.heap.size + 1 + 1) (obsC zeroO) (.int .i64 8) _ rfl rfl X6.out.rs.row Tryz.underlying33 rfl info8 (by simp [go_sem, c6]), zeroO, 8, rfl, Or.inr ⟨NO.out, rfl, rfl⟩, X6.out.below⟩
end Vw
end Go.Proofs.YtaghilgfldaaiaaGreatDoor
/-
  The walks of the reference's digits: digitsOf and decimal, with at least so many.
-/
namespace Go.Proofs.YtaghilgfldaaiaaGreatDoor
namespace Vw
open Go.RowKit Lw Go.Proofs.YtaghilgfldaaiaaGreatDoor.Ap Go.Proofs.YtaghilgfldaaiaaGreatDoor.Vp Go.Proofs.YtaghilgfldaaiaaGreatDoor.Op Go.Proofs.YtaghilgfldaaiaaGreatDoor.Ow Go.Proofs.YtaghilgfldaaiaaGreatDoor.Mp Go.Proofs.YtaghilgfldaaiaaGreatDoor.Mw Go.Proofs.YtaghilgfldaaiaaGreatDoor.At

set_option maxRecDepth 100000 in
set_option maxHeartbeats 2000000 in
theorem digsG_any (n k m : Nat) (w : World) (hn : n < 10 ^ m) (hk : k ≤ m) (h3 : m = k ∨ 10 ^ (m - 1) ≤ n) (hm : m ≤ 12) :
    Calls Tryz.prog 92 #[.int .i64 n, .int .i64 k] w fun e w' => e = .returned (.string ⟨(decL n m).toArray⟩) ∧ w = w' := by
  have n9 : n ≤ 1000000000000 := by have := ten_mono hm; omega
  have k9 : (k : Int) ≤ 12 := by omega
  have H3 := Lib.hid h3
  have HN := Lib.hid hn
  clear h3 hn
  go_enter Tryz.func92, Tryz.ntmps92
  go_wp2
  go_loop [0, 6] (fun v s => ∃ j u : Nat, ∃ S : ByteArray, j ≤ m ∧ s = .string S ∧ v = .int .i64 u ∧ u ≤ 1000000000000 ∧ Hid (u = n / 10 ^ j ∧ S = ⟨(decL n j).toArray⟩) ∧ S.size = j) (fun _ s => m - lenOfV s)
  case atStart => exact ⟨0, n, ⟨#[]⟩, Nat.zero_le _, rfl, rfl, n9, Lib.hid ⟨by simp, rfl⟩, rfl⟩
  case round =>
    obtain ⟨j, u, S, hj, rfl, rfl, hu, D, hS⟩ := hrel
    by_cases hz : (0 : Int) < (u : Int)
    · have lt : j < m := by
        rcases Nat.lt_or_ge j m with g | g
        · exact g
        · have e := D.out.1
          have h := HN.out
          rw [show j = m by omega, Nat.div_eq_of_lt h] at e
          omega
      obtain ⟨d, hd⟩ : ∃ d, d = u % 10 := ⟨_, rfl⟩
      obtain ⟨u', hu'⟩ : ∃ u', u' = u / 10 := ⟨_, rfl⟩
      have r1 : (u : Int) % 10 = (d : Int) := by omega
      have r2 : (u : Int) / 10 = (u' : Int) := by omega
      have m0 : d < 10 := by omega
      have de := dig_ext d m0
      have D2 := Lib.hid (show u' = n / 10 ^ (j + 1) ∧ (⟨#[dg d]⟩ ++ S : ByteArray) = ⟨(decL n (j + 1)).toArray⟩ from ⟨by rw [hu', D.out.1, Nat.div_div_eq_div_mul, Nat.pow_succ], by rw [D.out.2, str_cons, dec_cons, hd, D.out.1]⟩)
      have sz : (⟨#[dg d]⟩ ++ S : ByteArray).size = j + 1 := by rw [ByteArray.size_append, hS]; show 1 + j = _; omega
      have u0 : u' ≤ 1000000000000 := by omega
      have i1 : (d : Int) ≤ 9 := by omega
      have i0 : 0 ≤ (d : Int) := by omega
      clear hd hu' m0
      go_wp2
      go_round
      case rel => exact ⟨j + 1, u', _, by omega, rfl, by go_num, u0, D2, sz⟩
      case measure => simp only [lenOfV, sz, hS]; omega
    · obtain rfl : u = 0 := by omega
      by_cases lt : j < k
      · have de := dig_ext 0 (by omega)
        have de2 : (⟨#[48, 49, 50, 51, 52, 53, 54, 55, 56, 57]⟩ : ByteArray).extract 0 1 = ⟨#[dg 0]⟩ := de
        have D2 := Lib.hid (show 0 = n / 10 ^ (j + 1) ∧ (⟨#[dg 0]⟩ ++ S : ByteArray) = ⟨(decL n (j + 1)).toArray⟩ from ⟨by rw [Nat.pow_succ, ← Nat.div_div_eq_div_mul, ← D.out.1], by rw [D.out.2, str_cons, dec_cons, ← D.out.1]⟩)
        have sz : (⟨#[dg 0]⟩ ++ S : ByteArray).size = j + 1 := by rw [ByteArray.size_append, hS]; show 1 + j = _; omega
        have sj : (S.size : Int) < (k : Int) := by omega
        clear hz
        go_wp2
        go_round
        case rel => exact ⟨j + 1, 0, _, by omega, rfl, by first | rfl | go_num, by omega, D2, sz⟩
        case measure => simp only [lenOfV, sz, hS]; omega
      · have e : j = m := by
          rcases H3.out with g | g
          · omega
          · rcases Nat.lt_or_ge j m with q | q
            · have e := D.out.1
              have p : 10 ^ j ≤ 10 ^ (m - 1) := Nat.pow_le_pow_right (by omega) (by omega)
              have := Nat.div_pos (Nat.le_trans p g) (Nat.pow_pos (n := j) (show 0 < 10 by omega))
              omega
            · omega
        have E := Lib.hid (show S = ⟨(decL n m).toArray⟩ by rw [← e]; exact D.out.2)
        have sj : ¬ (S.size : Int) < (k : Int) := by omega
        clear D e
        go_wp2
        go_ret
        exact ⟨by rw [E.out]; rfl, rfl⟩
set_option maxRecDepth 100000 in
set_option maxHeartbeats 2000000 in
theorem decG_any (n k m : Nat) (w : World) (hn : n < 10 ^ m) (hk : k ≤ m) (h3 : m = k ∨ 10 ^ (m - 1) ≤ n) (hm : m ≤ 12) :
    Calls Tryz.prog 45 #[.int .i64 n, .int .i64 k] w fun e w' => e = .returned (.string ⟨(decL n m).toArray⟩) ∧ w = w' := by
  have n9 : n ≤ 1000000000000 := by have := ten_mono hm; omega
  have k9 : (k : Int) ≤ 12 := by omega
  have H3 := Lib.hid h3
  have HN := Lib.hid hn
  clear h3 hn
  go_enter Tryz.func45, Tryz.ntmps45
  go_wp2
  go_loop [0, 5] (fun v s => ∃ j u : Nat, ∃ S : ByteArray, j ≤ m ∧ s = .string S ∧ v = .int .i64 u ∧ u ≤ 1000000000000 ∧ Hid (u = n / 10 ^ j ∧ S = ⟨(decL n j).toArray⟩) ∧ S.size = j) (fun _ s => m - lenOfV s)
  case atStart => exact ⟨0, n, ⟨#[]⟩, Nat.zero_le _, rfl, rfl, n9, Lib.hid ⟨by simp, rfl⟩, rfl⟩
  case round =>
    obtain ⟨j, u, S, hj, rfl, rfl, hu, D, hS⟩ := hrel
    by_cases hz : (0 : Int) < (u : Int)
    · have lt : j < m := by
        rcases Nat.lt_or_ge j m with g | g
        · exact g
        · have e := D.out.1
          have h := HN.out
          rw [show j = m by omega, Nat.div_eq_of_lt h] at e
          omega
      obtain ⟨d, hd⟩ : ∃ d, d = u % 10 := ⟨_, rfl⟩
      obtain ⟨u', hu'⟩ : ∃ u', u' = u / 10 := ⟨_, rfl⟩
      have r1 : (u : Int) % 10 = (d : Int) := by omega
      have r2 : (u : Int) / 10 = (u' : Int) := by omega
      have m0 : d < 10 := by omega
      have de := dig_ext d m0
      have D2 := Lib.hid (show u' = n / 10 ^ (j + 1) ∧ (⟨#[dg d]⟩ ++ S : ByteArray) = ⟨(decL n (j + 1)).toArray⟩ from ⟨by rw [hu', D.out.1, Nat.div_div_eq_div_mul, Nat.pow_succ], by rw [D.out.2, str_cons, dec_cons, hd, D.out.1]⟩)
      have sz : (⟨#[dg d]⟩ ++ S : ByteArray).size = j + 1 := by rw [ByteArray.size_append, hS]; show 1 + j = _; omega
      have u0 : u' ≤ 1000000000000 := by omega
      have i1 : (d : Int) ≤ 9 := by omega
      have i0 : 0 ≤ (d : Int) := by omega
      clear hd hu' m0
      go_wp2
      go_round
      case rel => exact ⟨j + 1, u', _, by omega, rfl, by go_num, u0, D2, sz⟩
      case measure => simp only [lenOfV, sz, hS]; omega
    · obtain rfl : u = 0 := by omega
      by_cases lt : j < k
      · have de := dig_ext 0 (by omega)
        have de2 : (⟨#[48, 49, 50, 51, 52, 53, 54, 55, 56, 57]⟩ : ByteArray).extract 0 1 = ⟨#[dg 0]⟩ := de
        have D2 := Lib.hid (show 0 = n / 10 ^ (j + 1) ∧ (⟨#[dg 0]⟩ ++ S : ByteArray) = ⟨(decL n (j + 1)).toArray⟩ from ⟨by rw [Nat.pow_succ, ← Nat.div_div_eq_div_mul, ← D.out.1], by rw [D.out.2, str_cons, dec_cons, ← D.out.1]⟩)
        have sz : (⟨#[dg 0]⟩ ++ S : ByteArray).size = j + 1 := by rw [ByteArray.size_append, hS]; show 1 + j = _; omega
        have sj : (S.size : Int) < (k : Int) := by omega
        clear hz
        go_wp2
        go_round
        case rel => exact ⟨j + 1, 0, _, by omega, rfl, by first | rfl | go_num, by omega, D2, sz⟩
        case measure => simp only [lenOfV, sz, hS]; omega
      · have e : j = m := by
          rcases H3.out with g | g
          · omega
          · rcases Nat.lt_or_ge j m with q | q
            · have e := D.out.1
              have p : 10 ^ j ≤ 10 ^ (m - 1) := Nat.pow_le_pow_right (by omega) (by omega)
              have := Nat.div_pos (Nat.le_trans p g) (Nat.pow_pos (n := j) (show 0 < 10 by omega))
              omega
            · omega
        have E := Lib.hid (show S = ⟨(decL n m).toArray⟩ by rw [← e]; exact D.out.2)
        have sj : ¬ (S.size : Int) < (k : Int) := by omega
        clear D e
        go_wp2
        go_ret
        exact ⟨by rw [E.out]; rfl, rfl⟩
/-- A number's text, as its last digits. -/
theorem dec_dd : ∀ (m n : Nat), n < 10 ^ (m + 1) → (m = 0 ∨ 10 ^ m ≤ n) → Lib.decDigits n = decL n (m + 1)
  | 0, n, h, _ => by
    unfold Lib.decDigits
    rw [dif_pos (by omega)]
    show _ = [dg (n % 10)]
    rw [Nat.mod_eq_of_lt (by omega)]
    rfl
  | m + 1, n, h, g => by
    have hp : 1 ≤ 10 ^ m := Nat.pow_pos (by omega)
    have h2 : 10 ^ (m + 1) ≤ n := by
      rcases g with g | g
      · omega
      · exact g
    rw [Nat.pow_succ] at h h2
    have ih := dec_dd m (n / 10) (by omega) (by omega)
    unfold Lib.decDigits
    rw [dif_neg (by omega), ih, decL]
    rfl
theorem len_ex : ∀ (M n : Nat), n < 10 ^ (M + 1) → ∃ m, m ≤ M ∧ n < 10 ^ (m + 1) ∧ (m = 0 ∨ 10 ^ m ≤ n)
  | 0, n, h => ⟨0, Nat.le_refl _, h, Or.inl rfl⟩
  | M + 1, n, h => by
    by_cases g : n < 10 ^ (M + 1)
    · obtain ⟨m, a, b, c⟩ := len_ex M n g
      exact ⟨m, by omega, b, c⟩
    · exact ⟨M + 1, Nat.le_refl _, h, Or.inr (by omega)⟩
theorem digs1_any (n : Nat) (w : World) (hn : n < 10 ^ 12) : Calls Tryz.prog 92 #[.int .i64 n, .int .i64 1] w fun e w' => e = .returned (.string (stL (Lib.itoa n))) ∧ w = w' := by
  obtain ⟨m, a, b, c⟩ := len_ex 11 n hn
  have := digsG_any n 1 (m + 1) w b (by omega) (by rcases c with c | c; exact Or.inl (by omega); exact Or.inr c) (by omega)
  rw [← dec_dd m n b c, ← itoa_pos] at this
  exact this
theorem dec1_any (n : Nat) (w : World) (hn : n < 10 ^ 12) : Calls Tryz.prog 45 #[.int .i64 n, .int .i64 1] w fun e w' => e = .returned (.string (stL (Lib.itoa n))) ∧ w = w' := by
  obtain ⟨m, a, b, c⟩ := len_ex 11 n hn
  have := decG_any n 1 (m + 1) w b (by omega) (by rcases c with c | c; exact Or.inl (by omega); exact Or.inr c) (by omega)
  rw [← dec_dd m n b c, ← itoa_pos] at this
  exact this
/-- The padded text of a number, as its last digits. -/
theorem pad_dec (n d : Nat) (hd : 1 ≤ d) (h : n < 10 ^ d) : Gt.padL (n : Int) d = decL n d := by
  have e1 : ∀ (m k : Nat), m < 10 ^ (k + 1) → decL m (k + 1 + 1) = 48 :: decL m (k + 1) := fun m k hm => by
    have := dec_cons (k + 1) m
    rw [Nat.div_eq_of_lt hm] at this
    exact this
  have e2 : ∀ (j m k : Nat), m < 10 ^ (k + 1) → decL m (k + 1 + j) = Lib.repeatL [48] j ++ decL m (k + 1) := fun j => by
    induction j with
    | zero => exact fun m k _ => rfl
    | succ j ih =>
      intro m k hm
      have hp : 10 ^ (k + 1) ≤ 10 ^ (k + j + 1) := Nat.pow_le_pow_right (by omega) (by omega)
      have e := e1 m (k + j) (by omega)
      rw [show k + 1 + (j + 1) = k + j + 1 + 1 by omega, e, show k + j + 1 = k + 1 + j by omega, ih m k hm]
      rfl
  obtain ⟨D, rfl⟩ : ∃ D, d = D + 1 := ⟨d - 1, by omega⟩
  obtain ⟨m, a, b, c⟩ := len_ex D n h
  have e := dec_dd m n b c
  unfold Gt.padL
  rw [itoa_pos, e, decL_len]
  have := e2 (D - m) n m b
  rw [show m + 1 + (D - m) = D + 1 by omega] at this
  rw [this, show D + 1 - (m + 1) = D - m by omega]
end Vw
end Go.Proofs.YtaghilgfldaaiaaGreatDoor
/-
  The reference's text of degrees with nine digits.
-/
namespace Go.Proofs.YtaghilgfldaaiaaGreatDoor
namespace Vw
open Go.RowKit Lw Go.Proofs.YtaghilgfldaaiaaGreatDoor.Ap Go.Proofs.YtaghilgfldaaiaaGreatDoor.Vp Go.Proofs.YtaghilgfldaaiaaGreatDoor.Op Go.Proofs.YtaghilgfldaaiaaGreatDoor.Ow

set_option maxRecDepth 100000 in
set_option maxHeartbeats 8000000 in
theorem rdeg9_neg (a : Int) (w : World) (h0 : -1296000000000 ≤ a) (h1 : a ≤ 1296000000000) (g1 : a < 0) (g2 : 0 < unN a.natAbs) :
    Calls Tryz.prog 44 #[.int .i64 a, .int .i64 9] w fun e w' => e = .returned (.tuple #[.string (stL (Gt.degL a 9)), .int .i64 0]) ∧ Below w.heap.size w w' := by
  obtain ⟨m, em⟩ : ∃ m : Nat, a.natAbs = m := ⟨_, rfl⟩
  try rw [em] at g2
  have mb : m ≤ 1296000000000 := by omega
  have eN : Gt.degN m 9 = unN m := if_pos (by omega)
  have nb := un_le mb
  have K1 : Hid (a < 0 → 0 < unN m → Gt.degL a 9 = 45 :: Gt.degB (unN m) 9) := Lib.hid fun g1 g2 => by unfold Gt.degL; rw [em, eN, if_pos ⟨g1, g2⟩]
  have K2 : Hid (¬ (a < 0 ∧ 0 < unN m) → Gt.degL a 9 = Gt.degB (unN m) 9) := Lib.hid fun g => by unfold Gt.degL; rw [em, eN, if_neg g]
  have NT : Hid (∀ w : World, Calls Tryz.prog 90 #[.int .i64 9] w fun e w' => e = .returned (.int .i64 1000000000) ∧ w = w') := Lib.hid (fun w => Gp.rten_any 9 w (by omega))
  have NC : Hid (∀ w : World, Calls Tryz.prog 91 #[.int .i64 1000000000] w fun e w' => e = .returned (.int .i64 200000000) ∧ Below w.heap.size w w') := Lib.hid (fun w => by
    have := Gp.common_any 1000000000 w (by omega) (by omega)
    rw [show ((Nat.gcd 1000000000 3600000000 : Nat) : Int) = 200000000 by decide +kernel] at this
    exact this)
  have RD : Hid (∀ w : World, Calls Tryz.prog 89 #[.int .i64 ((m : Int) * 5), .int .i64 18] w fun e w' => e = .returned (.int .i64 (unN m : Int)) ∧ ∃ k, w' = w.drewN k) := Lib.hid fun w => by
    have := Gp.rrounded_any (m * 5) 18 w (by omega) (by omega) (by omega)
    unfold unN
    rw [Gt.rndN_eq]
    have e : ((m * 5 : Nat) : Int) = (m : Int) * 5 := by omega
    rw [e] at this
    exact this
  have B0 : ∀ n, Gt.degB n 9 = Lib.itoa ((n / 1000000000 : Nat) : Int) ++ 46 :: Gt.padL ((n % 1000000000 : Nat) : Int) 9 := fun _ => rfl
  have neg : a < 0 → -a = (m : Int) := fun h => by omega
  have pos : ¬ a < 0 → a = (m : Int) := fun h => by omega
  generalize unN m = n at *
  have B := Lib.hid (B0 n)
  clear B0 em eN
  have D1 := Lib.hid (fun w => digs1_any (n / 1000000000) w (by omega))
  have D2 := Lib.hid (fun w => digs15_any (n % 1000000000) 9 w (Nat.mod_lt _ (by omega)) (by omega))
  have P := Lib.hid (pad_dec (n % 1000000000) 9 (by omega) (Nat.mod_lt _ (by omega)))
  have t1 : (n : Int).tdiv 1000000000 = ((n / 1000000000 : Nat) : Int) := rfl
  have t2 : (n : Int).tmod 1000000000 = ((n % 1000000000 : Nat) : Int) := rfl
  have j1 : (n : Int) / 1000000000 = ((n / 1000000000 : Nat) : Int) := rfl
  have j2 : (n : Int) % 1000000000 = ((n % 1000000000 : Nat) : Int) := rfl
  have s9 : n / 1000000000 ≤ 360 := by omega
  have r9 : n % 1000000000 ≤ 1000000000 := by omega
  have l1 := Lib.itoa_length_le ((n / 1000000000 : Nat) : Int) (by omega) (by omega)
  generalize n / 1000000000 = s at *
  generalize n % 1000000000 = r at *
  rw [P.out] at B
  have l2 := At.decL_len 9 r
  clear P
  obtain ⟨L, hL⟩ : ∃ L, Lib.itoa (s : Int) = L := ⟨_, rfl⟩
  obtain ⟨q, hq⟩ : ∃ q, At.decL r 9 = q := ⟨_, rfl⟩
  rw [hL] at B D1 l1
  rw [hq] at B D2 l2
  clear hL hq
  have z1 : (stL L).size = L.length := stL_size L
  have z2 : (⟨q.toArray⟩ : ByteArray).size = q.length := stL_size q
  have S0 : stL L ++ (⟨#[46]⟩ : ByteArray) ++ (⟨q.toArray⟩ : ByteArray) = stL (L ++ 46 :: q) := by
    apply ByteArray.ext
    simp [ByteArray.data_append, stL]
  have S1 : (⟨#[45]⟩ : ByteArray) ++ stL (L ++ 46 :: q) = stL (45 :: (L ++ 46 :: q)) := by
    apply ByteArray.ext
    simp [ByteArray.data_append, stL]
  have W5 := Lib.hid (show IntKind.i64.wrap 5 = 5 by decide)
  have W18 := Lib.hid (show IntKind.i64.wrap 18 = 18 by decide)
  have WM := Lib.hid (show IntKind.i64.wrap ((m : Int) * 5) = (m : Int) * 5 from IntWalk.i64_in _ (by omega))
  have z3 : (stL (L ++ 46 :: q)).size = L.length + 10 := by rw [stL_size, List.length_append, List.length_cons, l2]
  have n1 : ¬ a < -1296000000000 := by omega
  have n2 : ¬ (1296000000000 : Int) < a := by omega
  have d1 : decide (a < -1296000000000) = false := decide_eq_false n1
  have d2 : decide (1296000000000 < a) = false := decide_eq_false n2
  have u1 : (1000000000 : Int).tdiv 200000000 = 5 := rfl
  have u2 : (3600000000 : Int).tdiv 200000000 = 18 := rfl
  have g3 : (0 : Int) < n := by omega
  have ng := neg g1
  have K := Lib.hid ((K1.out g1 g2).trans (congrArg _ B.out))
  clear K1 K2 g2 neg pos B
  go_enter Tryz.func44, Tryz.ntmps44
  go_upto_region 6 with fail
  refine wp_region_held_drew (S := fun wx => Below w.heap.size w wx) (by kernel_rfl) (Below.refl _ _).drew (fun hHeld => ?_)
  refine wpAnyH_take (i := 0) (oi := ?oi1_0x1) (v := ?v1_0x1) ?hi1_0x1 (by kernel_rfl) (by kernel_rfl) (by kernel_rfl) ?hq1_0x1 ?hy1_0x1 hHeld ?rest1_0x1
  case hi1_0x1 => ((try simp only [List.getElem?_toArray, List.getElem?_cons_succ, List.getElem?_cons_zero]); (try rfl))
  case hq1_0x1 => exact fun _ _ _ h => h
  case hy1_0x1 => exact Or.inl ⟨by rfl, by intro w hSw; clear hSw; go_simp; try with_reducible rfl⟩
  try simp only [Act.put, List.setIfInBounds_toArray, List.set_cons_zero, List.set_cons_succ]
  refine wpAnyH_take (i := 1) (oi := ?oi1_1x2) (v := ?v1_1x2) ?hi1_1x2 (by kernel_rfl) (by kernel_rfl) (by kernel_rfl) ?hq1_1x2 ?hy1_1x2 hHeld ?rest1_1x2
  case hi1_1x2 => ((try simp only [List.getElem?_toArray, List.getElem?_cons_succ, List.getElem?_cons_zero]); (try rfl))
  case hq1_1x2 => exact fun _ _ _ h => h
  case hy1_1x2 => exact Or.inl ⟨by rfl, by intro w hSw; clear hSw; go_simp; try with_reducible rfl⟩
  try simp only [Act.put, List.setIfInBounds_toArray, List.set_cons_zero, List.set_cons_succ]
  refine wpAnyH_take (i := 3) (oi := ?oi1_3x3) (v := ?v1_3x3) ?hi1_3x3 (by kernel_rfl) (by kernel_rfl) (by kernel_rfl) ?hq1_3x3 ?hy1_3x3 hHeld ?rest1_3x3
  case hi1_3x3 => ((try simp only [List.getElem?_toArray, List.getElem?_cons_succ, List.getElem?_cons_zero]); (try rfl))
  case hq1_3x3 => exact fun _ _ _ h => h
  case hy1_3x3 => exact Or.inl ⟨by rfl, by intro w hSw; clear hSw; go_simp; try with_reducible rfl⟩
  try simp only [Act.put, List.setIfInBounds_toArray, List.set_cons_zero, List.set_cons_succ]
  refine wpAnyH_take (i := 8) (oi := ?oi1_8x4) (v := ?v1_8x4) ?hi1_8x4 (by kernel_rfl) (by kernel_rfl) (by kernel_rfl) ?hq1_8x4 ?hy1_8x4 hHeld ?rest1_8x4
  case hi1_8x4 => ((try simp only [List.getElem?_toArray, List.getElem?_cons_succ, List.getElem?_cons_zero]); (try rfl))
  case hq1_8x4 => exact fun _ _ _ h => h
  case hy1_8x4 => exact Or.inl ⟨by rfl, by intro w hSw; clear hSw; go_simp; try with_reducible rfl⟩
  try simp only [Act.put, List.setIfInBounds_toArray, List.set_cons_zero, List.set_cons_succ]
  refine wpAnyH_ready (rs := [2]) (by kernel_rfl) (by simp) ?_
  refine AllReadyH.cons rfl (fun K' hK => ?_) AllReadyH.nil
  have H1 := Lib.hid hHeld
  clear hHeld
  go_simp
  refine (NT.out _).mono ?_
  rintro e wx ⟨rfl, rfl⟩
  replace H1 := Lib.hid (H1.out)
  refine hK.out _ _ H1.out (fun hHeld => ?_)
  clear hK H1
  try simp only [Act.put, List.setIfInBounds_toArray, List.set_cons_zero, List.set_cons_succ]
  refine wpAnyH_ready (rs := [4]) (by kernel_rfl) (by simp) ?_
  refine AllReadyH.cons rfl (fun K' hK => ?_) AllReadyH.nil
  have H1 := Lib.hid hHeld
  clear hHeld
  go_simp
  refine (NT.out _).mono ?_
  rintro e wx ⟨rfl, rfl⟩
  replace H1 := Lib.hid (H1.out)
  refine hK.out _ _ H1.out (fun hHeld => ?_)
  clear hK H1
  try simp only [Act.put, List.setIfInBounds_toArray, List.set_cons_zero, List.set_cons_succ]
  refine wpAnyH_ready (rs := [5]) (by kernel_rfl) (by simp) ?_
  refine AllReadyH.cons rfl (fun K' hK => ?_) AllReadyH.nil
  have H1 := Lib.hid hHeld
  clear hHeld
  go_simp
  refine (NC.out _).mono ?_
  rintro e wx ⟨rfl, hb⟩
  replace H1 := Lib.hid (below_then H1.out hb)
  refine hK.out _ _ H1.out (fun hHeld => ?_)
  clear hK H1
  try simp only [Act.put, List.setIfInBounds_toArray, List.set_cons_zero, List.set_cons_succ]
  refine wpAnyH_take (i := 6) (oi := ?oi1_6x5) (v := ?v1_6x5) ?hi1_6x5 (by kernel_rfl) (by kernel_rfl) (by kernel_rfl) ?hq1_6x5 ?hy1_6x5 hHeld ?rest1_6x5
  case hi1_6x5 => ((try simp only [List.getElem?_toArray, List.getElem?_cons_succ, List.getElem?_cons_zero]); (try rfl))
  case hq1_6x5 => exact fun _ _ _ h => h
  case hy1_6x5 => exact Or.inl ⟨by rfl, by intro w hSw; clear hSw; go_simp; try with_reducible rfl⟩
  try simp only [Act.put, List.setIfInBounds_toArray, List.set_cons_zero, List.set_cons_succ]
  refine wpAnyH_take (i := 7) (oi := ?oi1_7x6) (v := ?v1_7x6) ?hi1_7x6 (by kernel_rfl) (by kernel_rfl) (by kernel_rfl) ?hq1_7x6 ?hy1_7x6 hHeld ?rest1_7x6
  case hi1_7x6 => ((try simp only [List.getElem?_toArray, List.getElem?_cons_succ, List.getElem?_cons_zero]); (try rfl))
  case hq1_7x6 => exact fun _ _ _ h => h
  case hy1_7x6 => exact Or.inl ⟨by rfl, by intro w hSw; clear hSw; go_simp; try with_reducible rfl⟩
  try simp only [Act.put, List.setIfInBounds_toArray, List.set_cons_zero, List.set_cons_succ]
  refine wpAnyH_ready (rs := [9]) (by kernel_rfl) (by simp) ?_
  refine AllReadyH.cons rfl (fun K' hK => ?_) AllReadyH.nil
  have H1 := Lib.hid hHeld
  clear hHeld
  go_simp
  refine (NT.out _).mono ?_
  rintro e wx ⟨rfl, rfl⟩
  replace H1 := Lib.hid (H1.out)
  refine hK.out _ _ H1.out (fun hHeld => ?_)
  clear hK H1
  try simp only [Act.put, List.setIfInBounds_toArray, List.set_cons_zero, List.set_cons_succ]
  refine wpAnyH_ready (rs := [10]) (by kernel_rfl) (by simp) ?_
  refine AllReadyH.cons rfl (fun K' hK => ?_) AllReadyH.nil
  have H1 := Lib.hid hHeld
  clear hHeld
  go_simp
  refine (NC.out _).mono ?_
  rintro e wx ⟨rfl, hb⟩
  replace H1 := Lib.hid (below_then H1.out hb)
  refine hK.out _ _ H1.out (fun hHeld => ?_)
  clear hK H1
  try simp only [Act.put, List.setIfInBounds_toArray, List.set_cons_zero, List.set_cons_succ]
  refine wpAnyH_take (i := 11) (oi := ?oi1_11x7) (v := ?v1_11x7) ?hi1_11x7 (by kernel_rfl) (by kernel_rfl) (by kernel_rfl) ?hq1_11x7 ?hy1_11x7 hHeld ?rest1_11x7
  case hi1_11x7 => ((try simp only [List.getElem?_toArray, List.getElem?_cons_succ, List.getElem?_cons_zero]); (try rfl))
  case hq1_11x7 => exact fun _ _ _ h => h
  case hy1_11x7 => exact Or.inl ⟨by rfl, by intro w hSw; clear hSw; go_simp; try with_reducible rfl⟩
  try simp only [Act.put, List.setIfInBounds_toArray, List.set_cons_zero, List.set_cons_succ]
  refine wpAnyH_ready (rs := [12]) (by kernel_rfl) (by simp) ?_
  refine AllReadyH.cons rfl (fun K' hK => ?_) AllReadyH.nil
  have H1 := Lib.hid hHeld
  clear hHeld
  go_simp
  rw [W5.out, W18.out, WM.out]
  refine (RD.out _).mono ?_
  rintro e wx ⟨rfl, kk, rfl⟩
  replace H1 := Lib.hid (Lw.drewN_below2 H1.out kk)
  refine hK.out _ _ H1.out (fun hHeld => ?_)
  clear hK H1
  try simp only [Act.put, List.setIfInBounds_toArray, List.set_cons_zero, List.set_cons_succ]
  refine wpAnyH_take (i := 13) (oi := ?oi1_13x8) (v := ?v1_13x8) ?hi1_13x8 (by kernel_rfl) (by kernel_rfl) (by kernel_rfl) ?hq1_13x8 ?hy1_13x8 hHeld ?rest1_13x8
  case hi1_13x8 => ((try simp only [List.getElem?_toArray, List.getElem?_cons_succ, List.getElem?_cons_zero]); (try rfl))
  case hq1_13x8 => exact fun _ _ _ h => h
  case hy1_13x8 => exact Or.inl ⟨by rfl, by intro w hSw; clear hSw; go_simp; try with_reducible rfl⟩
  try simp only [Act.put, List.setIfInBounds_toArray, List.set_cons_zero, List.set_cons_succ]
  refine wpAnyH_done (by kernel_rfl) ?_ _
  have HB := Lib.hid hHeld
  clear hHeld
  go_wp2_with (go_at_call 90; refine (NT.out _).mono ?_; rintro e w' ⟨rfl, rfl⟩)
  refine (D1.out _).mono ?_
  rintro e w' ⟨rfl, rfl⟩
  go_wp2_with (go_at_call 90; refine (NT.out _).mono ?_; rintro e w' ⟨rfl, rfl⟩)
  refine (D2.out _).mono ?_
  rintro e w' ⟨rfl, rfl⟩
  go_wp2_with fail
  go_ret2
  exact ⟨by first | (rw [K.out]; rfl) | (rw [K.out, ← S1, ← S0]; rfl), HB.out⟩

set_option maxRecDepth 100000 in
set_option maxHeartbeats 8000000 in
theorem rdeg9_zero (a : Int) (w : World) (h0 : -1296000000000 ≤ a) (h1 : a ≤ 1296000000000) (g1 : a < 0) (g2 : unN a.natAbs = 0) :
    Calls Tryz.prog 44 #[.int .i64 a, .int .i64 9] w fun e w' => e = .returned (.tuple #[.string (stL (Gt.degL a 9)), .int .i64 0]) ∧ Below w.heap.size w w' := by
  obtain ⟨m, em⟩ : ∃ m : Nat, a.natAbs = m := ⟨_, rfl⟩
  try rw [em] at g2
  have mb : m ≤ 1296000000000 := by omega
  have eN : Gt.degN m 9 = unN m := if_pos (by omega)
  have nb := un_le mb
  have K1 : Hid (a < 0 → 0 < unN m → Gt.degL a 9 = 45 :: Gt.degB (unN m) 9) := Lib.hid fun g1 g2 => by unfold Gt.degL; rw [em, eN, if_pos ⟨g1, g2⟩]
  have K2 : Hid (¬ (a < 0 ∧ 0 < unN m) → Gt.degL a 9 = Gt.degB (unN m) 9) := Lib.hid fun g => by unfold Gt.degL; rw [em, eN, if_neg g]
  have NT : Hid (∀ w : World, Calls Tryz.prog 90 #[.int .i64 9] w fun e w' => e = .returned (.int .i64 1000000000) ∧ w = w') := Lib.hid (fun w => Gp.rten_any 9 w (by omega))
  have NC : Hid (∀ w : World, Calls Tryz.prog 91 #[.int .i64 1000000000] w fun e w' => e = .returned (.int .i64 200000000) ∧ Below w.heap.size w w') := Lib.hid (fun w => by
    have := Gp.common_any 1000000000 w (by omega) (by omega)
    rw [show ((Nat.gcd 1000000000 3600000000 : Nat) : Int) = 200000000 by decide +kernel] at this
    exact this)
  have RD : Hid (∀ w : World, Calls Tryz.prog 89 #[.int .i64 ((m : Int) * 5), .int .i64 18] w fun e w' => e = .returned (.int .i64 (unN m : Int)) ∧ ∃ k, w' = w.drewN k) := Lib.hid fun w => by
    have := Gp.rrounded_any (m * 5) 18 w (by omega) (by omega) (by omega)
    unfold unN
    rw [Gt.rndN_eq]
    have e : ((m * 5 : Nat) : Int) = (m : Int) * 5 := by omega
    rw [e] at this
    exact this
  have B0 : ∀ n, Gt.degB n 9 = Lib.itoa ((n / 1000000000 : Nat) : Int) ++ 46 :: Gt.padL ((n % 1000000000 : Nat) : Int) 9 := fun _ => rfl
  have neg : a < 0 → -a = (m : Int) := fun h => by omega
  have pos : ¬ a < 0 → a = (m : Int) := fun h => by omega
  generalize unN m = n at *
  have B := Lib.hid (B0 n)
  clear B0 em eN
  have D1 := Lib.hid (fun w => digs1_any (n / 1000000000) w (by omega))
  have D2 := Lib.hid (fun w => digs15_any (n % 1000000000) 9 w (Nat.mod_lt _ (by omega)) (by omega))
  have P := Lib.hid (pad_dec (n % 1000000000) 9 (by omega) (Nat.mod_lt _ (by omega)))
  have t1 : (n : Int).tdiv 1000000000 = ((n / 1000000000 : Nat) : Int) := rfl
  have t2 : (n : Int).tmod 1000000000 = ((n % 1000000000 : Nat) : Int) := rfl
  have j1 : (n : Int) / 1000000000 = ((n / 1000000000 : Nat) : Int) := rfl
  have j2 : (n : Int) % 1000000000 = ((n % 1000000000 : Nat) : Int) := rfl
  have s9 : n / 1000000000 ≤ 360 := by omega
  have r9 : n % 1000000000 ≤ 1000000000 := by omega
  have l1 := Lib.itoa_length_le ((n / 1000000000 : Nat) : Int) (by omega) (by omega)
  generalize n / 1000000000 = s at *
  generalize n % 1000000000 = r at *
  rw [P.out] at B
  have l2 := At.decL_len 9 r
  clear P
  obtain ⟨L, hL⟩ : ∃ L, Lib.itoa (s : Int) = L := ⟨_, rfl⟩
  obtain ⟨q, hq⟩ : ∃ q, At.decL r 9 = q := ⟨_, rfl⟩
  rw [hL] at B D1 l1
  rw [hq] at B D2 l2
  clear hL hq
  have z1 : (stL L).size = L.length := stL_size L
  have z2 : (⟨q.toArray⟩ : ByteArray).size = q.length := stL_size q
  have S0 : stL L ++ (⟨#[46]⟩ : ByteArray) ++ (⟨q.toArray⟩ : ByteArray) = stL (L ++ 46 :: q) := by
    apply ByteArray.ext
    simp [ByteArray.data_append, stL]
  have S1 : (⟨#[45]⟩ : ByteArray) ++ stL (L ++ 46 :: q) = stL (45 :: (L ++ 46 :: q)) := by
    apply ByteArray.ext
    simp [ByteArray.data_append, stL]
  have W5 := Lib.hid (show IntKind.i64.wrap 5 = 5 by decide)
  have W18 := Lib.hid (show IntKind.i64.wrap 18 = 18 by decide)
  have WM := Lib.hid (show IntKind.i64.wrap ((m : Int) * 5) = (m : Int) * 5 from IntWalk.i64_in _ (by omega))
  have z3 : (stL (L ++ 46 :: q)).size = L.length + 10 := by rw [stL_size, List.length_append, List.length_cons, l2]
  have n1 : ¬ a < -1296000000000 := by omega
  have n2 : ¬ (1296000000000 : Int) < a := by omega
  have d1 : decide (a < -1296000000000) = false := decide_eq_false n1
  have d2 : decide (1296000000000 < a) = false := decide_eq_false n2
  have u1 : (1000000000 : Int).tdiv 200000000 = 5 := rfl
  have u2 : (3600000000 : Int).tdiv 200000000 = 18 := rfl
  have g3 : ¬ (0 : Int) < n := by omega
  have ng := neg g1
  have K := Lib.hid ((K2.out (fun h => by omega)).trans B.out)
  clear K1 K2 g2 neg pos B
  go_enter Tryz.func44, Tryz.ntmps44
  go_upto_region 6 with fail
  refine wp_region_held_drew (S := fun wx => Below w.heap.size w wx) (by kernel_rfl) (Below.refl _ _).drew (fun hHeld => ?_)
  refine wpAnyH_take (i := 0) (oi := ?oi2_0x1) (v := ?v2_0x1) ?hi2_0x1 (by kernel_rfl) (by kernel_rfl) (by kernel_rfl) ?hq2_0x1 ?hy2_0x1 hHeld ?rest2_0x1
  case hi2_0x1 => ((try simp only [List.getElem?_toArray, List.getElem?_cons_succ, List.getElem?_cons_zero]); (try rfl))
  case hq2_0x1 => exact fun _ _ _ h => h
  case hy2_0x1 => exact Or.inl ⟨by rfl, by intro w hSw; clear hSw; go_simp; try with_reducible rfl⟩
  try simp only [Act.put, List.setIfInBounds_toArray, List.set_cons_zero, List.set_cons_succ]
  refine wpAnyH_take (i := 1) (oi := ?oi2_1x2) (v := ?v2_1x2) ?hi2_1x2 (by kernel_rfl) (by kernel_rfl) (by kernel_rfl) ?hq2_1x2 ?hy2_1x2 hHeld ?rest2_1x2
  case hi2_1x2 => ((try simp only [List.getElem?_toArray, List.getElem?_cons_succ, List.getElem?_cons_zero]); (try rfl))
  case hq2_1x2 => exact fun _ _ _ h => h
  case hy2_1x2 => exact Or.inl ⟨by rfl, by intro w hSw; clear hSw; go_simp; try with_reducible rfl⟩
  try simp only [Act.put, List.setIfInBounds_toArray, List.set_cons_zero, List.set_cons_succ]
  refine wpAnyH_take (i := 3) (oi := ?oi2_3x3) (v := ?v2_3x3) ?hi2_3x3 (by kernel_rfl) (by kernel_rfl) (by kernel_rfl) ?hq2_3x3 ?hy2_3x3 hHeld ?rest2_3x3
  case hi2_3x3 => ((try simp only [List.getElem?_toArray, List.getElem?_cons_succ, List.getElem?_cons_zero]); (try rfl))
  case hq2_3x3 => exact fun _ _ _ h => h
  case hy2_3x3 => exact Or.inl ⟨by rfl, by intro w hSw; clear hSw; go_simp; try with_reducible rfl⟩
  try simp only [Act.put, List.setIfInBounds_toArray, List.set_cons_zero, List.set_cons_succ]
  refine wpAnyH_take (i := 8) (oi := ?oi2_8x4) (v := ?v2_8x4) ?hi2_8x4 (by kernel_rfl) (by kernel_rfl) (by kernel_rfl) ?hq2_8x4 ?hy2_8x4 hHeld ?rest2_8x4
  case hi2_8x4 => ((try simp only [List.getElem?_toArray, List.getElem?_cons_succ, List.getElem?_cons_zero]); (try rfl))
  case hq2_8x4 => exact fun _ _ _ h => h
  case hy2_8x4 => exact Or.inl ⟨by rfl, by intro w hSw; clear hSw; go_simp; try with_reducible rfl⟩
  try simp only [Act.put, List.setIfInBounds_toArray, List.set_cons_zero, List.set_cons_succ]
  refine wpAnyH_ready (rs := [2]) (by kernel_rfl) (by simp) ?_
  refine AllReadyH.cons rfl (fun K' hK => ?_) AllReadyH.nil
  have H1 := Lib.hid hHeld
  clear hHeld
  go_simp
  refine (NT.out _).mono ?_
  rintro e wx ⟨rfl, rfl⟩
  replace H1 := Lib.hid (H1.out)
  refine hK.out _ _ H1.out (fun hHeld => ?_)
  clear hK H1
  try simp only [Act.put, List.setIfInBounds_toArray, List.set_cons_zero, List.set_cons_succ]
  refine wpAnyH_ready (rs := [4]) (by kernel_rfl) (by simp) ?_
  refine AllReadyH.cons rfl (fun K' hK => ?_) AllReadyH.nil
  have H1 := Lib.hid hHeld
  clear hHeld
  go_simp
  refine (NT.out _).mono ?_
  rintro e wx ⟨rfl, rfl⟩
  replace H1 := Lib.hid (H1.out)
  refine hK.out _ _ H1.out (fun hHeld => ?_)
  clear hK H1
  try simp only [Act.put, List.setIfInBounds_toArray, List.set_cons_zero, List.set_cons_succ]
  refine wpAnyH_ready (rs := [5]) (by kernel_rfl) (by simp) ?_
  refine AllReadyH.cons rfl (fun K' hK => ?_) AllReadyH.nil
  have H1 := Lib.hid hHeld
  clear hHeld
  go_simp
  refine (NC.out _).mono ?_
  rintro e wx ⟨rfl, hb⟩
  replace H1 := Lib.hid (below_then H1.out hb)
  refine hK.out _ _ H1.out (fun hHeld => ?_)
  clear hK H1
  try simp only [Act.put, List.setIfInBounds_toArray, List.set_cons_zero, List.set_cons_succ]
  refine wpAnyH_take (i := 6) (oi := ?oi2_6x5) (v := ?v2_6x5) ?hi2_6x5 (by kernel_rfl) (by kernel_rfl) (by kernel_rfl) ?hq2_6x5 ?hy2_6x5 hHeld ?rest2_6x5
  case hi2_6x5 => ((try simp only [List.getElem?_toArray, List.getElem?_cons_succ, List.getElem?_cons_zero]); (try rfl))
  case hq2_6x5 => exact fun _ _ _ h => h
  case hy2_6x5 => exact Or.inl ⟨by rfl, by intro w hSw; clear hSw; go_simp; try with_reducible rfl⟩
  try simp only [Act.put, List.setIfInBounds_toArray, List.set_cons_zero, List.set_cons_succ]
  refine wpAnyH_take (i := 7) (oi := ?oi2_7x6) (v := ?v2_7x6) ?hi2_7x6 (by kernel_rfl) (by kernel_rfl) (by kernel_rfl) ?hq2_7x6 ?hy2_7x6 hHeld ?rest2_7x6
  case hi2_7x6 => ((try simp only [List.getElem?_toArray, List.getElem?_cons_succ, List.getElem?_cons_zero]); (try rfl))
  case hq2_7x6 => exact fun _ _ _ h => h
  case hy2_7x6 => exact Or.inl ⟨by rfl, by intro w hSw; clear hSw; go_simp; try with_reducible rfl⟩
  try simp only [Act.put, List.setIfInBounds_toArray, List.set_cons_zero, List.set_cons_succ]
  refine wpAnyH_ready (rs := [9]) (by kernel_rfl) (by simp) ?_
  refine AllReadyH.cons rfl (fun K' hK => ?_) AllReadyH.nil
  have H1 := Lib.hid hHeld
  clear hHeld
  go_simp
  refine (NT.out _).mono ?_
  rintro e wx ⟨rfl, rfl⟩
  replace H1 := Lib.hid (H1.out)
  refine hK.out _ _ H1.out (fun hHeld => ?_)
  clear hK H1
  try simp only [Act.put, List.setIfInBounds_toArray, List.set_cons_zero, List.set_cons_succ]
  refine wpAnyH_ready (rs := [10]) (by kernel_rfl) (by simp) ?_
  refine AllReadyH.cons rfl (fun K' hK => ?_) AllReadyH.nil
  have H1 := Lib.hid hHeld
  clear hHeld
  go_simp
  refine (NC.out _).mono ?_
  rintro e wx ⟨rfl, hb⟩
  replace H1 := Lib.hid (below_then H1.out hb)
  refine hK.out _ _ H1.out (fun hHeld => ?_)
  clear hK H1
  try simp only [Act.put, List.setIfInBounds_toArray, List.set_cons_zero, List.set_cons_succ]
  refine wpAnyH_take (i := 11) (oi := ?oi2_11x7) (v := ?v2_11x7) ?hi2_11x7 (by kernel_rfl) (by kernel_rfl) (by kernel_rfl) ?hq2_11x7 ?hy2_11x7 hHeld ?rest2_11x7
  case hi2_11x7 => ((try simp only [List.getElem?_toArray, List.getElem?_cons_succ, List.getElem?_cons_zero]); (try rfl))
  case hq2_11x7 => exact fun _ _ _ h => h
  case hy2_11x7 => exact Or.inl ⟨by rfl, by intro w hSw; clear hSw; go_simp; try with_reducible rfl⟩
  try simp only [Act.put, List.setIfInBounds_toArray, List.set_cons_zero, List.set_cons_succ]
  refine wpAnyH_ready (rs := [12]) (by kernel_rfl) (by simp) ?_
  refine AllReadyH.cons rfl (fun K' hK => ?_) AllReadyH.nil
  have H1 := Lib.hid hHeld
  clear hHeld
  go_simp
  rw [W5.out, W18.out, WM.out]
  refine (RD.out _).mono ?_
  rintro e wx ⟨rfl, kk, rfl⟩
  replace H1 := Lib.hid (Lw.drewN_below2 H1.out kk)
  refine hK.out _ _ H1.out (fun hHeld => ?_)
  clear hK H1
  try simp only [Act.put, List.setIfInBounds_toArray, List.set_cons_zero, List.set_cons_succ]
  refine wpAnyH_take (i := 13) (oi := ?oi2_13x8) (v := ?v2_13x8) ?hi2_13x8 (by kernel_rfl) (by kernel_rfl) (by kernel_rfl) ?hq2_13x8 ?hy2_13x8 hHeld ?rest2_13x8
  case hi2_13x8 => ((try simp only [List.getElem?_toArray, List.getElem?_cons_succ, List.getElem?_cons_zero]); (try rfl))
  case hq2_13x8 => exact fun _ _ _ h => h
  case hy2_13x8 => exact Or.inl ⟨by rfl, by intro w hSw; clear hSw; go_simp; try with_reducible rfl⟩
  try simp only [Act.put, List.setIfInBounds_toArray, List.set_cons_zero, List.set_cons_succ]
  refine wpAnyH_done (by kernel_rfl) ?_ _
  have HB := Lib.hid hHeld
  clear hHeld
  go_wp2_with (go_at_call 90; refine (NT.out _).mono ?_; rintro e w' ⟨rfl, rfl⟩)
  refine (D1.out _).mono ?_
  rintro e w' ⟨rfl, rfl⟩
  go_wp2_with (go_at_call 90; refine (NT.out _).mono ?_; rintro e w' ⟨rfl, rfl⟩)
  refine (D2.out _).mono ?_
  rintro e w' ⟨rfl, rfl⟩
  go_wp2_with fail
  go_ret2
  exact ⟨by first | (rw [K.out]; rfl) | (rw [K.out, ← S0]; rfl), HB.out⟩

set_option maxRecDepth 100000 in
set_option maxHeartbeats 8000000 in
theorem rdeg9_pos (a : Int) (w : World) (h0 : -1296000000000 ≤ a) (h1 : a ≤ 1296000000000) (g1 : ¬ a < 0) :
    Calls Tryz.prog 44 #[.int .i64 a, .int .i64 9] w fun e w' => e = .returned (.tuple #[.string (stL (Gt.degL a 9)), .int .i64 0]) ∧ Below w.heap.size w w' := by
  obtain ⟨m, em⟩ : ∃ m : Nat, a.natAbs = m := ⟨_, rfl⟩
  try rw [em] at g2
  have mb : m ≤ 1296000000000 := by omega
  have eN : Gt.degN m 9 = unN m := if_pos (by omega)
  have nb := un_le mb
  have K1 : Hid (a < 0 → 0 < unN m → Gt.degL a 9 = 45 :: Gt.degB (unN m) 9) := Lib.hid fun g1 g2 => by unfold Gt.degL; rw [em, eN, if_pos ⟨g1, g2⟩]
  have K2 : Hid (¬ (a < 0 ∧ 0 < unN m) → Gt.degL a 9 = Gt.degB (unN m) 9) := Lib.hid fun g => by unfold Gt.degL; rw [em, eN, if_neg g]
  have NT : Hid (∀ w : World, Calls Tryz.prog 90 #[.int .i64 9] w fun e w' => e = .returned (.int .i64 1000000000) ∧ w = w') := Lib.hid (fun w => Gp.rten_any 9 w (by omega))
  have NC : Hid (∀ w : World, Calls Tryz.prog 91 #[.int .i64 1000000000] w fun e w' => e = .returned (.int .i64 200000000) ∧ Below w.heap.size w w') := Lib.hid (fun w => by
    have := Gp.common_any 1000000000 w (by omega) (by omega)
    rw [show ((Nat.gcd 1000000000 3600000000 : Nat) : Int) = 200000000 by decide +kernel] at this
    exact this)
  have RD : Hid (∀ w : World, Calls Tryz.prog 89 #[.int .i64 ((m : Int) * 5), .int .i64 18] w fun e w' => e = .returned (.int .i64 (unN m : Int)) ∧ ∃ k, w' = w.drewN k) := Lib.hid fun w => by
    have := Gp.rrounded_any (m * 5) 18 w (by omega) (by omega) (by omega)
    unfold unN
    rw [Gt.rndN_eq]
    have e : ((m * 5 : Nat) : Int) = (m : Int) * 5 := by omega
    rw [e] at this
    exact this
  have B0 : ∀ n, Gt.degB n 9 = Lib.itoa ((n / 1000000000 : Nat) : Int) ++ 46 :: Gt.padL ((n % 1000000000 : Nat) : Int) 9 := fun _ => rfl
  have neg : a < 0 → -a = (m : Int) := fun h => by omega
  have pos : ¬ a < 0 → a = (m : Int) := fun h => by omega
  generalize unN m = n at *
  have B := Lib.hid (B0 n)
  clear B0 em eN
  have D1 := Lib.hid (fun w => digs1_any (n / 1000000000) w (by omega))
  have D2 := Lib.hid (fun w => digs15_any (n % 1000000000) 9 w (Nat.mod_lt _ (by omega)) (by omega))
  have P := Lib.hid (pad_dec (n % 1000000000) 9 (by omega) (Nat.mod_lt _ (by omega)))
  have t1 : (n : Int).tdiv 1000000000 = ((n / 1000000000 : Nat) : Int) := rfl
  have t2 : (n : Int).tmod 1000000000 = ((n % 1000000000 : Nat) : Int) := rfl
  have j1 : (n : Int) / 1000000000 = ((n / 1000000000 : Nat) : Int) := rfl
  have j2 : (n : Int) % 1000000000 = ((n % 1000000000 : Nat) : Int) := rfl
  have s9 : n / 1000000000 ≤ 360 := by omega
  have r9 : n % 1000000000 ≤ 1000000000 := by omega
  have l1 := Lib.itoa_length_le ((n / 1000000000 : Nat) : Int) (by omega) (by omega)
  generalize n / 1000000000 = s at *
  generalize n % 1000000000 = r at *
  rw [P.out] at B
  have l2 := At.decL_len 9 r
  clear P
  obtain ⟨L, hL⟩ : ∃ L, Lib.itoa (s : Int) = L := ⟨_, rfl⟩
  obtain ⟨q, hq⟩ : ∃ q, At.decL r 9 = q := ⟨_, rfl⟩
  rw [hL] at B D1 l1
  rw [hq] at B D2 l2
  clear hL hq
  have z1 : (stL L).size = L.length := stL_size L
  have z2 : (⟨q.toArray⟩ : ByteArray).size = q.length := stL_size q
  have S0 : stL L ++ (⟨#[46]⟩ : ByteArray) ++ (⟨q.toArray⟩ : ByteArray) = stL (L ++ 46 :: q) := by
    apply ByteArray.ext
    simp [ByteArray.data_append, stL]
  have S1 : (⟨#[45]⟩ : ByteArray) ++ stL (L ++ 46 :: q) = stL (45 :: (L ++ 46 :: q)) := by
    apply ByteArray.ext
    simp [ByteArray.data_append, stL]
  have W5 := Lib.hid (show IntKind.i64.wrap 5 = 5 by decide)
  have W18 := Lib.hid (show IntKind.i64.wrap 18 = 18 by decide)
  have WM := Lib.hid (show IntKind.i64.wrap ((m : Int) * 5) = (m : Int) * 5 from IntWalk.i64_in _ (by omega))
  have z3 : (stL (L ++ 46 :: q)).size = L.length + 10 := by rw [stL_size, List.length_append, List.length_cons, l2]
  have n1 : ¬ a < -1296000000000 := by omega
  have n2 : ¬ (1296000000000 : Int) < a := by omega
  have d1 : decide (a < -1296000000000) = false := decide_eq_false n1
  have d2 : decide (1296000000000 < a) = false := decide_eq_false n2
  have u1 : (1000000000 : Int).tdiv 200000000 = 5 := rfl
  have u2 : (3600000000 : Int).tdiv 200000000 = 18 := rfl
  have ng := pos g1
  have K := Lib.hid ((K2.out (fun h => g1 h.1)).trans B.out)
  rw [ng] at K
  clear K1 K2 neg pos B
  go_enter Tryz.func44, Tryz.ntmps44
  go_upto_region 6 with fail
  refine wp_region_held_drew (S := fun wx => Below w.heap.size w wx) (by kernel_rfl) (Below.refl _ _).drew (fun hHeld => ?_)
  refine wpAnyH_take (i := 0) (oi := ?oi3_0x1) (v := ?v3_0x1) ?hi3_0x1 (by kernel_rfl) (by kernel_rfl) (by kernel_rfl) ?hq3_0x1 ?hy3_0x1 hHeld ?rest3_0x1
  case hi3_0x1 => ((try simp only [List.getElem?_toArray, List.getElem?_cons_succ, List.getElem?_cons_zero]); (try rfl))
  case hq3_0x1 => exact fun _ _ _ h => h
  case hy3_0x1 => exact Or.inl ⟨by rfl, by intro w hSw; clear hSw; go_simp; try with_reducible rfl⟩
  try simp only [Act.put, List.setIfInBounds_toArray, List.set_cons_zero, List.set_cons_succ]
  refine wpAnyH_take (i := 1) (oi := ?oi3_1x2) (v := ?v3_1x2) ?hi3_1x2 (by kernel_rfl) (by kernel_rfl) (by kernel_rfl) ?hq3_1x2 ?hy3_1x2 hHeld ?rest3_1x2
  case hi3_1x2 => ((try simp only [List.getElem?_toArray, List.getElem?_cons_succ, List.getElem?_cons_zero]); (try rfl))
  case hq3_1x2 => exact fun _ _ _ h => h
  case hy3_1x2 => exact Or.inl ⟨by rfl, by intro w hSw; clear hSw; go_simp; try with_reducible rfl⟩
  try simp only [Act.put, List.setIfInBounds_toArray, List.set_cons_zero, List.set_cons_succ]
  refine wpAnyH_take (i := 3) (oi := ?oi3_3x3) (v := ?v3_3x3) ?hi3_3x3 (by kernel_rfl) (by kernel_rfl) (by kernel_rfl) ?hq3_3x3 ?hy3_3x3 hHeld ?rest3_3x3
  case hi3_3x3 => ((try simp only [List.getElem?_toArray, List.getElem?_cons_succ, List.getElem?_cons_zero]); (try rfl))
  case hq3_3x3 => exact fun _ _ _ h => h
  case hy3_3x3 => exact Or.inl ⟨by rfl, by intro w hSw; clear hSw; go_simp; try with_reducible rfl⟩
  try simp only [Act.put, List.setIfInBounds_toArray, List.set_cons_zero, List.set_cons_succ]
  refine wpAnyH_take (i := 8) (oi := ?oi3_8x4) (v := ?v3_8x4) ?hi3_8x4 (by kernel_rfl) (by kernel_rfl) (by kernel_rfl) ?hq3_8x4 ?hy3_8x4 hHeld ?rest3_8x4
  case hi3_8x4 => ((try simp only [List.getElem?_toArray, List.getElem?_cons_succ, List.getElem?_cons_zero]); (try rfl))
  case hq3_8x4 => exact fun _ _ _ h => h
  case hy3_8x4 => exact Or.inl ⟨by rfl, by intro w hSw; clear hSw; go_simp; try with_reducible rfl⟩
  try simp only [Act.put, List.setIfInBounds_toArray, List.set_cons_zero, List.set_cons_succ]
  refine wpAnyH_ready (rs := [2]) (by kernel_rfl) (by simp) ?_
  refine AllReadyH.cons rfl (fun K' hK => ?_) AllReadyH.nil
  have H1 := Lib.hid hHeld
  clear hHeld
  go_simp
  refine (NT.out _).mono ?_
  rintro e wx ⟨rfl, rfl⟩
  replace H1 := Lib.hid (H1.out)
  refine hK.out _ _ H1.out (fun hHeld => ?_)
  clear hK H1
  try simp only [Act.put, List.setIfInBounds_toArray, List.set_cons_zero, List.set_cons_succ]
  refine wpAnyH_ready (rs := [4]) (by kernel_rfl) (by simp) ?_
  refine AllReadyH.cons rfl (fun K' hK => ?_) AllReadyH.nil
  have H1 := Lib.hid hHeld
  clear hHeld
  go_simp
  refine (NT.out _).mono ?_
  rintro e wx ⟨rfl, rfl⟩
  replace H1 := Lib.hid (H1.out)
  refine hK.out _ _ H1.out (fun hHeld => ?_)
  clear hK H1
  try simp only [Act.put, List.setIfInBounds_toArray, List.set_cons_zero, List.set_cons_succ]
  refine wpAnyH_ready (rs := [5]) (by kernel_rfl) (by simp) ?_
  refine AllReadyH.cons rfl (fun K' hK => ?_) AllReadyH.nil
  have H1 := Lib.hid hHeld
  clear hHeld
  go_simp
  refine (NC.out _).mono ?_
  rintro e wx ⟨rfl, hb⟩
  replace H1 := Lib.hid (below_then H1.out hb)
  refine hK.out _ _ H1.out (fun hHeld => ?_)
  clear hK H1
  try simp only [Act.put, List.setIfInBounds_toArray, List.set_cons_zero, List.set_cons_succ]
  refine wpAnyH_take (i := 6) (oi := ?oi3_6x5) (v := ?v3_6x5) ?hi3_6x5 (by kernel_rfl) (by kernel_rfl) (by kernel_rfl) ?hq3_6x5 ?hy3_6x5 hHeld ?rest3_6x5
  case hi3_6x5 => ((try simp only [List.getElem?_toArray, List.getElem?_cons_succ, List.getElem?_cons_zero]); (try rfl))
  case hq3_6x5 => exact fun _ _ _ h => h
  case hy3_6x5 => exact Or.inl ⟨by rfl, by intro w hSw; clear hSw; go_simp; try with_reducible rfl⟩
  try simp only [Act.put, List.setIfInBounds_toArray, List.set_cons_zero, List.set_cons_succ]
  refine wpAnyH_take (i := 7) (oi := ?oi3_7x6) (v := ?v3_7x6) ?hi3_7x6 (by kernel_rfl) (by kernel_rfl) (by kernel_rfl) ?hq3_7x6 ?hy3_7x6 hHeld ?rest3_7x6
  case hi3_7x6 => ((try simp only [List.getElem?_toArray, List.getElem?_cons_succ, List.getElem?_cons_zero]); (try rfl))
  case hq3_7x6 => exact fun _ _ _ h => h
  case hy3_7x6 => exact Or.inl ⟨by rfl, by intro w hSw; clear hSw; go_simp; try with_reducible rfl⟩
  try simp only [Act.put, List.setIfInBounds_toArray, List.set_cons_zero, List.set_cons_succ]
  refine wpAnyH_ready (rs := [9]) (by kernel_rfl) (by simp) ?_
  refine AllReadyH.cons rfl (fun K' hK => ?_) AllReadyH.nil
  have H1 := Lib.hid hHeld
  clear hHeld
  go_simp
  refine (NT.out _).mono ?_
  rintro e wx ⟨rfl, rfl⟩
  replace H1 := Lib.hid (H1.out)
  refine hK.out _ _ H1.out (fun hHeld => ?_)
  clear hK H1
  try simp only [Act.put, List.setIfInBounds_toArray, List.set_cons_zero, List.set_cons_succ]
  refine wpAnyH_ready (rs := [10]) (by kernel_rfl) (by simp) ?_
  refine AllReadyH.cons rfl (fun K' hK => ?_) AllReadyH.nil
  have H1 := Lib.hid hHeld
  clear hHeld
  go_simp
  refine (NC.out _).mono ?_
  rintro e wx ⟨rfl, hb⟩
  replace H1 := Lib.hid (below_then H1.out hb)
  refine hK.out _ _ H1.out (fun hHeld => ?_)
  clear hK H1
  try simp only [Act.put, List.setIfInBounds_toArray, List.set_cons_zero, List.set_cons_succ]
  refine wpAnyH_take (i := 11) (oi := ?oi3_11x7) (v := ?v3_11x7) ?hi3_11x7 (by kernel_rfl) (by kernel_rfl) (by kernel_rfl) ?hq3_11x7 ?hy3_11x7 hHeld ?rest3_11x7
  case hi3_11x7 => ((try simp only [List.getElem?_toArray, List.getElem?_cons_succ, List.getElem?_cons_zero]); (try rfl))
  case hq3_11x7 => exact fun _ _ _ h => h
  case hy3_11x7 => exact Or.inl ⟨by rfl, by intro w hSw; clear hSw; go_simp; try with_reducible rfl⟩
  try simp only [Act.put, List.setIfInBounds_toArray, List.set_cons_zero, List.set_cons_succ]
  refine wpAnyH_ready (rs := [12]) (by kernel_rfl) (by simp) ?_
  refine AllReadyH.cons rfl (fun K' hK => ?_) AllReadyH.nil
  have H1 := Lib.hid hHeld
  clear hHeld
  go_simp
  rw [W5.out, W18.out, WM.out]
  refine (RD.out _).mono ?_
  rintro e wx ⟨rfl, kk, rfl⟩
  replace H1 := Lib.hid (Lw.drewN_below2 H1.out kk)
  refine hK.out _ _ H1.out (fun hHeld => ?_)
  clear hK H1
  try simp only [Act.put, List.setIfInBounds_toArray, List.set_cons_zero, List.set_cons_succ]
  refine wpAnyH_take (i := 13) (oi := ?oi3_13x8) (v := ?v3_13x8) ?hi3_13x8 (by kernel_rfl) (by kernel_rfl) (by kernel_rfl) ?hq3_13x8 ?hy3_13x8 hHeld ?rest3_13x8
  case hi3_13x8 => ((try simp only [List.getElem?_toArray, List.getElem?_cons_succ, List.getElem?_cons_zero]); (try rfl))
  case hq3_13x8 => exact fun _ _ _ h => h
  case hy3_13x8 => exact Or.inl ⟨by rfl, by intro w hSw; clear hSw; go_simp; try with_reducible rfl⟩
  try simp only [Act.put, List.setIfInBounds_toArray, List.set_cons_zero, List.set_cons_succ]
  refine wpAnyH_done (by kernel_rfl) ?_ _
  have HB := Lib.hid hHeld
  clear hHeld
  go_wp2_with (go_at_call 90; refine (NT.out _).mono ?_; rintro e w' ⟨rfl, rfl⟩)
  refine (D1.out _).mono ?_
  rintro e w' ⟨rfl, rfl⟩
  go_wp2_with (go_at_call 90; refine (NT.out _).mono ?_; rintro e w' ⟨rfl, rfl⟩)
  refine (D2.out _).mono ?_
  rintro e w' ⟨rfl, rfl⟩
  go_wp2_with fail
  go_ret2
  exact ⟨by first | (rw [K.out]; rfl) | (rw [K.out, ← S0]; rfl), HB.out⟩

theorem rdeg9_any (a : Int) (w : World) (h0 : -1296000000000 ≤ a) (h1 : a ≤ 1296000000000) :
    Calls Tryz.prog 44 #[.int .i64 a, .int .i64 9] w fun e w' => e = .returned (.tuple #[.string (stL (Gt.degL a 9)), .int .i64 0]) ∧ Below w.heap.size w w' := by
  by_cases g : a < 0
  · by_cases n : 0 < unN a.natAbs
    · exact rdeg9_neg a w h0 h1 g n
    · exact rdeg9_zero a w h0 h1 g (by omega)
  · exact rdeg9_pos a w h0 h1 g
end Vw
end Go.Proofs.YtaghilgfldaaiaaGreatDoor
/-
  The walk of the reference's Fields.
-/
namespace Go.Proofs.YtaghilgfldaaiaaGreatDoor
namespace Vw
open Go.RowKit Lw Go.Proofs.YtaghilgfldaaiaaGreatDoor.Ap Go.Proofs.YtaghilgfldaaiaaGreatDoor.Vp Go.Proofs.YtaghilgfldaaiaaGreatDoor.Op Go.Proofs.YtaghilgfldaaiaaGreatDoor.Ow Go.Proofs.YtaghilgfldaaiaaGreatDoor.Mp Go.Proofs.YtaghilgfldaaiaaGreatDoor.Mw Go.Proofs.YtaghilgfldaaiaaGreatDoor.At

/-- What the reference's Fields keeps. -/
structure GX (w0 : World) (o : Ob) (w : World) : Prop where
  bx : Rw w w0.heap.size (obsC o)
  below : Below w0.heap.size w0 w
theorem GX.call {w0 w w' : World} {o : Ob} (h : GX w0 o w) (hb : Below w.heap.size w w') : GX w0 o w' := ⟨h.bx.call hb, below_then h.below hb⟩
theorem gx_next {w0 w : World} {o : Ob} {l : Array Value} {ty : TypeId} (h : GX w0 o w) : GX w0 o (w.alloc (.cells l ty)) := h.call ((Below.refl _ _).alloc (Nat.le_refl _) _)
theorem GX.new (w : World) (o : Ob) : GX w o (w.alloc (.cells (obsC o).toArray 33)) := ⟨Rw.new w (obsC o) 33, (Below.refl _ _).alloc (Nat.le_refl _) _⟩
def RFieldsPost (o : Ob) (w : World) (e : Ending) (w' : World) : Prop := ∃ (T : ByteArray) (b : Nat), TextIs o.t 6 T 0 ∧ e = .returned (.slice (some ⟨b, 0, none⟩) 8 8) ∧ w.heap.size ≤ b ∧ Rw w' b (strC (fieldL o T)) ∧ Below w.heap.size w w'
theorem mag_str {m : Int} {n : Nat} (hn : m.natAbs = n) (h9 : ¬ m = 9999) (hm : ¬ m < 0) : stL (Lib.itoa ((n / 100 : Nat) : Int)) ++ (⟨#[46]⟩ : ByteArray) ++ (⟨(decL (n % 100) 2).toArray⟩ : ByteArray) = stL (Vp.magF m) := by
  have e : Vp.magF m = Lib.itoa ((n / 100 : Nat) : Int) ++ (46 :: decL (n % 100) 2) := by
    unfold Vp.magF
    rw [if_neg h9, magB_list, if_neg hm, hn, List.nil_append, decL_two]
    rw [show n % 100 / 10 % 10 = n / 10 % 10 by omega, show n % 100 % 10 = n % 10 by omega]
  rw [e]
  apply ByteArray.ext
  simp [ByteArray.data_append, stL]
theorem mag_str2 {m : Int} {n : Nat} (hn : m.natAbs = n) (h9 : ¬ m = 9999) (hm : m < 0) : (⟨#[45]⟩ : ByteArray) ++ (stL (Lib.itoa ((n / 100 : Nat) : Int)) ++ (⟨#[46]⟩ : ByteArray) ++ (⟨(decL (n % 100) 2).toArray⟩ : ByteArray)) = stL (Vp.magF m) := by
  have e : Vp.magF m = 45 :: (Lib.itoa ((n / 100 : Nat) : Int) ++ (46 :: decL (n % 100) 2)) := by
    unfold Vp.magF
    rw [if_neg h9, magB_list, if_pos hm, hn, decL_two]
    rw [show n % 100 / 10 % 10 = n / 10 % 10 by omega, show n % 100 % 10 = n % 10 by omega]
    rfl
  rw [e]
  apply ByteArray.ext
  simp [ByteArray.data_append, stL]
theorem band_str {b : Int} {u : UInt8} (hb : ¬ b = 32) (hu : u = UInt8.ofNat b.toNat) : (⟨#[u]⟩ : ByteArray) = stL (bandF b) := by
  unfold bandF
  rw [if_neg hb, hu]
  rfl
set_option maxRecDepth 100000 in
set_option maxHeartbeats 16000000 in
theorem rfields_any (o : Ob) (w : World) (t0 : -9223372036854775808 ≤ o.t) (t1 : o.t ≤ 9223372036854775807) (ok : okO o) : Calls Tryz.prog 18 #[obsV o] w (RFieldsPost o w) := by
  have X0 := Lib.hid (GX.new w o)
  have OK := Lib.hid ok
  obtain ⟨ot, on, os, ow, or0, or1, od0, od1, og0, og1, om⟩ := ok
  have OM := Lib.hid om
  have TX := Lib.hid (fun w' => At.rtext_any o.t 6 w' t0 t1)
  have D1 := Lib.hid (fun w' => rdeg9_any o.ra w' (by omega) (by omega))
  have D2 := Lib.hid (fun w' => rdeg9_any o.dec w' (by omega) (by omega))
  obtain ⟨sn, hs⟩ := Int.eq_ofNat_of_zero_le (show 0 ≤ o.sg by omega)
  have SG := Lib.hid (fun w' => dec1_any sn w' (by omega))
  rw [← hs] at SG
  clear ot on os ow or0 or1 od0 od1 og0 og1 om t0 t1 hs
  go_enter Tryz.func18, Tryz.ntmps18
  have q := X0.out.bx.cell (j := 2) (v := _) rfl
  go_wp2_with fail
  clear q
  refine (TX.out _).mono ?_
  rintro e w2 ⟨T, c, rfl, hT, hb⟩
  obtain rfl : c = 0 := by
    have ot := OK.out.1
    unfold timeP at ot
    rcases hT with ⟨h, _, _⟩ | ⟨_, _, h, _, _⟩ | ⟨_, _, _, _, _, _, _, _, _, _, _, h⟩
    · omega
    · omega
    · exact h
  have HTX := Lib.hid hT
  have X2 := Lib.hid (X0.out.call hb)
  clear hb X0 TX hT
  have q := X2.out.bx.cell (j := 3) (v := _) rfl
  go_wp2_with fail
  clear q
  refine (D1.out _).mono ?_
  rintro e w3 ⟨rfl, hb⟩
  have X3 := Lib.hid (X2.out.call hb)
  clear hb X2 D1
  have q := X3.out.bx.cell (j := 4) (v := _) rfl
  go_wp2_with fail
  clear q
  refine (D2.out _).mono ?_
  rintro e w4 ⟨rfl, hb⟩
  have X4 := Lib.hid (X3.out.call hb)
  clear hb X3 D2
  have q := X4.out.bx.cell (j := 6) (v := _) rfl
  go_upto_if 32 with fail
  go_cut [9] (fun v wx => v = .string (stL (Vp.magF o.mag)) ∧ GX w o wx)
  case first =>
    by_cases h9 : o.mag = 9999
    · have e0 : (⟨#[]⟩ : ByteArray) = stL (Vp.magF o.mag) := by unfold Vp.magF; rw [if_pos h9]; rfl
      have E := Lib.hid e0
      have c9 : (o.mag == 9999) = true := beq_iff_eq.2 h9
      clear e0
      go_wp2_with fail
      go_meet
      exact ⟨by rw [← E.out], X4.out⟩
    · have mb := Ow.mag_bd OM.out h9
      have c9 : (o.mag == 9999) = false := beq_eq_false_iff_ne.2 h9
      obtain ⟨n, hn⟩ : ∃ n, o.mag.natAbs = n := ⟨_, rfl⟩
      have em : max o.mag (-o.mag) = (n : Int) := by omega
      have nb : n ≤ 3000 := by omega
      have S1 := Lib.hid (fun h => mag_str hn h9 h)
      have S2 := Lib.hid (fun h => mag_str2 hn h9 h)
      have i1 : ((n / 100 : Nat) : Int) = (n : Int) / 100 := by omega
      have i2 : ((n % 100 : Nat) : Int) = (n : Int) % 100 := by omega
      have I1 := Lib.hid (fun w => dec1_any (n / 100) w (by omega))
      have I2 := Lib.hid (fun w => decG_any (n % 100) 2 2 w (Nat.mod_lt _ (by omega)) (Nat.le_refl _) (Or.inl rfl) (by omega))
      have l1 := Lib.itoa_length_le ((n / 100 : Nat) : Int) (by omega) (by omega)
      have l2 := At.decL_len 2 (n % 100)
      rw [i1] at I1
      rw [i2] at I2
      obtain ⟨L, hL⟩ : ∃ L, stL (Lib.itoa ((n / 100 : Nat) : Int)) = L := ⟨_, rfl⟩
      obtain ⟨D, hD⟩ : ∃ D : ByteArray, (⟨(decL (n % 100) 2).toArray⟩ : ByteArray) = D := ⟨_, rfl⟩
      have zL : L.size ≤ 21 := by rw [← hL, stL_size]; exact l1
      have zD : D.size = 2 := by rw [← hD]; exact (stL_size _).trans l2
      rw [i1] at hL
      rw [hL] at I1
      rw [hD] at I2
      rw [i1, hL, hD] at S1 S2
      obtain ⟨A1, x1⟩ : ∃ S, S = L ++ (⟨#[46]⟩ : ByteArray) := ⟨_, rfl⟩
      have z1 : A1.size = L.size + 1 := by rw [x1, ByteArray.size_append]; rfl
      have a1 := add_fact x1 (by show L.size + 1 ≤ _; omega)
      obtain ⟨A2, x2⟩ : ∃ S, S = A1 ++ D := ⟨_, rfl⟩
      have z2 : A2.size = L.size + 3 := by rw [x2, ByteArray.size_append, z1, zD]
      have a2 := add_fact x2 (by omega)
      rw [← x1, ← x2] at S1 S2
      clear i1 i2 hL hD x1 x2 l1 l2 hn
      by_cases hm : o.mag < 0
      · have a3 := add_fact (S2.out hm).symm (by show 1 + A2.size ≤ _; omega)
        clear S1 S2
        go_wp2_with fail
        refine (I1.out _).mono ?_
        rintro e w5 ⟨rfl, rfl⟩
        go_wp2_with fail
        refine (I2.out _).mono ?_
        rintro e w5 ⟨rfl, rfl⟩
        go_wp2_with fail
        go_meet
        exact ⟨rfl, X4.out⟩
      · have E := Lib.hid (S1.out hm)
        clear S1 S2
        go_wp2_with fail
        refine (I1.out _).mono ?_
        rintro e w5 ⟨rfl, rfl⟩
        go_wp2_with fail
        refine (I2.out _).mono ?_
        rintro e w5 ⟨rfl, rfl⟩
        go_wp2_with fail
        go_meet
        exact ⟨by rw [← E.out], X4.out⟩
  case rest =>
    obtain ⟨rfl, X5⟩ := hcut
    have X5 := Lib.hid X5
    clear q X4
    have q := X5.out.bx.cell (j := 7) (v := _) rfl
    go_upto_if 54 with fail
    go_cut [10] (fun v wx => v = .string (stL (bandF o.band)) ∧ GX w o wx)
    case first =>
      by_cases hb : o.band = 32
      · have e0 : (⟨#[]⟩ : ByteArray) = stL (bandF o.band) := by unfold bandF; rw [if_pos hb]; rfl
        have E := Lib.hid e0
        have c9 : (o.band == 32) = true := beq_iff_eq.2 hb
        clear e0
        go_wp2_with fail
        go_meet
        exact ⟨by rw [← E.out], X5.out⟩
      · obtain ⟨b0, b1, b2⟩ := Ow.band_u8 OM.out
        obtain ⟨u, hu⟩ : ∃ u : UInt8, u = UInt8.ofNat o.band.toNat := ⟨_, rfl⟩
        have eu : o.band = (u.toNat : Int) := by rw [hu, UInt8.toNat_ofNat', Nat.mod_eq_of_lt (show o.band.toNat < 2 ^ 8 by omega)]; omega
        have E := Lib.hid (band_str hb hu)
        have hcv := one_u8 u
        rw [eu] at q
        have c9 : ((u.toNat : Int) == 32) = false := beq_eq_false_iff_ne.2 (by omega)
        clear b0 b1 b2 hu hb
        go_wp2_with fail
        go_meet
        exact ⟨by rw [← E.out], X5.out.call ((Below.refl _ _).alloc (Nat.le_refl _) _)⟩
    case rest =>
      obtain ⟨rfl, X6⟩ := hcut
      have X6 := Lib.hid X6
      clear q X5
      go_upto_region 12 with fail
      refine wp_region_held_drew (S := fun wx => GX w o wx) (by kernel_rfl) (X6.out.call (Below.refl _ _).drew) (fun hHeld => ?_)
      clear X6
      refine wpAnyH_take (i := 0) (oi := ?oi0x1) (v := ?v0x1) ?hi0x1 (by kernel_rfl) (by kernel_rfl) (by kernel_rfl) ?hq0x1 ?hy0x1 hHeld ?rest0x1
      case hi0x1 => ((try simp only [List.getElem?_toArray, List.getElem?_cons_succ, List.getElem?_cons_zero]); (try rfl))
      case hq0x1 => exact fun _ _ _ h => h
      case hy0x1 => exact Or.inl ⟨by rfl, by intro w hSw; clear hSw; go_simp; try with_reducible rfl⟩
      try simp only [Act.put, List.setIfInBounds_toArray, List.set_cons_zero, List.set_cons_succ]
      refine wpAnyH_take (i := 1) (oi := ?oi1x2) (v := ?v1x2) ?hi1x2 (by kernel_rfl) (by kernel_rfl) (by kernel_rfl) ?hq1x2 ?hy1x2 hHeld ?rest1x2
      case hi1x2 => ((try simp only [List.getElem?_toArray, List.getElem?_cons_succ, List.getElem?_cons_zero]); (try rfl))
      case hq1x2 => exact fun _ _ _ h => h
      case hy1x2 => exact Or.inl ⟨by rfl, by intro w hSw; have q := hSw.bx.cell (j := 0) (v := _) rfl; clear hSw; go_simp; try with_reducible rfl⟩
      try simp only [Act.put, List.setIfInBounds_toArray, List.set_cons_zero, List.set_cons_succ]
      refine wpAnyH_take (i := 2) (oi := ?oi2x3) (v := ?v2x3) ?hi2x3 (by kernel_rfl) (by kernel_rfl) (by kernel_rfl) ?hq2x3 ?hy2x3 hHeld ?rest2x3
      case hi2x3 => ((try simp only [List.getElem?_toArray, List.getElem?_cons_succ, List.getElem?_cons_zero]); (try rfl))
      case hq2x3 => exact fun _ _ _ h => h
      case hy2x3 => exact Or.inl ⟨by rfl, by intro w hSw; clear hSw; go_simp; try with_reducible rfl⟩
      try simp only [Act.put, List.setIfInBounds_toArray, List.set_cons_zero, List.set_cons_succ]
      refine wpAnyH_take (i := 3) (oi := ?oi3x4) (v := ?v3x4) ?hi3x4 (by kernel_rfl) (by kernel_rfl) (by kernel_rfl) ?hq3x4 ?hy3x4 hHeld ?rest3x4
      case hi3x4 => ((try simp only [List.getElem?_toArray, List.getElem?_cons_succ, List.getElem?_cons_zero]); (try rfl))
      case hq3x4 => exact fun _ _ _ h => h
      case hy3x4 => exact Or.inl ⟨by rfl, by intro w hSw; have q := hSw.bx.cell (j := 1) (v := _) rfl; clear hSw; go_simp; try with_reducible rfl⟩
      try simp only [Act.put, List.setIfInBounds_toArray, List.set_cons_zero, List.set_cons_succ]
      refine wpAnyH_take (i := 4) (oi := ?oi4x5) (v := ?v4x5) ?hi4x5 (by kernel_rfl) (by kernel_rfl) (by kernel_rfl) ?hq4x5 ?hy4x5 hHeld ?rest4x5
      case hi4x5 => ((try simp only [List.getElem?_toArray, List.getElem?_cons_succ, List.getElem?_cons_zero]); (try rfl))
      case hq4x5 => exact fun _ _ _ h => h
      case hy4x5 => exact Or.inl ⟨by rfl, by intro w hSw; clear hSw; go_simp; try with_reducible rfl⟩
      try simp only [Act.put, List.setIfInBounds_toArray, List.set_cons_zero, List.set_cons_succ]
      refine wpAnyH_take (i := 5) (oi := ?oi5x6) (v := ?v5x6) ?hi5x6 (by kernel_rfl) (by kernel_rfl) (by kernel_rfl) ?hq5x6 ?hy5x6 hHeld ?rest5x6
      case hi5x6 => ((try simp only [List.getElem?_toArray, List.getElem?_cons_succ, List.getElem?_cons_zero]); (try rfl))
      case hq5x6 => exact fun _ _ _ h => h
      case hy5x6 => exact Or.inl ⟨by rfl, by intro w hSw; clear hSw; go_simp; try with_reducible rfl⟩
      try simp only [Act.put, List.setIfInBounds_toArray, List.set_cons_zero, List.set_cons_succ]
      refine wpAnyH_take (i := 6) (oi := ?oi6x7) (v := ?v6x7) ?hi6x7 (by kernel_rfl) (by kernel_rfl) (by kernel_rfl) ?hq6x7 ?hy6x7 hHeld ?rest6x7
      case hi6x7 => ((try simp only [List.getElem?_toArray, List.getElem?_cons_succ, List.getElem?_cons_zero]); (try rfl))
      case hq6x7 => exact fun _ _ _ h => h
      case hy6x7 => exact Or.inl ⟨by rfl, by intro w hSw; clear hSw; go_simp; try with_reducible rfl⟩
      try simp only [Act.put, List.setIfInBounds_toArray, List.set_cons_zero, List.set_cons_succ]
      refine wpAnyH_take (i := 7) (oi := ?oi7x8) (v := ?v7x8) ?hi7x8 (by kernel_rfl) (by kernel_rfl) (by kernel_rfl) ?hq7x8 ?hy7x8 hHeld ?rest7x8
      case hi7x8 => ((try simp only [List.getElem?_toArray, List.getElem?_cons_succ, List.getElem?_cons_zero]); (try rfl))
      case hq7x8 => exact fun _ _ _ h => h
      case hy7x8 => exact Or.inl ⟨by rfl, by intro w hSw; clear hSw; go_simp; try with_reducible rfl⟩
      try simp only [Act.put, List.setIfInBounds_toArray, List.set_cons_zero, List.set_cons_succ]
      refine wpAnyH_take (i := 8) (oi := ?oi8x9) (v := ?v8x9) ?hi8x9 (by kernel_rfl) (by kernel_rfl) (by kernel_rfl) ?hq8x9 ?hy8x9 hHeld ?rest8x9
      case hi8x9 => ((try simp only [List.getElem?_toArray, List.getElem?_cons_succ, List.getElem?_cons_zero]); (try rfl))
      case hq8x9 => exact fun _ _ _ h => h
      case hy8x9 => exact Or.inl ⟨by rfl, by intro w hSw; have q := hSw.bx.cell (j := 5) (v := _) rfl; clear hSw; go_simp; try with_reducible rfl⟩
      try simp only [Act.put, List.setIfInBounds_toArray, List.set_cons_zero, List.set_cons_succ]
      refine wpAnyH_take (i := 10) (oi := ?oi10x10) (v := ?v10x10) ?hi10x10 (by kernel_rfl) (by kernel_rfl) (by kernel_rfl) ?hq10x10 ?hy10x10 hHeld ?rest10x10
      case hi10x10 => ((try simp only [List.getElem?_toArray, List.getElem?_cons_succ, List.getElem?_cons_zero]); (try rfl))
      case hq10x10 => exact fun _ _ _ h => h
      case hy10x10 => exact Or.inl ⟨by rfl, by intro w hSw; clear hSw; go_simp; try with_reducible rfl⟩
      try simp only [Act.put, List.setIfInBounds_toArray, List.set_cons_zero, List.set_cons_succ]
      refine wpAnyH_take (i := 11) (oi := ?oi11x11) (v := ?v11x11) ?hi11x11 (by kernel_rfl) (by kernel_rfl) (by kernel_rfl) ?hq11x11 ?hy11x11 hHeld ?rest11x11
      case hi11x11 => ((try simp only [List.getElem?_toArray, List.getElem?_cons_succ, List.getElem?_cons_zero]); (try rfl))
      case hq11x11 => exact fun _ _ _ h => h
      case hy11x11 => exact Or.inl ⟨by rfl, by intro w hSw; clear hSw; go_simp; try with_reducible rfl⟩
      try simp only [Act.put, List.setIfInBounds_toArray, List.set_cons_zero, List.set_cons_succ]
      refine wpAnyH_ready (rs := [9]) (by kernel_rfl) (by simp) ?_
      refine AllReadyH.cons rfl (fun K' hK => ?_) AllReadyH.nil
      have H1 := Lib.hid hHeld
      clear hHeld
      go_simp
      refine (SG.out _).mono ?_
      rintro e wx ⟨rfl, rfl⟩
      refine hK.out _ _ H1.out (fun hHeld => ?_)
      clear hK H1
      try simp only [Act.put, List.setIfInBounds_toArray, List.set_cons_zero, List.set_cons_succ]
      refine wpAnyH_ready (rs := [12]) (by kernel_rfl) (by simp) ?_
      refine AllReadyH.cons rfl (fun K' hK => ?_) AllReadyH.nil
      have H1 := Lib.hid hHeld
      clear hHeld
      go_simp
      refine hK.out _ _ (gx_next H1.out) (fun hHeld => ?_)
      clear hK
      try simp only [Act.put, List.setIfInBounds_toArray, List.set_cons_zero, List.set_cons_succ]
      refine wpAnyH_take (i := 13) (oi := ?oi13x12) (v := ?v13x12) ?hi13x12 (by kernel_rfl) (by kernel_rfl) (by kernel_rfl) ?hq13x12 ?hy13x12 hHeld ?rest13x12
      case hi13x12 => ((try simp only [List.getElem?_toArray, List.getElem?_cons_succ, List.getElem?_cons_zero]); (try rfl))
      case hq13x12 => exact fun _ _ _ h => h
      case hy13x12 => exact Or.inl ⟨by rfl, by intro w hSw; clear hSw; go_simp; try with_reducible rfl⟩
      try simp only [Act.put, List.setIfInBounds_toArray, List.set_cons_zero, List.set_cons_succ]
      refine wpAnyH_done (by kernel_rfl) ?_ _
      have XF := Lib.hid hHeld
      clear hHeld
      go_wp2_with fail
      go_ret
      exact ⟨T, _, HTX.out, rfl, H1.out.below.size, (Rw.new wc (strC (fieldL o T)) 9).call (Below.refl _ _).drew, XF.out.below⟩
end Vw
end Go.Proofs.YtaghilgfldaaiaaGreatDoor
