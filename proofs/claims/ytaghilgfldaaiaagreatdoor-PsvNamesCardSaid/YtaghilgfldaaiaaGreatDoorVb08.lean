/-
  Lemmas and walks, texts joined: VPrt, VMapG, VHdPl, OCmpPl, VMrPl, VMap, VTwo, ShelfW, VHead, VPCat, VPrs0.
-/
import Derived.Maps.OwnSet
import Derived.Maps.AppendAt
import Derived.DeepKeys4
import Derived.Below
import Derived.OwnWalk
import Derived.Shelf.Strings.Split
import Derived.Carry
import Derived.Test.YtaghilgfldaaiaaGreatDoorVb07
import Derived.Test.YtaghilgfldaaiaaGreatDoorVb01
import Derived.Test.YtaghilgfldaaiaaGreatDoorVb05
import Derived.Test.YtaghilgfldaaiaaGreatDoorProg
import Derived.Test.YtaghilgfldaaiaaGreatDoorVb04
import Derived.Test.YtaghilgfldaaiaaGreatDoorVb06
set_option linter.unusedSimpArgs false
set_option linter.unusedVariables false
/-
  The walk of Print of psv.
-/
namespace Go.Proofs.YtaghilgfldaaiaaGreatDoor
namespace Vw
open Go.RowKit Lw Go.Proofs.YtaghilgfldaaiaaGreatDoor.Ap Go.Proofs.YtaghilgfldaaiaaGreatDoor.Vp Go.Proofs.YtaghilgfldaaiaaGreatDoor.Op Go.Proofs.YtaghilgfldaaiaaGreatDoor.Ow Go.Proofs.YtaghilgfldaaiaaGreatDoor.Mp Go.Proofs.YtaghilgfldaaiaaGreatDoor.Mw Go.Proofs.YtaghilgfldaaiaaGreatDoor.At

theorem stL_app (a b : List UInt8) : stL (a ++ b) = stL a ++ stL b := by
  unfold stL
  apply ByteArray.ext
  simp [ByteArray.data_append]
theorem flat_len {m : Nat} : ∀ (l : List (List UInt8)), (∀ x ∈ l, x.length ≤ m) → (flatL l).length ≤ l.length * (m + 1)
  | [], _ => by simp [flatL]
  | a :: l, h => by
    have ih := flat_len l (fun x hx => h x (List.mem_cons_of_mem _ hx))
    have ha := h a (List.mem_cons_self ..)
    show ((a ++ [10]) ++ flatL l).length ≤ _
    have e : (a :: l).length = l.length + 1 := rfl
    rw [List.length_append, List.length_append, e, Nat.succ_mul]
    simp only [List.length_cons, List.length_nil]
    omega
theorem join_len {c : UInt8} {m : Nat} : ∀ (l : List (List UInt8)), (∀ x ∈ l, x.length ≤ m) → (joinC c l).length ≤ l.length * (m + 1)
  | [], _ => by simp [joinC, Lib.join]
  | [a], h => by
    have ha := h a (List.mem_cons_self ..)
    rw [joinC_one]
    simp only [List.length_cons, List.length_nil]
    omega
  | a :: b :: l, h => by
    have ih := join_len (c := c) (b :: l) (fun x hx => h x (List.mem_cons_of_mem _ hx))
    have ha := h a (List.mem_cons_self ..)
    have e : (a :: b :: l).length = (b :: l).length + 1 := rfl
    rw [joinC_cons, List.length_append, List.length_cons, e, Nat.succ_mul]
    omega
theorem row_len {o : Ob} {T : ByteArray} (ok : okO o) (hT : TextIs o.t 6 T 0) : (joinC 124 ((fieldL o T).map (·.data.toList))).length ≤ 808 := by
  have h := join_len (c := 124) (m := 100) ((fieldL o T).map (·.data.toList)) (fun x hx => by
    obtain ⟨s, hs, rfl⟩ := List.mem_map.1 hx
    exact field_size ok hT s hs)
  have e : ((fieldL o T).map (·.data.toList)).length = 8 := rfl
  rw [e] at h
  omega
theorem rows_len {l : List Ob} {rows : List (List UInt8)} (h : RowsTx l rows) (ok : ∀ o ∈ l, okO o) : ∀ r ∈ rows, r.length ≤ 808 := fun r hr => by
  obtain ⟨i, hi, rfl⟩ := List.getElem_of_mem hr
  have hl : i < l.length := by rw [← h.1]; exact hi
  obtain ⟨T, hT, e⟩ := h.2 i hl hi
  rw [e]
  exact row_len (ok _ (List.getElem_mem hl)) hT
theorem lines_len {notes : List ByteArray} {l : List Ob} {rows : List (List UInt8)} (hn : ∀ s ∈ notes, noteP s) (zn : notes.length ≤ 50) (zl : l.length ≤ 500) (h : RowsTx l rows) (ok : ∀ o ∈ l, okO o) : (flatL (linesL notes rows)).length ≤ 1000000 := by
  have a := flat_len (m := 808) (linesL notes rows) (fun x hx => by
    rcases List.mem_append.1 hx with hx | hx
    · obtain ⟨s, hs, rfl⟩ := List.mem_map.1 hx
      have := (note_read (hn s hs)).2.2.2
      omega
    · rcases List.mem_cons.1 hx with rfl | hx
      · have : headL.length ≤ 808 := by decide
        exact this
      · exact rows_len h ok x hx)
  have e : (linesL notes rows).length = notes.length + 1 + rows.length := by unfold linesL; rw [List.length_append, List.length_map, List.length_cons]; omega
  have := h.1
  have b : (linesL notes rows).length * 809 ≤ 551 * 809 := Nat.mul_le_mul_right _ (by omega)
  omega
theorem notes_len {notes : List ByteArray} (hn : ∀ s ∈ notes, noteP s) (zn : notes.length ≤ 50) (k : Nat) : (flatL ((notes.take k).map noteL)).length ≤ 1000000 := by
  have a := flat_len (m := 102) ((notes.take k).map noteL) (fun x hx => by
    obtain ⟨s, hs, rfl⟩ := List.mem_map.1 hx
    exact (note_read (hn s (List.mem_of_mem_take hs))).2.2.2)
  rw [List.length_map] at a
  have b : (notes.take k).length ≤ 50 := by rw [List.length_take]; omega
  have := Nat.mul_le_mul_right (102 + 1) b
  omega
theorem notes_next {notes : List ByteArray} {k : Nat} (hk : k < notes.length) : flatL ((notes.take (k + 1)).map noteL) = flatL ((notes.take k).map noteL) ++ (noteL notes[k] ++ [10]) := by
  rw [List.take_succ_eq_append_getElem hk, List.map_append]
  show flatL (_ ++ [noteL notes[k]]) = _
  rw [flatL_snoc, List.append_assoc]
theorem lines_next (notes : List ByteArray) (rows : List (List UInt8)) (r : List UInt8) : flatL (linesL notes (rows ++ [r])) = flatL (linesL notes rows) ++ (r ++ [10]) := by
  have : linesL notes (rows ++ [r]) = linesL notes rows ++ [r] := by unfold linesL; simp
  rw [this, flatL_snoc, List.append_assoc]
theorem lines_first (notes : List ByteArray) : flatL (linesL notes []) = flatL (notes.map noteL) ++ (headL ++ [10]) := by
  show flatL (notes.map noteL ++ [headL]) = _
  rw [flatL_snoc, List.append_assoc]
theorem rowsTx_next {l : List Ob} {rows : List (List UInt8)} {k : Nat} (hk : k < l.length) (h : RowsTx (l.take k) rows) {r : List UInt8} (hr : RowTx l[k] r) : RowsTx (l.take (k + 1)) (rows ++ [r]) := by
  have zl : (l.take k).length = k := by rw [List.length_take]; omega
  have z := h.1
  rw [zl] at z
  refine ⟨by rw [List.length_append, List.length_take, z]; simp only [List.length_cons, List.length_nil]; omega, fun i hi gi => ?_⟩
  rw [List.getElem_take]
  by_cases e : i < k
  · have := h.2 i (by omega) (by omega)
    rw [List.getElem_take] at this
    rw [List.getElem_append_left (by omega)]
    exact this
  · obtain rfl : i = k := by rw [List.length_take] at hi; omega
    rw [List.getElem_append_right (by omega)]
    simp only [z, Nat.sub_self, List.getElem_cons_zero]
    exact hr
theorem rowsTx_nil (l : List Ob) : RowsTx (l.take 0) [] := ⟨by simp, fun i hi => by simp at hi⟩
def PrintTPost (notes : List ByteArray) (l : List Ob) (w : World) (e : Ending) (w' : World) : Prop := ∃ (s : ByteArray) (c : Int), e = .returned (.tuple #[.string s, .int .i64 c]) ∧ PrintTIs notes l s c ∧ Below w.heap.size w w'
set_option maxRecDepth 100000 in
set_option maxHeartbeats 16000000 in
theorem vprint_any (xn : Option Addr) (cn : Nat) (notes : List ByteArray) (xo : Option Addr) (co : Nat) (l : List Ob) (w : World) (hT : Gt.Tab w) (hE : ES w) (hs : StA w xn notes) (hl : SlA w xo l) (hz : SzS notes) (mn : notes.length ≤ 1000000) (ml : l.length ≤ 1000000) (hb : OBs l) :
    Calls Tryz.prog 22 #[.slice xn notes.length cn, .slice xo l.length co] w (PrintTPost notes l w) := by
  have HS := Lib.hid (fun w' (h : Below w.heap.size w w') => hs.below h)
  have HL := Lib.hid (fun w' (h : Below w.heap.size w w') => hl.below h)
  have HE := Lib.hid (fun w' (h : Below w.heap.size w w') => hE.below h)
  have HT := Lib.hid (fun w' (h : Below w.heap.size w w') => hT.below h)
  have CN := Lib.hid (vcheckn_any xn cn notes w hs hz mn)
  have CA := Lib.hid (fun w' (h : Below w.heap.size w w') => vcheckall_any xo co l w' (HE.out _ h) (HL.out _ h) ml hb)
  have FI := Lib.hid (fun i (h : i < l.length) w' (g : Below w.heap.size w w') => fields_any (l[i]'h) w' (HT.out _ g) (HE.out _ g) (hb i h))
  obtain ⟨nn, hnn⟩ : ∃ n, notes.length = n := ⟨_, rfl⟩
  obtain ⟨nl, hnl⟩ : ∃ n, l.length = n := ⟨_, rfl⟩
  rw [hnn] at CN ⊢
  rw [hnl] at CA ⊢
  by_cases cn0 : checkN notes = 0
  · obtain ⟨zn, okn⟩ := checkN_ok cn0
    by_cases cl0 : allC l = 0
    · obtain ⟨zl, okl⟩ := allC_ok cl0
      have FIN : Hid (∀ rows, RowsTx (l.take nl) rows → PrintTIs notes l (stL (flatL (linesL notes rows))) 0) := Lib.hid (fun rows h => by
        rw [← hnl, List.take_length] at h
        exact Or.inl ⟨cn0, cl0, rfl, rows, h, rfl⟩)
      have NLEN := Lib.hid (fun k => notes_len okn zn k)
      have NOTE := Lib.hid (fun i (h : i < notes.length) => okn _ (List.getElem_mem h))
      have OKL := Lib.hid (fun i (h : i < l.length) => okl _ (List.getElem_mem h))
      have LLEN : Hid (∀ k rows, RowsTx (l.take k) rows → (flatL (linesL notes rows)).length ≤ 1000000) := Lib.hid (fun k rows h => lines_len okn zn (by rw [List.length_take]; omega) h (fun o ho => okl o (List.mem_of_mem_take ho)))
      rw [cn0] at CN
      rw [cl0] at CA
      have NN := Lib.hid hnn
      have NL := Lib.hid hnl
      have zn50 : nn ≤ 50 := by omega
      have zl500 : nl ≤ 500 := by omega
      clear hs hl hE hT hz hb hnn hnl mn ml cn0 cl0 zn okn zl okl
      go_enter Tryz.func22, Tryz.ntmps22
      go_wp2_with fail
      refine CN.out.mono ?_
      rintro e w1 ⟨rfl, hb1⟩
      have B1 := Lib.hid hb1
      clear hb1 CN
      go_wp2_with fail
      refine (CA.out _ B1.out).mono ?_
      rintro e w2 ⟨rfl, hb2⟩
      have b2 := below_then B1.out hb2
      have B2 := Lib.hid (b2.alloc b2.size (.cells #[.pointer none, .slice none 0 0] 95))
      have D2 := Lib.hid (Bd.new w2)
      have le2 := b2.size
      clear hb2 b2 B1 CA
      go_wp2_with fail
      go_loopw [28] (fun i wr => ∃ k : Nat, k ≤ nn ∧ i = .int .i64 k ∧ Hid (Bd w2.heap.size (stL (flatL ((notes.take k).map noteL))) wr) ∧ Hid (Below w.heap.size w wr)) (fun i _ => nn - (intOf i).toNat)
      case atStart => exact ⟨0, Nat.zero_le _, rfl, D2, B2⟩
      case round =>
        obtain ⟨k, hk, rfl, D, B⟩ := hrel
        clear B2 D2
        by_cases hlt : k < nn
        · have hkl : k < notes.length := by rw [NN.out]; exact hlt
          obtain ⟨b, off, rfl, lt, hc⟩ := (HS.out _ B.out).get hkl
          have NX := Lib.hid (notes_next hkl)
          have OKk := NOTE.out k hkl
          have zs := OKk.2.1
          have zt := (note_read OKk).2.2.2
          have zf := NLEN.out k
          have i1 : (k : Int) < (nn : Int) := by omega
          have i0 : (0 : Int) ≤ (k : Int) := by omega
          clear NOTE FIN OKk lt
          generalize notes[k]'hkl = s at *
          obtain ⟨P, hP⟩ : ∃ P, stL (flatL ((notes.take k).map noteL)) = P := ⟨_, rfl⟩
          have zP : P.size ≤ 1000000 := by rw [← hP, stL_size]; exact zf
          rw [hP] at D
          have NX2 : Hid (stL (flatL ((notes.take (k + 1)).map noteL)) = P ++ (stL (noteL s) ++ ⟨#[10]⟩)) := Lib.hid (by rw [NX.out, stL_app, hP, stL_app]; rfl)
          obtain ⟨t1, ht1⟩ : ∃ t, (⟨#[35, 32]⟩ : ByteArray) ++ s = t := ⟨_, rfl⟩
          have z1 : t1.size = s.size + 2 := by rw [← ht1, ByteArray.size_append]; show 2 + s.size = _; omega
          have cat1 : ∀ w', (Go.Op.stringOp .add ⟨#[35, 32]⟩ s).run Tryz.prog w' = .ok (.string t1) w' := fun w' => by rw [run_string_add_sum (P := Tryz.prog) (w := w') _ _ (by rw [show (⟨#[35, 32]⟩ : ByteArray).size = 2 from rfl]; omega), ← ht1]
          obtain ⟨t2, ht2⟩ : ∃ t, stL (noteL s) = t := ⟨_, rfl⟩
          have TR : Hid (∀ w', Calls Tryz.prog 57 #[.string t1, .string ⟨#[32]⟩] w' fun e w2 => e = .returned (.string t2) ∧ w2 = w') := Lib.hid (fun w' => (Tryz.strings_TrimRight_one t1 32 (by decide) w' (by omega)).mono fun _ _ ⟨x, y⟩ => ⟨by rw [x, ← ht2, ← ht1]; rfl, y⟩)
          have z2 : t2.size ≤ 102 := by rw [← ht2, stL_size]; exact zt
          rw [ht2] at NX2
          obtain ⟨t3, ht3⟩ : ∃ t, t2 ++ (⟨#[10]⟩ : ByteArray) = t := ⟨_, rfl⟩
          have z3 : t3.size = t2.size + 1 := by rw [← ht3, ByteArray.size_append]; rfl
          have cat2 : ∀ w', (Go.Op.stringOp .add t2 ⟨#[10]⟩).run Tryz.prog w' = .ok (.string t3) w' := fun w' => by rw [run_string_add_sum (P := Tryz.prog) (w := w') _ _ (by rw [show (⟨#[10]⟩ : ByteArray).size = 1 from rfl]; omega), ← ht3]
          rw [ht3] at NX2
          clear NX hP ht1 ht2 ht3
          go_wp2_with fail
          refine (TR.out _).mono ?_
          rintro e w3 ⟨rfl, rfl⟩
          clear TR cat1
          go_wp2_with fail
          refine (bd_write D.out (t := t3) (by omega)).mono ?_
          rintro e w4 ⟨rfl, hd4, hb4⟩
          have B4 := Lib.hid (B.out.trans (hb4.mono le2))
          have D4 := Lib.hid (show Bd w2.heap.size (stL (flatL ((notes.take (k + 1)).map noteL))) w4 by rw [NX2.out]; exact hd4)
          clear hd4 hb4 B D cat2 NX2
          go_wp2_with fail
          go_roundw
          case rel => exact ⟨k + 1, by omega, by go_num, D4, B4⟩
          case measure => simp [intOf]; omega
        · obtain rfl : k = nn := by omega
          have D0 := D.out
          have tn : notes.take k = notes := by rw [← NN.out, List.take_length]
          have zf := NLEN.out k
          rw [tn] at D0 zf
          obtain ⟨P, hP⟩ : ∃ P, stL (flatL (notes.map noteL)) = P := ⟨_, rfl⟩
          have zP : P.size ≤ 1000000 := by rw [← hP, stL_size]; exact zf
          rw [hP] at D0
          have NX : Hid (stL (flatL (linesL notes [])) = P ++ (stL headL ++ ⟨#[10]⟩)) := Lib.hid (by rw [lines_first, stL_app, hP, stL_app]; rfl)
          have DH := Lib.hid D0
          clear D D0 tn zf hP NOTE NLEN HS NN
          go_wp2_with fail
          refine (names_any _).mono ?_
          rintro e w3 ⟨rfl, hb3⟩
          have D3 := Lib.hid (DH.out.below hb3)
          have B3 := Lib.hid (below_then B.out hb3)
          have r3 := Rw.new w3 (strC colB) 69
          have l3 := (Below.refl w3.heap.size w3).alloc (Nat.le_refl _) (.cells (strC colB).toArray 69)
          have D4 := Lib.hid (D3.out.below l3)
          have B4 := Lib.hid (below_then B3.out l3)
          obtain ⟨v3, hv3⟩ : ∃ v, w3.alloc (.cells (strC colB).toArray 69) = v := ⟨_, rfl⟩
          rw [hv3] at r3 D4 B4
          have V3 := Lib.hid hv3
          have R3 := Lib.hid r3
          have JN : Hid (Calls Tryz.prog 59 #[.slice (some ⟨w3.heap.size, 0, none⟩) 8 8, .string ⟨#[124]⟩] v3 fun e w2 => e = .returned (.string (stL headL)) ∧ Below v3.heap.size v3 w2) := Lib.hid (Tryz.strings_Join w3.heap.size 0 8 colB ⟨#[124]⟩ v3 (fun j x hj => by rw [Nat.zero_add]; exact R3.out.cell (by unfold strC; rw [List.getElem?_map, hj]; rfl)) R3.out.lt (by decide) (by decide) (by decide))
          clear hb3 r3 l3 hv3 D3 B3 DH B
          go_upto_region 14 with (refine wpList_store_new rfl _ (.tmp 11) (.tmp 38) rfl _ (strC colB).toArray rfl rfl infoF rfl (str_one colB) ?_)
          rw [V3.out]
          obtain ⟨q3, hq3⟩ : ∃ q, w3.heap.size = q := ⟨_, rfl⟩
          rw [hq3] at JN ⊢
          clear V3 hq3 R3
          obtain ⟨t1, ht1⟩ : ∃ t, stL headL = t := ⟨_, rfl⟩
          have z1 : t1.size ≤ 100 := by rw [← ht1, stL_size]; decide
          rw [ht1] at JN NX
          obtain ⟨t2, ht2⟩ : ∃ t, t1 ++ (⟨#[10]⟩ : ByteArray) = t := ⟨_, rfl⟩
          have z2 : t2.size = t1.size + 1 := by rw [← ht2, ByteArray.size_append]; rfl
          have cat1 : ∀ w', (Go.Op.stringOp .add t1 ⟨#[10]⟩).run Tryz.prog w' = .ok (.string t2) w' := fun w' => by rw [run_string_add_sum (P := Tryz.prog) (w := w') _ _ (by rw [show (⟨#[10]⟩ : ByteArray).size = 1 from rfl]; omega), ← ht2]
          rw [ht2] at NX
          clear ht1 ht2
          go_wp2_with fail
          refine JN.out.mono ?_
          rintro e w5 ⟨rfl, hb5⟩
          have D5 := Lib.hid (D4.out.below hb5)
          have B5 := Lib.hid (below_then B4.out hb5)
          clear hb5 JN D4 B4
          go_wp2_with fail
          refine (bd_write D5.out (t := t2) (by omega)).mono ?_
          rintro e w6 ⟨rfl, hd6, hb6⟩
          have B6 := Lib.hid (B5.out.trans (hb6.mono le2))
          have D6 := Lib.hid (show Bd w2.heap.size (stL (flatL (linesL notes []))) w6 by rw [NX.out]; exact hd6)
          clear hd6 hb6 B5 D5 cat1 NX
          go_wp2_with fail
          go_loopw [45] (fun i wr => ∃ k : Nat, k ≤ nl ∧ i = .int .i64 k ∧ Hid (∃ rows, RowsTx (l.take k) rows ∧ Bd w2.heap.size (stL (flatL (linesL notes rows))) wr) ∧ Hid (Below w.heap.size w wr)) (fun i _ => nl - (intOf i).toNat)
          case atStart => exact ⟨0, Nat.zero_le _, rfl, Lib.hid ⟨[], rowsTx_nil l, D6.out⟩, B6⟩
          case round =>
            obtain ⟨m, hm, rfl, DD, B⟩ := hrel
            clear B6 D6
            obtain ⟨rows, hr, hd⟩ := DD.out
            have zf := LLEN.out m rows hr
            have HR := Lib.hid hr
            have HD := Lib.hid hd
            clear DD hr hd
            by_cases hlt2 : m < nl
            · have hml : m < l.length := by rw [NL.out]; exact hlt2
              obtain ⟨b, off, rfl, lt, row⟩ := (HL.out _ B.out).get hml
              have R := Lib.hid (row m hml)
              have FIm := Lib.hid (FI.out m hml)
              have OKm := Lib.hid (OKL.out m hml)
              have NXT : Hid (∀ r, RowTx (l[m]'hml) r → RowsTx (l.take (m + 1)) (rows ++ [r])) := Lib.hid (fun r h => rowsTx_next hml HR.out h)
              have i1 : (m : Int) < (nl : Int) := by omega
              have i0 : (0 : Int) ≤ (m : Int) := by omega
              clear FIN row lt FI OKL HR
              generalize l[m]'hml = o at *
              obtain ⟨P, hP⟩ : ∃ P, stL (flatL (linesL notes rows)) = P := ⟨_, rfl⟩
              have zP2 : P.size ≤ 1000000 := by rw [← hP, stL_size]; exact zf
              rw [hP] at HD
              have PE := Lib.hid hP
              clear zf hP
              have bx := (Below.refl wr.heap.size wr).alloc (Nat.le_refl _) (.cells (obsC o).toArray 33)
              have X0 := Lib.hid (Box.new wr o)
              have B7 := Lib.hid (B.out.alloc B.out.size (.cells (obsC o).toArray 33))
              have D7 := Lib.hid (HD.out.below bx)
              clear B bx HD
              go_wp2_with (first | (refine wpList_store_new rfl _ (.tmp 13) (.tmp 48) rfl _ _ rfl rfl info8 rfl ?_ ?_; simp [Value.oneCell']) | (refine wpList_load_mid rfl _ (.tmp 47) rfl b (off + m * 8) rfl (obsC o) _ R.out Tryz.underlying33 rfl info8 ?_) | (refine wpList_load_mid rfl _ (.tmp 13) rfl wr.heap.size 0 rfl (obsC o) _ X0.out.row Tryz.underlying33 rfl info8 ?_))
              refine (FIm.out _ B7.out).mono ?_
              rintro e w8 ⟨hf, hb8⟩
              obtain ⟨T, hT, rfl⟩ : ∃ T, TextIs o.t 6 T 0 ∧ e = .returned (.tuple #[flV (fieldL o T), .int .i64 0]) := by
                rcases hf with ⟨T, _, hT, he⟩ | ⟨no, _⟩
                · exact ⟨T, hT, he⟩
                · exact absurd OKm.out no
              have B8 := Lib.hid (below_then B7.out hb8)
              have D8 := Lib.hid (D7.out.below hb8)
              have FS := field_size OKm.out hT
              obtain ⟨r, hr⟩ : ∃ r, joinC 124 ((fieldL o T).map (·.data.toList)) = r := ⟨_, rfl⟩
              have zr : r.length ≤ 808 := by rw [← hr]; exact row_len OKm.out hT
              have RT := Lib.hid (NXT.out r ⟨T, hT, hr.symm⟩)
              have r9 := Rw.new w8 (strC (fieldL o T)) 69
              have l9 := (Below.refl w8.heap.size w8).alloc (Nat.le_refl _) (.cells (strC (fieldL o T)).toArray 69)
              have D9 := Lib.hid (D8.out.below l9)
              have B9 := Lib.hid (below_then B8.out l9)
              obtain ⟨v9, hv9⟩ : ∃ v, w8.alloc (.cells (strC (fieldL o T)).toArray 69) = v := ⟨_, rfl⟩
              rw [hv9] at r9 D9 B9
              have V9 := Lib.hid hv9
              have R9 := Lib.hid r9
              have ZF : Hid ((fieldL o T).length = 8) := Lib.hid rfl
              have JN : Hid (Calls Tryz.prog 59 #[.slice (some ⟨w8.heap.size, 0, none⟩) 8 8, .string ⟨#[124]⟩] v9 fun e w2 => e = .returned (.string (stL r)) ∧ Below v9.heap.size v9 w2) := Lib.hid (by
                have := Tryz.strings_Join w8.heap.size 0 8 (fieldL o T) ⟨#[124]⟩ v9 (fun j x hj => by rw [Nat.zero_add]; exact R9.out.cell (by unfold strC; rw [List.getElem?_map, hj]; rfl)) R9.out.lt (by rw [ZF.out]; omega) (by rw [ZF.out]; omega) (by show (joinC 124 ((fieldL o T).map (·.data.toList))).length ≤ _; rw [hr]; omega)
                rw [← hr]
                exact this)
              have S1 := Lib.hid (str_one (fieldL o T))
              clear hb8 hf r9 l9 hv9 D8 B8 D7 B7 FIm X0 R NXT hT hr FS OKm
              go_upto_region 19 with (refine wpList_store_new rfl _ (.tmp 14) (.tmp 52) rfl _ (strC (fieldL o T)).toArray rfl rfl infoF rfl S1.out ?_)
              rw [V9.out]
              clear V9
              generalize fieldL o T = FF at *
              obtain ⟨q9, hq9⟩ : ∃ q, w8.heap.size = q := ⟨_, rfl⟩
              rw [hq9] at JN ⊢
              clear hq9 S1 R9
              obtain ⟨t1, ht1⟩ : ∃ t, stL r = t := ⟨_, rfl⟩
              have z1 : t1.size ≤ 808 := by rw [← ht1, stL_size]; exact zr
              have NX : Hid (stL (flatL (linesL notes (rows ++ [r]))) = P ++ (t1 ++ ⟨#[10]⟩)) := Lib.hid (by rw [lines_next, stL_app, PE.out, stL_app, ht1]; rfl)
              rw [ht1] at JN
              obtain ⟨t2, ht2⟩ : ∃ t, t1 ++ (⟨#[10]⟩ : ByteArray) = t := ⟨_, rfl⟩
              have z2 : t2.size = t1.size + 1 := by rw [← ht2, ByteArray.size_append]; rfl
              have cat1 : ∀ w', (Go.Op.stringOp .add t1 ⟨#[10]⟩).run Tryz.prog w' = .ok (.string t2) w' := fun w' => by rw [run_string_add_sum (P := Tryz.prog) (w := w') _ _ (by rw [show (⟨#[10]⟩ : ByteArray).size = 1 from rfl]; omega), ← ht2]
              rw [ht2] at NX
              clear ht1 ht2 PE zr
              go_wp2_with fail
              refine JN.out.mono ?_
              rintro e w10 ⟨rfl, hb10⟩
              have D10 := Lib.hid (D9.out.below hb10)
              have B10 := Lib.hid (below_then B9.out hb10)
              clear hb10 JN D9 B9
              go_wp2_with fail
              refine (bd_write D10.out (t := t2) (by omega)).mono ?_
              rintro e w11 ⟨rfl, hd11, hb11⟩
              have B11 := Lib.hid (B10.out.trans (hb11.mono le2))
              have D11 := Lib.hid (show Bd w2.heap.size (stL (flatL (linesL notes (rows ++ [r])))) w11 by rw [NX.out]; exact hd11)
              clear hd11 hb11 B10 D10 cat1 NX
              go_wp2_with fail
              go_roundw
              case rel => exact ⟨m + 1, by omega, by go_num, Lib.hid ⟨_, RT.out, D11.out⟩, B11⟩
              case measure => simp [intOf]; omega
            · obtain rfl : m = nl := by omega
              have F := Lib.hid (FIN.out rows HR.out)
              clear HL HE HT FI FIN HR NL OKL
              go_wp2_with fail
              refine (bd_str HD.out).mono ?_
              rintro e w8 ⟨rfl, hb8⟩
              have B8 := Lib.hid (B.out.trans (hb8.mono le2))
              clear hb8 B HD
              go_wp2_with fail
              go_ret2
              exact ⟨_, 0, rfl, F.out, B8.out⟩
    · have FIN := Lib.hid (show PrintTIs notes l ByteArray.empty (allC l) from Or.inr (Or.inr ⟨cn0, cl0, rfl, rfl⟩))
      have hnz : (allC l != 0) = true := by rw [bne, beq_eq_false_iff_ne.2 cl0]; rfl
      rw [cn0] at CN
      clear hs hl hE hT hz hb hnn hnl mn ml cn0 cl0 zn okn HS HL HE HT FI
      generalize allC l = K at *
      go_enter Tryz.func22, Tryz.ntmps22
      go_wp2_with fail
      refine CN.out.mono ?_
      rintro e w1 ⟨rfl, hb1⟩
      have B1 := Lib.hid hb1
      clear hb1 CN
      go_wp2_with fail
      refine (CA.out _ B1.out).mono ?_
      rintro e w2 ⟨rfl, hb2⟩
      have B2 := Lib.hid (below_then B1.out hb2)
      clear hb2 B1 CA
      go_wp2_with fail
      go_ret2
      exact ⟨_, K, rfl, FIN.out, B2.out⟩
  · have FIN := Lib.hid (show PrintTIs notes l ByteArray.empty (checkN notes) from Or.inr (Or.inl ⟨cn0, rfl, rfl⟩))
    have hnz : (checkN notes != 0) = true := by rw [bne, beq_eq_false_iff_ne.2 cn0]; rfl
    clear hs hl hE hT hz hb hnn hnl mn ml cn0 HS HL HE HT FI CA
    generalize checkN notes = K at *
    go_enter Tryz.func22, Tryz.ntmps22
    go_wp2_with fail
    refine CN.out.mono ?_
    rintro e w1 ⟨rfl, hb1⟩
    have B1 := Lib.hid hb1
    clear hb1 CN
    go_wp2_with fail
    go_ret2
    exact ⟨_, K, rfl, FIN.out, B1.out⟩
end Vw
end Go.Proofs.YtaghilgfldaaiaaGreatDoor
/-
  A map that the call has made, read as a function.
-/
namespace Go.Proofs.YtaghilgfldaaiaaGreatDoor
namespace Vw
open Go.RowKit Lw Go.Maps Go.WideShapes

/-- How an element reads: as it is. -/
def obEl (v : Value) : Option (DataW Value × List MemPlace) := some (.held v, [])
def updK {κ β : Type} [DecidableEq κ] (f : κ → Option β) (k : κ) (r : Option β) : κ → Option β := fun k' => if k' = k then r else f k'
theorem updK_same {κ β : Type} [DecidableEq κ] (f : κ → Option β) (k : κ) (r : Option β) : updK f k r k = r := by unfold updK; rw [if_pos rfl]
theorem updK_other {κ β : Type} [DecidableEq κ] {f : κ → Option β} {k k' : κ} {r : Option β} (h : k' ≠ k) : updK f k r k' = f k' := by unfold updK; rw [if_neg h]
/-- What the types of a map give. -/
structure MapTy (P : Program) (T K E : TypeId) {κ β : Type} (kv : κ → Value) (vv : β → Value) (good : κ → Prop) (zb : β) : Prop where
  law : Keyed P K
  ty : P.underlying T = some (.map K E)
  zero : ∀ w, (zeroValue E).run P w = .ok (vv zb) w
  inj : ∀ k k', kv k = kv k' → k = k'
  key : ∀ k, good k → ∃ l, keyOf P K (kv k) = some l
/-- Block b is a map of at most n entries, that is the function f. -/
structure OMg (P : Program) (K : TypeId) {κ β : Type} (kv : κ → Value) (vv : β → Value) (good : κ → Prop) (w : World) (b n : Nat) (f : κ → Option β) : Prop where
  ex : ∃ D : DataW Value, w.ownsMap P K obEl b n D ∧ ∀ k, good k → ∀ l, keyOf P K (kv k) = some l → Maps.has D l = (f k).isSome ∧ ∀ o, f k = some o → ∀ z, D.atKey l z = .held (vv o)
section
variable {P : Program} {T K E : TypeId} {κ β : Type} {kv : κ → Value} {vv : β → Value} {good : κ → Prop} {zb : β} {w : World} {b n : Nat} {f : κ → Option β}
theorem OMg.made (w : World) : OMg P K kv vv good (w.alloc (.map #[] 0)) w.heap.size 0 (fun _ => none) :=
  ⟨_, World.ownsMap_made w _ _ _, fun k _ l _ => ⟨rfl, fun o h => by cases h⟩⟩
theorem OMg.lt (h : OMg P K kv vv good w b n f) : b < w.heap.size := by
  obtain ⟨D, h, _⟩ := h
  exact h.lt
theorem OMg.kept {w' : World} {row : Option Nat} (h : OMg P K kv vv good w b n f) (hg : w.grownBy w' row) (hne : some b ≠ row) : OMg P K kv vv good w' b n f := by
  obtain ⟨D, h, g⟩ := h
  exact ⟨D, h.kept hg hne, g⟩
theorem OMg.mono (h : OMg P K kv vv good w b n f) {n' : Nat} (hn : n ≤ n') : OMg P K kv vv good w b n' f := by
  obtain ⟨D, h, g⟩ := h
  exact ⟨D, h.mono hn, g⟩
theorem OMg.below {w' : World} (h : OMg P K kv vv good w b n f) (hb : Below w.heap.size w w') : OMg P K kv vv good w' b n f := by
  have lt := h.lt
  obtain ⟨D, ⟨es, clock, hh, r⟩, g⟩ := h
  exact ⟨D, ⟨es, clock, by rw [hb.block b lt]; exact hh, r⟩, g⟩
theorem OMg.setCell (h : OMg P K kv vv good w b n f) {a : Addr} (ha : b ≠ a.block) (u : Value) : OMg P K kv vv good (w.setCell a u) b n f := by
  obtain ⟨D, h, g⟩ := h
  exact ⟨D, h.setCell ha u, g⟩
theorem OMg.look (h : OMg P K kv vv good w b n f) (M : MapTy P T K E kv vv good zb) {k : κ} (hk : good k) : (Instr.lookup T (.map (some b)) (kv k) true).run P w = .ok (.tuple #[vv ((f k).getD zb), .bool (f k).isSome]) w := by
  obtain ⟨l, hl⟩ := M.key k hk
  obtain ⟨D, h, g⟩ := h
  obtain ⟨g1, g2⟩ := g k hk l hl
  obtain ⟨v, ps, hrun, hv⟩ := h.look_ok M.law M.ty (M.zero w) (zd := .held (vv zb)) rfl hl
  unfold obEl at hv
  have hv2 : DataW.held v = D.atKey l (.held (vv zb)) := congrArg Prod.fst (Option.some.inj hv)
  rw [hrun, g1]
  cases hf : f k with
  | none =>
    rw [hf] at g1
    rw [Maps.atKey_of_not_has g1] at hv2
    injection hv2 with hv2
    rw [hv2]; rfl
  | some o =>
    rw [g2 o hf] at hv2
    injection hv2 with hv2
    rw [hv2]; rfl
theorem lit_ne (M : MapTy P T K E kv vv good zb) {k k' : κ} {l l' : Lit} (h : k' ≠ k) (hl : keyOf P K (kv k) = some l) (hl' : keyOf P K (kv k') = some l') : l' ≠ l := fun e => h (M.inj _ _ (M.law.inj (by rw [e] at hl'; exact hl') hl))
variable [DecidableEq κ]
theorem OMg.store (h : OMg P K kv vv good w b n f) (M : MapTy P T K E kv vv good zb) {k : κ} (hk : good k) (o : β) (hn : n < 1000000) :
    ∃ w', (Instr.mapUpdate T (.map (some b)) (kv k) (vv o)).run P w = .ok () w' ∧ OMg P K kv vv good w' b (n + 1) (updK f k (some o)) ∧ w.mapTurned w' b := by
  obtain ⟨l, hl⟩ := M.key k hk
  obtain ⟨D, h, g⟩ := h
  have im := h.isMap
  obtain ⟨w', h1, h2, h3⟩ := h.store M.law M.ty (by unfold maxLen; omega) hl (val := vv o) (d := .held (vv o)) (ps := []) rfl
  refine ⟨w', h1, ⟨_, h2, fun k' hk' l' hl' => ?_⟩, h3⟩
  by_cases e : k' = k
  · subst e
    have el : l' = l := Option.some.inj (hl'.symm.trans hl)
    subst el
    rw [updK_same]
    refine ⟨Maps.has_put_same im (M.law.key hl) _, fun o' ho' z => ?_⟩
    rw [← Option.some.inj ho']
    exact Maps.atKey_put_same im (M.law.key hl) _ z
  · obtain ⟨g1, g2⟩ := g k' hk' l' hl'
    rw [updK_other e, Maps.has_put_other (lit_ne M e hl hl')]
    exact ⟨g1, fun o' ho' z => by rw [Maps.atKey_put_other (lit_ne M e hl hl')]; exact g2 o' ho' z⟩
theorem OMg.drop (h : OMg P K kv vv good w b n f) (M : MapTy P T K E kv vv good zb) {k : κ} (hk : good k) (ty : TypeId) :
    ∃ w', (Builtin.delete_ #[T, K] ty #[.map (some b), kv k]).run P w = .ok (.tuple #[]) w' ∧ OMg P K kv vv good w' b n (updK f k none) ∧ w.mapTurned w' b := by
  obtain ⟨l, hl⟩ := M.key k hk
  obtain ⟨D, h, g⟩ := h
  obtain ⟨w', h1, h2, h3⟩ := h.drop M.law M.ty hl ty
  refine ⟨w', h1, ⟨_, h2, fun k' hk' l' hl' => ?_⟩, h3⟩
  by_cases e : k' = k
  · subst e
    have el : l' = l := Option.some.inj (hl'.symm.trans hl)
    subst el
    rw [updK_same]
    exact ⟨Maps.has_del_same, fun o' ho' => by cases ho'⟩
  · obtain ⟨g1, g2⟩ := g k' hk' l' hl'
    rw [updK_other e, Maps.has_del_other (lit_ne M e hl hl')]
    exact ⟨g1, fun o' ho' z => by rw [Maps.atKey_del_other (lit_ne M e hl hl')]; exact g2 o' ho' z⟩
end
theorem turned_below {w w' : World} {b B : Nat} (h : w.mapTurned w' b) (hb : B ≤ b) (hs : B ≤ w.heap.size) : Below B w w' := (Below.refl B w).grown h.grown hs (fun k e => by cases e; exact hb)
section
variable {P : Program} {T K E : TypeId} {κ β : Type} {kv : κ → Value} {vv : β → Value} {good : κ → Prop} {zb : β} {b n : Nat} {f : κ → Option β} (w : World) {ops : Array Oper} {rest : List Oper} {o : Oper} {a : Act} {Q : Exit → Act → World → Prop}
theorem wp_mlook (hg : o.guard = none) (m x : Operand) (hop : o.op = Op.lookup T m x true) (M : MapTy P T K E kv vv good zb) (hm : a.eval m = .map (some b)) (hown : OMg P K kv vv good w b n f) (k : κ) (hx : a.eval x = kv k) (hk : good k) (r : Option β) (hr : f k = r)
    (hK : wpList P ops Q rest (a.put o.dst (.tuple #[vv (r.getD zb), .bool r.isSome])) w) : wpList P ops Q (o :: rest) a w := by
  refine wpList_plain hg fun K' hK' => ?_
  have hrun := hown.look M hk
  rw [hr] at hrun
  unfold Oper.wp
  simp [execOp, hop, hm, hx, hrun, Result.andThen]
  exact hK' _ _ hK
theorem wp_mlook_no (hg : o.guard = none) (m x : Operand) (hop : o.op = Op.lookup T m x true) (M : MapTy P T K E kv vv good zb) (hm : a.eval m = .map (some b)) (hown : OMg P K kv vv good w b n f) (k : κ) (hx : a.eval x = kv k) (hk : good k) (hr : f k = none)
    (hK : wpList P ops Q rest (a.put o.dst (.tuple #[vv zb, .bool false])) w) : wpList P ops Q (o :: rest) a w := wp_mlook w hg m x hop M hm hown k hx hk none hr hK
theorem wp_mlook_yes (hg : o.guard = none) (m x : Operand) (hop : o.op = Op.lookup T m x true) (M : MapTy P T K E kv vv good zb) (hm : a.eval m = .map (some b)) (hown : OMg P K kv vv good w b n f) (k : κ) (hx : a.eval x = kv k) (hk : good k) (r : β) (hr : f k = some r)
    (hK : wpList P ops Q rest (a.put o.dst (.tuple #[vv r, .bool true])) w) : wpList P ops Q (o :: rest) a w := wp_mlook w hg m x hop M hm hown k hx hk (some r) hr hK
variable [DecidableEq κ]
theorem wp_mstore (hg : o.guard = none) (m x v : Operand) (hop : o.op = Op.mapUpdate T m x v) (M : MapTy P T K E kv vv good zb) (hm : a.eval m = .map (some b)) (hown : OMg P K kv vv good w b n f) (k : κ) (hx : a.eval x = kv k) (hk : good k) (r : β) (hv : a.eval v = vv r) (hn : n < 1000000)
    (hK : ∀ w', OMg P K kv vv good w' b (n + 1) (updK f k (some r)) → w.mapTurned w' b → wpList P ops Q rest (a.put o.dst undef) w') : wpList P ops Q (o :: rest) a w := by
  refine wpList_plain hg fun K' hK' => ?_
  obtain ⟨w', hrun, r1, r2⟩ := hown.store M hk r hn
  unfold Oper.wp
  simp [execOp, hop, hm, hx, hv, hrun, Result.andThen]
  exact hK' _ _ (hK w' r1 r2)
theorem wp_mdrop (hg : o.guard = none) (m x : Operand) (hop : o.op = Op.call { callee := Callee.builtin Builtin.delete, args := #[m, x], argTypes := #[T, K] }) (M : MapTy P T K E kv vv good zb) (hm : a.eval m = .map (some b)) (hown : OMg P K kv vv good w b n f) (k : κ) (hx : a.eval x = kv k) (hk : good k)
    (hK : ∀ w', OMg P K kv vv good w' b n (updK f k none) → w.mapTurned w' b → wpList P ops Q rest (a.put o.dst (.tuple #[])) w') : wpList P ops Q (o :: rest) a w := by
  refine wpList_plain hg fun K' hK' => ?_
  obtain ⟨w', hrun, r1, r2⟩ := hown.drop M hk o.type
  unfold Oper.wp
  simp [execOp, hop, resolve, invoke, builtin, hm, hx, hrun, Result.andThen]
  exact hK' _ _ (hK w' r1 r2)
end
end Vw
end Go.Proofs.YtaghilgfldaaiaaGreatDoor
/-
  Plain law of a header: the columns' places; no walk here.
-/
namespace Go.Proofs.YtaghilgfldaaiaaGreatDoor
namespace Vp
open Go.RowKit Lw Go.Proofs.YtaghilgfldaaiaaGreatDoor.Op Go.Proofs.YtaghilgfldaaiaaGreatDoor.Vw

/-- The first k columns' places. -/
def colTo (k : Nat) : ByteArray → Option Nat := fun s => (colIx s).bind fun j => if j < k then some j else none
theorem colTo_zero : colTo 0 = fun _ => none := by
  funext s
  unfold colTo
  cases colIx s <;> simp
theorem col_ix (k : Nat) (h : k < colB.length) : colIx (colB[k]'h) = some k := by
  have a : ∀ i : Fin 8, colIx (colB[i.1]'i.2) = some i.1 := by decide
  exact a ⟨k, h⟩
theorem col_lt {s : ByteArray} {j : Nat} (h : colIx s = some j) : ∃ h : j < colB.length, colB[j]'h = s := by
  unfold colIx at h
  obtain ⟨h1, h2, _⟩ := List.findIdx?_eq_some_iff_getElem.1 h
  exact ⟨h1, of_decide_eq_true h2⟩
theorem colTo_next (k : Nat) (h : k < colB.length) : updK (colTo k) (colB[k]'h) (some k) = colTo (k + 1) := by
  funext s
  unfold updK colTo
  by_cases e : s = colB[k]'h
  · rw [if_pos e, e, col_ix k h]
    show some k = if k < k + 1 then some k else none
    rw [if_pos (by omega)]
  · rw [if_neg e]
    cases hc : colIx s with
    | none => rfl
    | some j =>
      obtain ⟨hj, ej⟩ := col_lt hc
      have : j ≠ k := fun x => e (by subst x; exact ej.symm)
      show (if j < k then some j else none) = if j < k + 1 then some j else none
      by_cases g : j < k
      · rw [if_pos g, if_pos (by omega)]
      · rw [if_neg g, if_neg (by omega)]
/-- Places that are left. -/
def colLeft (ord : List Nat) : ByteArray → Option Nat := fun s => (colIx s).bind fun j => if j ∈ ord then none else some j
theorem colLeft_nil : colTo 8 = colLeft [] := by
  funext s
  unfold colTo colLeft
  cases hc : colIx s with
  | none => rfl
  | some j =>
    obtain ⟨hj, _⟩ := col_lt hc
    show (if j < 8 then some j else none) = if j ∈ [] then none else some j
    rw [if_pos (show j < 8 from hj), if_neg (by simp)]
theorem colLeft_next {ord : List Nat} {s : ByteArray} {j : Nat} (h : colLeft ord s = some j) : updK (colLeft ord) s none = colLeft (ord ++ [j]) := by
  have hj : colIx s = some j := by
    unfold colLeft at h
    cases hc : colIx s with
    | none => rw [hc] at h; cases h
    | some i =>
      rw [hc] at h
      have h : (if i ∈ ord then none else some i) = some j := h
      split at h
      · cases h
      · rw [h]
  funext t
  unfold updK
  by_cases e : t = s
  · rw [if_pos e, e]
    unfold colLeft
    rw [hj]
    show none = if j ∈ ord ++ [j] then none else some j
    rw [if_pos (by simp)]
  · rw [if_neg e]
    unfold colLeft
    cases hc : colIx t with
    | none => rfl
    | some i =>
      have ne : i ≠ j := fun x => by
        subst x
        obtain ⟨_, e1⟩ := col_lt hc
        obtain ⟨_, e2⟩ := col_lt hj
        exact e (e1.symm.trans e2)
      show (if i ∈ ord then none else some i) = if i ∈ ord ++ [j] then none else some i
      by_cases g : i ∈ ord
      · rw [if_pos g, if_pos (by simp [g])]
      · rw [if_neg g, if_neg (by simp [g, ne])]
theorem headStep_some {ord : List Nat} {x : List UInt8} {j : Nat} (h : colLeft ord (trimS (stL x)) = some j) : headStep (some ord) x = some (ord ++ [j]) ∧ j ∉ ord ∧ j < 8 := by
  unfold colLeft at h
  show (((colIx (trimS (stL x))).bind fun k => if k ∈ ord then none else some (ord ++ [k])) = _) ∧ _
  cases hc : colIx (trimS (stL x)) with
  | none => rw [hc] at h; cases h
  | some i =>
    rw [hc] at h
    have h : (if i ∈ ord then none else some i) = some j := h
    split at h
    · cases h
    · rename_i g
      have e : i = j := Option.some.inj h
      subst e
      obtain ⟨hj, _⟩ := col_lt hc
      refine ⟨?_, g, hj⟩
      show (if i ∈ ord then none else some (ord ++ [i])) = _
      rw [if_neg g]
theorem headStep_none {ord : List Nat} {x : List UInt8} (h : colLeft ord (trimS (stL x)) = none) : headStep (some ord) x = none := by
  unfold colLeft at h
  show ((colIx (trimS (stL x))).bind fun k => if k ∈ ord then none else some (ord ++ [k])) = _
  cases hc : colIx (trimS (stL x)) with
  | none => rfl
  | some i =>
    rw [hc] at h
    have h : (if i ∈ ord then none else some i) = none := h
    split at h
    · rename_i g
      show (if i ∈ ord then none else some (ord ++ [i])) = _
      rw [if_pos g]
    · cases h
theorem headFold_none (l : List (List UInt8)) : l.foldl headStep none = none := by
  induction l with
  | nil => rfl
  | cons a l ih => exact ih
/-- How many of the first five there are. -/
def cntM (ord : List Nat) : Nat := (if 0 ∈ ord then 1 else 0) + (if 1 ∈ ord then 1 else 0) + (if 2 ∈ ord then 1 else 0) + (if 3 ∈ ord then 1 else 0) + (if 4 ∈ ord then 1 else 0)
theorem cntM_le (ord : List Nat) : cntM ord ≤ 5 := by
  unfold cntM
  (repeat' split) <;> omega
theorem cntM_all (ord : List Nat) : cntM ord = 5 ↔ mustP ord := by
  unfold cntM mustP
  by_cases h0 : 0 ∈ ord <;> by_cases h1 : 1 ∈ ord <;> by_cases h2 : 2 ∈ ord <;> by_cases h3 : 3 ∈ ord <;> by_cases h4 : 4 ∈ ord <;> simp [h0, h1, h2, h3, h4]
theorem cntM_next {ord : List Nat} {j : Nat} (h : j ∉ ord) : cntM (ord ++ [j]) = cntM ord + (if j < 5 then 1 else 0) := by
  by_cases g : j < 5
  · rw [if_pos g]
    obtain rfl | rfl | rfl | rfl | rfl : j = 0 ∨ j = 1 ∨ j = 2 ∨ j = 3 ∨ j = 4 := by omega
    all_goals
      unfold cntM
      simp [h]
      try omega
  · rw [if_neg g]
    unfold cntM
    have e : ∀ i, i < 5 → (i ∈ ord ++ [j] ↔ i ∈ ord) := fun i hi => by
      rw [List.mem_append, List.mem_singleton]
      exact ⟨fun x => x.resolve_right (by omega), Or.inl⟩
    simp only [e 0 (by omega), e 1 (by omega), e 2 (by omega), e 3 (by omega), e 4 (by omega), Nat.add_zero]
theorem headR_some {s : List UInt8} {ord : List Nat} (h : (pieces 124 s).foldl headStep (some []) = some ord) : headR s = if mustP ord then some ord else none := by
  unfold headR
  rw [h]
  rfl
theorem headR_none {s : List UInt8} (h : (pieces 124 s).foldl headStep (some []) = none) : headR s = none := by
  unfold headR
  rw [h]
  rfl
theorem head_stop {l : List (List UInt8)} {k : Nat} (hk : k < l.length) {ord : List Nat} (h : (l.take k).foldl headStep (some []) = some ord) (n : headStep (some ord) (l[k]'hk) = none) : l.foldl headStep (some []) = none := by
  have e : l = l.take k ++ (l[k]'hk :: l.drop (k + 1)) := by rw [← List.drop_eq_getElem_cons hk, List.take_append_drop]
  rw [e, List.foldl_append, h, List.foldl_cons, n, headFold_none]
theorem head_next {l : List (List UInt8)} {k : Nat} (hk : k < l.length) {ord ord' : List Nat} (h : (l.take k).foldl headStep (some []) = some ord) (n : headStep (some ord) (l[k]'hk) = some ord') : (l.take (k + 1)).foldl headStep (some []) = some ord' := by
  rw [List.take_succ_eq_append_getElem hk, List.foldl_append, h]
  exact n
end Vp
end Go.Proofs.YtaghilgfldaaiaaGreatDoor
/-
  Plain law of observations: comparing them is a total order, and what Sort returns; no walk here.
-/
namespace Go.Proofs.YtaghilgfldaaiaaGreatDoor
namespace Op
open Go.RowKit Lw Go.Proofs.YtaghilgfldaaiaaGreatDoor.Ap Go.Proofs.YtaghilgfldaaiaaGreatDoor.Mp Go.Proofs.YtaghilgfldaaiaaGreatDoor.At Go.Proofs.YtaghilgfldaaiaaGreatDoor.Ow Go.Proofs.YtaghilgfldaaiaaGreatDoor.Mw

def cI (x y : Int) : Int := if x < y then -1 else if y < x then 1 else 0
def cS (x y : ByteArray) : Int := if x.data.toList < y.data.toList then -1 else if y.data.toList < x.data.toList then 1 else 0
/-- The first number that is not 0. -/
def orL : List Int → Int
  | [] => 0
  | x :: r => if x ≠ 0 then x else orL r
def cmpL (a b : Ob) : List Int := [cI a.t b.t, cS a.site b.site, cS a.name b.name, cI a.ra b.ra, cI a.dec b.dec, cI a.sg b.sg, cI a.mag b.mag, cI a.band b.band]
def cmpO (a b : Ob) : Int := orL (cmpL a b)
structure Cmp {α : Type} (c : α → α → Int) : Prop where
  anti : ∀ x y, c y x = - c x y
  trans : ∀ x y z, c x y ≤ 0 → c y z ≤ 0 → c x z ≤ 0
theorem Cmp.lt_le {α : Type} {c : α → α → Int} (h : Cmp c) {x y z : α} (a : c x y < 0) (b : c y z ≤ 0) : c x z < 0 := by
  rcases Int.lt_or_le (c x z) 0 with g | g
  · exact g
  · have e := h.anti x z
    have := h.trans y z x b (by omega)
    have e2 := h.anti x y
    omega
theorem Cmp.le_lt {α : Type} {c : α → α → Int} (h : Cmp c) {x y z : α} (a : c x y ≤ 0) (b : c y z < 0) : c x z < 0 := by
  rcases Int.lt_or_le (c x z) 0 with g | g
  · exact g
  · have e := h.anti x z
    have := h.trans z x y (by omega) a
    have e2 := h.anti y z
    omega
theorem Cmp.lex {α : Type} {c d : α → α → Int} (hc : Cmp c) (hd : Cmp d) : Cmp (fun x y => if c x y ≠ 0 then c x y else d x y) := by
  constructor
  · intro x y
    have e := hc.anti x y
    have f := hd.anti x y
    by_cases h : c x y = 0
    · rw [if_neg (by omega), if_neg (by omega)]; exact f
    · rw [if_pos (by omega), if_pos (by omega)]; exact e
  · intro x y z h1 h2
    by_cases a : c x y = 0
    · rw [if_neg (by omega)] at h1
      by_cases b : c y z = 0
      · rw [if_neg (by omega)] at h2
        have t1 := hc.trans x y z (by omega) (by omega)
        have e1 := hc.anti x y
        have e2 := hc.anti y z
        have e3 := hc.anti x z
        have t2 := hc.trans z y x (by omega) (by omega)
        rw [if_neg (by omega)]
        exact hd.trans x y z h1 h2
      · rw [if_pos b] at h2
        have := hc.le_lt (x := x) (y := y) (z := z) (by omega) (by omega)
        rw [if_pos (by omega)]; omega
    · rw [if_pos a] at h1
      have : c y z ≤ 0 := by
        by_cases b : c y z = 0
        · omega
        · rw [if_pos b] at h2; exact h2
      have := hc.lt_le (x := x) (y := y) (z := z) (by omega) this
      rw [if_pos (by omega)]; omega
theorem Cmp.on {α β : Type} {c : α → α → Int} (hc : Cmp c) (f : β → α) : Cmp (fun x y => c (f x) (f y)) := ⟨fun _ _ => hc.anti _ _, fun _ _ _ => hc.trans _ _ _⟩
theorem Cmp.none {α : Type} : Cmp (fun _ _ : α => (0 : Int)) := ⟨fun _ _ => rfl, fun _ _ _ _ _ => Int.le_refl _⟩
theorem cmp_I : Cmp cI := ⟨fun x y => by unfold cI; split <;> split <;> (first | omega | (split <;> omega)), fun x y z h1 h2 => by unfold cI at *; split at h1 <;> split at h2 <;> (repeat' split at h1) <;> (repeat' split at h2) <;> (repeat' split) <;> omega⟩
theorem cS_le {x y : ByteArray} : cS x y ≤ 0 ↔ ¬ y.data.toList < x.data.toList := by
  unfold cS
  by_cases h : x.data.toList < y.data.toList
  · rw [if_pos h]
    exact ⟨fun _ g => List.lt_irrefl _ (List.lt_trans h g), fun _ => by decide⟩
  · rw [if_neg h]
    by_cases g : y.data.toList < x.data.toList
    · rw [if_pos g]; exact ⟨fun k => absurd k (by decide), fun k => absurd g k⟩
    · rw [if_neg g]; exact ⟨fun _ => g, fun _ => Int.le_refl _⟩
theorem cmp_S : Cmp cS := by
  constructor
  · intro x y
    unfold cS
    by_cases h : x.data.toList < y.data.toList
    · rw [if_pos h, if_neg (fun g => List.lt_irrefl _ (List.lt_trans h g)), if_pos h]; rfl
    · rw [if_neg h]
      by_cases g : y.data.toList < x.data.toList
      · rw [if_pos g, if_pos g, if_neg h]
      · rw [if_neg g, if_neg g, if_neg h]; rfl
  · intro x y z h1 h2
    rw [cS_le] at *
    rw [List.not_lt] at *
    exact List.le_trans h1 h2
theorem cI_zero {x y : Int} (h : cI x y = 0) : x = y := by
  unfold cI at h
  split at h
  · cases h
  · split at h
    · cases h
    · omega
theorem cS_zero {x y : ByteArray} (h : cS x y = 0) : x = y := by
  have a := cS_le (x := x) (y := y)
  have b := cS_le (x := y) (y := x)
  have e := cmp_S.anti x y
  apply toL_inj
  exact List.le_antisymm (List.not_lt.1 (a.1 (by omega))) (List.not_lt.1 (b.1 (by omega)))
theorem cmpO_eq : cmpO = fun a b : Ob => if cI a.t b.t ≠ 0 then cI a.t b.t else if cS a.site b.site ≠ 0 then cS a.site b.site else if cS a.name b.name ≠ 0 then cS a.name b.name else if cI a.ra b.ra ≠ 0 then cI a.ra b.ra else if cI a.dec b.dec ≠ 0 then cI a.dec b.dec else if cI a.sg b.sg ≠ 0 then cI a.sg b.sg else if cI a.mag b.mag ≠ 0 then cI a.mag b.mag else if cI a.band b.band ≠ 0 then cI a.band b.band else 0 := rfl
theorem cmp_O : Cmp cmpO := by
  rw [cmpO_eq]
  exact (cmp_I.on Ob.t).lex ((cmp_S.on Ob.site).lex ((cmp_S.on Ob.name).lex ((cmp_I.on Ob.ra).lex ((cmp_I.on Ob.dec).lex ((cmp_I.on Ob.sg).lex ((cmp_I.on Ob.mag).lex ((cmp_I.on Ob.band).lex Cmp.none)))))))
theorem orL_eq0 {l : List Int} (h : orL l = 0) : ∀ x ∈ l, x = 0 := by
  induction l with
  | nil => intro x hx; cases hx
  | cons y r ih =>
    unfold orL at h
    by_cases g : y = 0
    · rw [if_neg (by omega)] at h
      intro x hx
      rcases List.mem_cons.1 hx with rfl | hx
      · exact g
      · exact ih h x hx
    · rw [if_pos g] at h; exact absurd h g
theorem cmpO_zero {a b : Ob} (h : cmpO a b = 0) : a = b := by
  have k := orL_eq0 (l := cmpL a b) h
  unfold cmpL at k
  have e1 := cI_zero (k (cI a.t b.t) (by simp))
  have e2 := cS_zero (k (cS a.site b.site) (by simp))
  have e3 := cS_zero (k (cS a.name b.name) (by simp))
  have e4 := cI_zero (k (cI a.ra b.ra) (by simp))
  have e5 := cI_zero (k (cI a.dec b.dec) (by simp))
  have e6 := cI_zero (k (cI a.sg b.sg) (by simp))
  have e7 := cI_zero (k (cI a.mag b.mag) (by simp))
  have e8 := cI_zero (k (cI a.band b.band) (by simp))
  cases a; cases b
  simp only at e1 e2 e3 e4 e5 e6 e7 e8
  rw [e1, e2, e3, e4, e5, e6, e7, e8]
def ordL (x : List Ob) : Prop := x.Pairwise fun a b => cmpO a b ≤ 0
/-- What Sort returns. -/
def SortIs (l x : List Ob) (c : Int) : Prop := (allC l = 0 ∧ x.Perm l ∧ ordL x ∧ c = 0) ∨ (allC l ≠ 0 ∧ x = [] ∧ c = allC l)
theorem ordL_uniq {x y : List Ob} (hp : x.Perm y) (hx : ordL x) (hy : ordL y) : x = y :=
  List.Perm.eq_of_pairwise (le := fun a b => cmpO a b ≤ 0) (fun a b _ _ h1 h2 => cmpO_zero (by have := cmp_O.anti a b; omega)) hx hy hp
theorem SortIs.uniq {l x y : List Ob} {c d : Int} (a : SortIs l x c) (b : SortIs l y d) : x = y ∧ c = d := by
  rcases a with ⟨a1, a2, a3, a4⟩ | ⟨a1, a2, a3⟩ <;> rcases b with ⟨b1, b2, b3, b4⟩ | ⟨b1, b2, b3⟩
  · exact ⟨ordL_uniq (a2.trans b2.symm) a3 b3, by omega⟩
  · exact absurd a1 b1
  · exact absurd b1 a1
  · exact ⟨by rw [a2, b2], by omega⟩
end Op
end Go.Proofs.YtaghilgfldaaiaaGreatDoor
/-
  Plain law of merging: which observations are kept; no walk here.
-/
namespace Go.Proofs.YtaghilgfldaaiaaGreatDoor
namespace Vp
open Go.RowKit Lw Go.Proofs.YtaghilgfldaaiaaGreatDoor.Ap Go.Proofs.YtaghilgfldaaiaaGreatDoor.Op Go.Proofs.YtaghilgfldaaiaaGreatDoor.Mp Go.Proofs.YtaghilgfldaaiaaGreatDoor.Mw

/-- What tells duplicates. -/
structure Ky where
  name : ByteArray
  site : ByteArray
  t : Int
deriving DecidableEq
def kyOf (o : Ob) : Ky := ⟨o.name, o.site, o.t⟩
def betP (a b : Ob) : Prop := a.sg < b.sg ∨ (a.sg = b.sg ∧ cmpO a b < 0)
instance (a b : Ob) : Decidable (betP a b) := by unfold betP; infer_instance
instance (a b : Ob) : Decidable (kyOf a = kyOf b) := inferInstance
/-- The k-th of a list beats the i-th. -/
def beats (l : List Ob) (i k : Nat) : Prop := ∃ (hi : i < l.length) (hk : k < l.length), k ≠ i ∧ kyOf l[i] = kyOf l[k] ∧ (betP l[k] l[i] ∨ (k < i ∧ ¬ betP l[i] l[k]))
instance (l : List Ob) (i k : Nat) : Decidable (beats l i k) := by unfold beats; infer_instance
/-- None of the first n beats the i-th. -/
def bestN (l : List Ob) (i n : Nat) : Prop := ∀ k, k < n → ¬ beats l i k
instance (l : List Ob) (i n : Nat) : Decidable (bestN l i n) := by unfold bestN; infer_instance
abbrev bestP (l : List Ob) (i : Nat) : Prop := bestN l i l.length
/-- What is kept of the first n, and what is dropped. -/
def keptTo (l : List Ob) (n : Nat) : List Ob := ((List.range n).filter fun i => decide (bestP l i)).filterMap fun i => l[i]?
def dropTo (l : List Ob) (n : Nat) : List Nat := (List.range n).filter fun i => decide (¬ bestP l i)
/-- What Merge returns. -/
def MergeIs (l kept : List Ob) (dropped : List Nat) (c : Int) : Prop := (allC l = 0 ∧ kept.Perm (keptTo l l.length) ∧ ordL kept ∧ dropped = dropTo l l.length ∧ c = 0) ∨ (allC l ≠ 0 ∧ kept = [] ∧ dropped = [] ∧ c = allC l)
theorem MergeIs.uniq {l x y : List Ob} {p q : List Nat} {c d : Int} (a : MergeIs l x p c) (b : MergeIs l y q d) : x = y ∧ p = q ∧ c = d := by
  rcases a with ⟨a1, a2, a3, a4, a5⟩ | ⟨a1, a2, a3, a4⟩ <;> rcases b with ⟨b1, b2, b3, b4, b5⟩ | ⟨b1, b2, b3, b4⟩
  · exact ⟨ordL_uniq (a2.trans b2.symm) a3 b3, by rw [a4, b4], by omega⟩
  · exact absurd a1 b1
  · exact absurd b1 a1
  · exact ⟨by rw [a2, b2], by rw [a3, b3], by omega⟩

/-! ### The program's way: the best of each key, out of the sorted list -/
/-- The best of those that have a key. -/
def BstOf (x : List Ob) (k : Ky) (r : Option Ob) : Prop := match r with
  | none => ∀ o ∈ x, kyOf o ≠ k
  | some m => m ∈ x ∧ kyOf m = k ∧ ∀ o ∈ x, kyOf o = k → ¬ betP o m
theorem BstOf.nil (k : Ky) : BstOf [] k none := fun o h => by cases h
end Vp
end Go.Proofs.YtaghilgfldaaiaaGreatDoor
/-
  The map of observations by name, site and time.
-/
namespace Go.Proofs.YtaghilgfldaaiaaGreatDoor
namespace Vw
open Go.RowKit Lw Go.Proofs.YtaghilgfldaaiaaGreatDoor.Ap Go.Proofs.YtaghilgfldaaiaaGreatDoor.Vp Go.Proofs.YtaghilgfldaaiaaGreatDoor.Op Go.Proofs.YtaghilgfldaaiaaGreatDoor.Ow Go.Maps Go.WideShapes

def kyV (k : Ky) : Value := .agg #[.string k.name, .string k.site, .int .i64 k.t]
def goodK (k : Ky) : Prop := k.name.size ≤ 1000 ∧ k.site.size ≤ 1000 ∧ -9223372036854775808 ≤ k.t ∧ k.t ≤ 9223372036854775807
abbrev OM (w : World) (b n : Nat) (f : Ky → Option Ob) : Prop := OMg Tryz.prog 65 kyV obsV goodK w b n f
end Vw
end Go.Proofs.YtaghilgfldaaiaaGreatDoor
/-
  Two slices that the call owns, one of observations and one of numbers, and a map beside them: append to either.
-/
namespace Go.Proofs.YtaghilgfldaaiaaGreatDoor
namespace Vw
open Go.RowKit Lw Go.Proofs.YtaghilgfldaaiaaGreatDoor.Ap Go.Proofs.YtaghilgfldaaiaaGreatDoor.Vp Go.Proofs.YtaghilgfldaaiaaGreatDoor.Op Go.Proofs.YtaghilgfldaaiaaGreatDoor.Ow

theorem infoI : (Tryz.prog.info? 3).map (fun i => (i.zero, i.size, i.bytes)) = some (some (.int .i64 0), 1, 8) := by kernel_rfl
def intL (l : List Nat) : List Value := l.map fun (n : Nat) => Value.int .i64 (n : Int)
theorem intL_snoc (l : List Nat) (n : Nat) : intL (l ++ [n]) = intL l ++ [.int .i64 (n : Int)] := by simp [intL]
theorem intL_len (l : List Nat) : (intL l).length = l.length := by simp [intL]
/-- Two slices that lie apart. -/
structure W2 (B : Nat) (vk : Value) (K : List Ob) (vd : Value) (D : List Nat) (w : World) : Prop where
  kp : OwnO w B vk K
  dp : Own1 3 w B vd (intL D)
  ap : ∀ g, vk.ownBlock = some g → vd.ownBlock ≠ some g
theorem W2.nil (B : Nat) (w : World) (h : B ≤ w.heap.size) : W2 B (.slice none 0 0) [] (.slice none 0 0) [] w := ⟨OwnO.nil w B h, Own1.nil _ w B h, fun g e => by cases e⟩
theorem W2.below {B : Nat} {vk vd : Value} {K : List Ob} {D : List Nat} {w w' : World} (h : W2 B vk K vd D w) (hb : Below w.heap.size w w') : W2 B vk K vd D w' := ⟨h.kp.below hb, h.dp.below hb, h.ap⟩
theorem W2.kept {B : Nat} {vk vd : Value} {K : List Ob} {D : List Nat} {w w' : World} {row : Option Nat} (h : W2 B vk K vd D w) (hg : w.grownBy w' row) (h1 : vk.ownBlock = none ∨ vk.ownBlock ≠ row) (h2 : vd.ownBlock = none ∨ vd.ownBlock ≠ row) : W2 B vk K vd D w' :=
  ⟨⟨h.kp.1.kept hg h1, Nat.le_trans h.kp.2 hg.size⟩, ⟨h.dp.1.kept hg h2, Nat.le_trans h.dp.2 hg.size⟩, h.ap⟩
theorem W2.ap2 {B : Nat} {vk vd : Value} {K : List Ob} {D : List Nat} {w : World} (h : W2 B vk K vd D w) : (vd.ownBlock = none ∨ vd.ownBlock ≠ vk.ownBlock) ∧ (vk.ownBlock = none ∨ vk.ownBlock ≠ vd.ownBlock) := by
  cases hd : vd.ownBlock with
  | none => exact ⟨Or.inl rfl, by cases hk : vk.ownBlock <;> simp⟩
  | some g =>
    have n : vk.ownBlock ≠ some g := fun e => h.ap g e hd
    exact ⟨Or.inr (Ne.symm n), Or.inr n⟩
/-- append to the second. -/
theorem wp_drop {ops : Array Oper} {rest : List Oper} {o : Oper} {a : Act} {Q : Exit → Act → World → Prop} (w : World) (hgd : o.guard = none) (s x : Operand)
    (ho : o.op = .call { callee := .builtin .append, args := #[s, x], argTypes := #[24, 24] })
    (B : Nat) (vk vd : Value) (K : List Ob) (D : List Nat) (n : Nat) (hs : a.eval s = vd) (hx : a.eval x = .slice (some ⟨w.heap.size, 0, none⟩) 1 1) (h2 : W2 B vk K vd D w) (hl : D.length ≤ 1000000)
    (h : ∀ v' w', W2 B vk K v' (D ++ [n]) w' → (w.alloc (.cells #[.int .i64 (n : Int)] 3)).grownBy w' vd.ownBlock → (v'.ownBlock = vd.ownBlock ∨ v'.ownBlock = some (w.heap.size + 1)) → Below B w w' → wpList Tryz.prog ops Q rest (a.put o.dst v') w') :
    wpList Tryz.prog ops Q (o :: rest) a (w.alloc (.cells #[.int .i64 (n : Int)] 3)) := by
  obtain ⟨i0, hi, hz0, hz1, hz2⟩ := info_parts infoI
  have ho' := h2.dp.1.alloc (.cells #[.int .i64 (n : Int)] 3)
  have b1 : Below B w (w.alloc (.cells #[.int .i64 (n : Int)] 3)) := (Below.refl _ _).alloc h2.dp.2 _
  have sz : (w.alloc (.cells #[.int .i64 (n : Int)] 3)).heap.size = w.heap.size + 1 := by simp
  have hll : (intL D).length ≤ 1000000 := by rw [intL_len]; exact hl
  refine wpList_append_own_at _ hgd s x 24 ho B 3 i0 _ 1 8 Tryz.underlying24 hi hz0 hz1 hz2 rfl (by decide) vd (intL D).length (intL D) hs ho' ⟨w.heap.size, 0, none⟩ 1 1 [.int .i64 (n : Int)] hx rfl (cell_one_new _ _ _) (by simp [Value.oneCell']) (by unfold maxLen; omega) (by omega) (Nat.le_trans h2.dp.2 b1.size) ?_
  intro v' w' h1 hg _ hat
  rw [sz] at hat
  have e := intL_snoc D n
  have hb : Below B w w' := b1.trans ((Below.refl B _).grown hg (Nat.le_trans h2.dp.2 b1.size) (fun k hk => (h2.dp.1.lt k hk).1))
  refine h v' w' ⟨⟨((h2.kp.1.alloc _).kept hg h2.ap2.2), Nat.le_trans h2.kp.2 hb.size⟩, ⟨?_, Nat.le_trans h2.dp.2 hb.size⟩, fun g hv hd => ?_⟩ hg hat hb
  · rw [e, List.length_append]
    exact h1
  · rcases hat with hat | hat
    · exact h2.ap g hv (hat ▸ hd)
    · rw [hat] at hd
      have := (h2.kp.1.lt g hv).2
      injection hd with hd
      omega
/-- .. and a map beside them. -/
structure M3 (B mb n : Nat) (f : Ky → Option Ob) (vk : Value) (K : List Ob) (vd : Value) (D : List Nat) (w : World) : Prop where
  two : W2 B vk K vd D w
  mp : OM w mb n f
  nk : vk.ownBlock ≠ some mb
  nd : vd.ownBlock ≠ some mb
theorem M3.below {B mb n : Nat} {f : Ky → Option Ob} {vk vd : Value} {K : List Ob} {D : List Nat} {w w' : World} (h : M3 B mb n f vk K vd D w) (hb : Below w.heap.size w w') : M3 B mb n f vk K vd D w' := ⟨h.two.below hb, h.mp.below hb, h.nk, h.nd⟩
theorem M3.turned {B mb n n' : Nat} {f f' : Ky → Option Ob} {vk vd : Value} {K : List Ob} {D : List Nat} {w w' : World} (h : M3 B mb n f vk K vd D w) (ht : w.mapTurned w' mb) (hm : OM w' mb n' f') : M3 B mb n' f' vk K vd D w' :=
  ⟨h.two.kept ht.grown (Or.inr h.nk) (Or.inr h.nd), hm, h.nk, h.nd⟩
theorem M3.drop {B mb n : Nat} {f : Ky → Option Ob} {vk vd v' : Value} {K : List Ob} {D D' : List Nat} {w w' : World} {ob : Obj} (h : M3 B mb n f vk K vd D w) (h2 : W2 B vk K v' D' w') (hg : (w.alloc ob).grownBy w' vd.ownBlock) (hat : v'.ownBlock = vd.ownBlock ∨ v'.ownBlock = some (w.heap.size + 1)) : M3 B mb n f vk K v' D' w' := by
  have lt := h.mp.lt
  refine ⟨h2, (h.mp.below ((Below.refl _ _).alloc (Nat.le_refl _) ob)).kept hg (fun e => h.nd e.symm), h.nk, fun e => ?_⟩
  rcases hat with hat | hat
  · exact h.nd (hat ▸ e)
  · rw [hat] at e
    injection e with e
    omega
/-- A slice of numbers that is handed back. -/
def IntV (w : World) (v : Value) (D : List Nat) : Prop := ∃ x cap, v = .slice x D.length cap ∧ InA w x D
theorem IntV.nil (w : World) : IntV w (.slice none 0 0) [] := ⟨none, 0, rfl, Or.inl rfl⟩
theorem IntV.below {w w' : World} {v : Value} {D : List Nat} (h : IntV w v D) (hb : Below w.heap.size w w') : IntV w' v D := by
  obtain ⟨x, cap, e, h⟩ := h
  exact ⟨x, cap, e, h.below hb⟩
end Vw
end Go.Proofs.YtaghilgfldaaiaaGreatDoor
/-
  The library contract of strings.Split, laid at this program.
-/
namespace Go.Proofs
open Go.Shelf

def Tryz.laysV146_ren : Go.Shelf.Ren := ⟨fun | 146 => 49 | 221 => 94 | 268 => 143 | 138 => 144 | 143 => 145 | 195 => 188 | 197 => 147 | 218 => 189 | 219 => 190 | 260 => 191 | 217 => 209 | 225 => 210 | 224 => 211 | 267 => 212 | 266 => 223 | 314 => 224 | n => n, fun | 9 => 9 | 31 => 42 | 3 => 3 | 4 => 4 | 0 => 0 | 105 => 163 | 21 => 21 | 5 => 5 | 46 => 150 | 119 => 213 | 139 => 216 | 138 => 215 | 146 => 223 | 51 => 179 | n => n, fun | 1 => 1 | 3 => 2 | 4 => 3 | n => n⟩
theorem Tryz.laysV146 : Go.Proofs.Lays.n146 Tryz.prog Tryz.laysV146_ren := {
  mixed := by kernel_rfl
  f138 := Tryz.func144.trans (congrArg some (by kernel_rfl))
  f143 := Tryz.func145.trans (congrArg some (by kernel_rfl))
  f146 := Tryz.func49.trans (congrArg some (by kernel_rfl))
  f195 := Tryz.func188.trans (congrArg some (by kernel_rfl))
  f197 := Tryz.func147.trans (congrArg some (by kernel_rfl))
  f217 := Tryz.func209.trans (congrArg some (by kernel_rfl))
  f218 := Tryz.func189.trans (congrArg some (by kernel_rfl))
  f219 := Tryz.func190.trans (congrArg some (by kernel_rfl))
  f221 := Tryz.func94.trans (congrArg some (by kernel_rfl))
  f224 := Tryz.func211.trans (congrArg some (by kernel_rfl))
  f225 := Tryz.func210.trans (congrArg some (by kernel_rfl))
  f260 := Tryz.func191.trans (congrArg some (by kernel_rfl))
  f266 := Tryz.func223.trans (congrArg some (by kernel_rfl))
  f267 := Tryz.func212.trans (congrArg some (by kernel_rfl))
  f268 := Tryz.func143.trans (congrArg some (by kernel_rfl))
  f314 := Tryz.func224.trans (congrArg some (by kernel_rfl))
  t0 := Tryz.underlying0
  a0 := Tryz.isAgg0
  z0 := Tryz.sizeOf0
  v0 := Tryz.zeroValue0
  t3 := Tryz.underlying3
  a3 := Tryz.isAgg3
  z3 := Tryz.sizeOf3
  v3 := Tryz.zeroValue3
  t4 := Tryz.underlying4
  a4 := Tryz.isAgg4
  z4 := Tryz.sizeOf4
  v4 := Tryz.zeroValue4
  t5 := Tryz.underlying5
  a5 := Tryz.isAgg5
  z5 := Tryz.sizeOf5
  v5 := Tryz.zeroValue5
  t9 := Tryz.underlying9
  a9 := Tryz.isAgg9
  z9 := Tryz.sizeOf9
  v9 := Tryz.zeroValue9
  t21 := Tryz.underlying21
  a21 := Tryz.isAgg21
  z21 := Tryz.sizeOf21
  v21 := Tryz.zeroValue21
  t31 := Tryz.underlying42
  a31 := Tryz.isAgg42
  z31 := Tryz.sizeOf42
  v31 := Tryz.zeroValue42
  t46 := Tryz.underlying150
  a46 := Tryz.isAgg150
  z46 := Tryz.sizeOf150
  v46 := Tryz.zeroValue150
  t51 := Tryz.underlying179
  a51 := Tryz.isAgg179
  z51 := Tryz.sizeOf179
  v51 := Tryz.zeroValue179
  t105 := Tryz.underlying163
  a105 := Tryz.isAgg163
  z105 := Tryz.sizeOf163
  v105 := Tryz.zeroValue163
  t119 := Tryz.underlying213
  a119 := Tryz.isAgg213
  z119 := Tryz.sizeOf213
  t138 := Tryz.underlying215
  a138 := Tryz.isAgg215
  z138 := Tryz.sizeOf215
  v138 := Tryz.zeroValue215
  t139 := Tryz.underlying216
  a139 := Tryz.isAgg216
  z139 := Tryz.sizeOf216
  v139 := Tryz.zeroValue216
  t146 := Tryz.underlying223
  a146 := Tryz.isAgg223
  z146 := Tryz.sizeOf223
  v146 := Tryz.zeroValue223
  g1 := by kernel_rfl
  g3 := by kernel_rfl
  g4 := by kernel_rfl }
theorem Tryz.strings_Split (s sep : ByteArray) (m : Int) (w : World) (hs : s.size < 4294967281) (hm : w.cell? ⟨1, 0, none⟩ = some (.int .i64 m)) (h1 : 1 ≤ sep.size) :
    Calls Tryz.prog 49 #[.string s, .string sep] w fun e w' =>
      e = .returned (.slice (some ⟨w.heap.size, 0, none⟩) (Lib.countB s sep + 1) (Lib.countB s sep + 1)) ∧ w' = w.alloc (.cells ((Lib.splitB sep 0 (Lib.countB s sep) s).map Value.string).toArray 9) := Any.strings_Split Tryz.laysV146 (by kernel_rfl) s sep m w hs hm h1

end Go.Proofs
/-
  The walk of header of psv.
-/
namespace Go.Proofs.YtaghilgfldaaiaaGreatDoor
namespace Vw
open Go.RowKit Lw Go.Proofs.YtaghilgfldaaiaaGreatDoor.Ap Go.Proofs.YtaghilgfldaaiaaGreatDoor.Vp Go.Proofs.YtaghilgfldaaiaaGreatDoor.Op Go.Proofs.YtaghilgfldaaiaaGreatDoor.Ow Go.Proofs.YtaghilgfldaaiaaGreatDoor.Mp Go.Proofs.YtaghilgfldaaiaaGreatDoor.Mw Go.Proofs.YtaghilgfldaaiaaGreatDoor.At Go.Maps

def goodS (s : ByteArray) : Prop := s.size ≤ 1000000
theorem mapS : MapTy Tryz.prog 138 9 3 Value.string (fun (n : Nat) => Value.int .i64 (n : Int)) goodS 0 :=
  ⟨string_keyed Tryz.underlying9, Tryz.underlying138, fun w => by kernel_rfl, fun k k' h => by injection h, fun k h => ⟨_, Go.WideMaps.keyOf_string_mk Tryz.underlying9 (by unfold goodS at h; unfold maxLen; omega)⟩⟩
abbrev SM (w : World) (b n : Nat) (f : ByteArray → Option Nat) : Prop := OMg Tryz.prog 9 Value.string (fun (n : Nat) => Value.int .i64 (n : Int)) goodS w b n f
theorem Rw.grown {w w' : World} {b : Nat} {vs : List Value} {row : Option Nat} (h : Rw w b vs) (hg : w.grownBy w' row) (hne : some b ≠ row) : Rw w' b vs := by
  have e : w'.heap[b]? = w.heap[b]? := hg.block b h.lt hne
  refine ⟨fun j x hx => ?_, fun j hj => ?_, Nat.lt_of_lt_of_le h.lt hg.size⟩
  · have := h.row j x hx
    unfold World.cell? at this ⊢
    rw [e]; exact this
  · have := h.th j hj
    refine ⟨?_, ?_⟩
    · have := this.1
      unfold World.cell? at this ⊢
      rw [e]; exact this
    · have := this.2
      unfold World.frozen? at this ⊢
      rw [e]; exact this
/-- A map, numbers that lie apart from it, and strings that lie apart from both. -/
structure HM (B mb n : Nat) (f : ByteArray → Option Nat) (vd : Value) (D : List Nat) (q : Nat) (vs : List Value) (w : World) : Prop where
  mp : SM w mb n f
  dp : Own1 3 w B vd (intL D)
  nd : vd.ownBlock ≠ some mb
  cl : Rw w q vs
  nq : q ≠ mb
  dq : vd.ownBlock ≠ some q
theorem HM.below {B mb n q : Nat} {f : ByteArray → Option Nat} {vd : Value} {D : List Nat} {vs : List Value} {w w' : World} (h : HM B mb n f vd D q vs w) (hb : Below w.heap.size w w') : HM B mb n f vd D q vs w' := ⟨h.mp.below hb, h.dp.below hb, h.nd, h.cl.call hb, h.nq, h.dq⟩
theorem HM.turned {B mb n n' q : Nat} {f f' : ByteArray → Option Nat} {vd : Value} {D : List Nat} {vs : List Value} {w w' : World} (h : HM B mb n f vd D q vs w) (ht : w.mapTurned w' mb) (hm : SM w' mb n' f') : HM B mb n' f' vd D q vs w' :=
  ⟨hm, ⟨h.dp.1.kept ht.grown (Or.inr h.nd), Nat.le_trans h.dp.2 ht.grown.size⟩, h.nd, h.cl.grown ht.grown (fun e => h.nq (Option.some.inj e)), h.nq, h.dq⟩
theorem wp_hdrop {ops : Array Oper} {rest : List Oper} {o : Oper} {a : Act} {Q : Exit → Act → World → Prop} (w : World) (hgd : o.guard = none) (s x : Operand)
    (ho : o.op = .call { callee := .builtin .append, args := #[s, x], argTypes := #[24, 24] })
    (B mb m q : Nat) (f : ByteArray → Option Nat) (vd : Value) (D : List Nat) (vs : List Value) (n : Nat) (hs : a.eval s = vd) (hx : a.eval x = .slice (some ⟨w.heap.size, 0, none⟩) 1 1) (h2 : HM B mb m f vd D q vs w) (hl : D.length ≤ 1000000)
    (h : ∀ v' w', HM B mb m f v' (D ++ [n]) q vs w' → Below B w w' → wpList Tryz.prog ops Q rest (a.put o.dst v') w') :
    wpList Tryz.prog ops Q (o :: rest) a (w.alloc (.cells #[.int .i64 (n : Int)] 3)) := by
  refine wp_drop w hgd s x ho B (.slice none 0 0) vd [] D n hs hx ⟨OwnO.nil w B h2.dp.2, h2.dp, fun g e => by cases e⟩ hl ?_
  intro v' w' hw hg hat hb
  have lt := h2.mp.lt
  have ltq := h2.cl.lt
  have al := (Below.refl w.heap.size w).alloc (Nat.le_refl _) (.cells #[.int .i64 (n : Int)] 3)
  refine h v' w' ⟨(h2.mp.below al).kept hg (fun e => h2.nd e.symm), hw.dp, fun e => ?_, (h2.cl.call al).grown hg (fun e => h2.dq e.symm), h2.nq, fun e => ?_⟩ hb
  · rcases hat with hat | hat
    · exact h2.nd (hat ▸ e)
    · rw [hat] at e
      injection e with e
      omega
  · rcases hat with hat | hat
    · exact h2.dq (hat ▸ e)
    · rw [hat] at e
      injection e with e
      omega
theorem idx_str (W : World) (k : Nat) (hk : k < colB.length) : (Instr.index 69 (flV colB) (.int .i64 (k : Int))).run Tryz.prog W = .ok (.string (colB[k]'hk)) W := by
  have h2 : (k : Int) < 8 := by have : colB.length = 8 := rfl; omega
  have h3 : k < 8 := hk
  have hv : (strC colB)[k]? = some (.string (colB[k]'hk)) := by
    unfold strC
    rw [List.getElem?_map, List.getElem?_eq_getElem hk]
    rfl
  have hs : (sizeOf 9).run Tryz.prog W = .ok 1 W := by kernel_rfl
  have ha : (isAgg 9).run Tryz.prog W = .ok false W := by kernel_rfl
  unfold flV
  simp [Instr.index, run_underlying Tryz.underlying69, asIntOf, h2, h3, part, hs, ha, hv, Result.andThen, Sem.run_bind, Sem.run_pure]
/-- What the first cells of a block hold. -/
structure CA (w : World) (b : Nat) (vs : List Value) : Prop where
  lt : b < w.heap.size
  cells : ∀ (j : Nat) v, vs[j]? = some v → w.cell? ⟨b, j, none⟩ = some v
theorem CA.below {w w' : World} {b : Nat} {vs : List Value} (h : CA w b vs) (hb : Below w.heap.size w w') : CA w' b vs := ⟨Nat.lt_of_lt_of_le h.lt hb.size, fun j v hj => (hb.cell (p := ⟨b, j, none⟩) h.lt).trans (h.cells j v hj)⟩
theorem CA.far {w w' : World} {b B : Nat} {vs : List Value} (h : CA w b vs) (hb : Below B w w') (hl : b < B) : CA w' b vs := ⟨Nat.lt_of_lt_of_le h.lt hb.size, fun j v hj => (hb.cell (p := ⟨b, j, none⟩) hl).trans (h.cells j v hj)⟩
theorem CA.setCell {w : World} {b c i : Nat} {vs : List Value} (h : CA w b vs) (x : Value) (hne : b ≠ c) : CA (w.setCell ⟨c, i, none⟩ x) b vs := by
  refine ⟨by rw [set_size]; exact h.lt, fun j v hj => ?_⟩
  have out := World.cell?_setCells_out c [x] i w
  have ew : w.setCells c i [x] = w.setCell ⟨c, i, none⟩ x := rfl
  rw [ew] at out
  rw [out _ (fun e => absurd e hne)]
  exact h.cells j v hj
theorem CA.inA {w : World} {b : Nat} {l : List Nat} (h : CA w b (intL l)) : InA w (some ⟨b, 0, none⟩) l := Or.inr ⟨b, 0, rfl, h.lt, fun i hi => by
  rw [Nat.zero_add]
  refine h.cells i _ ?_
  unfold intL
  rw [List.getElem?_map, List.getElem?_eq_getElem hi]
  rfl⟩
def HeadPost (s : ByteArray) (w : World) (e : Ending) (w' : World) : Prop :=
  ((∃ (g cap : Nat) (ord : List Nat), headR s.data.toList = some ord ∧ (∀ k ∈ ord, k < 8) ∧ ord.length ≤ 8 ∧ e = .returned (.slice (some ⟨g, 0, none⟩) ord.length cap) ∧ w.heap.size ≤ g ∧ CA w' g (intL ord)) ∨ (headR s.data.toList = none ∧ e = .panicked malP)) ∧ Below w.heap.size w w'
theorem nodup_len {l : List Nat} (h : l.Nodup) (h8 : ∀ k ∈ l, k < 8) : l.length ≤ 8 := by
  have : ∀ (n : Nat) (l : List Nat), l.Nodup → (∀ k ∈ l, k < n) → l.length ≤ n := by
    intro n
    induction n with
    | zero => intro l _ h; cases l with
      | nil => exact Nat.le_refl _
      | cons a l => exact absurd (h a (List.mem_cons_self ..)) (by omega)
    | succ n ih =>
      intro l hn hl
      by_cases g : n ∈ l
      · have := ih (l.erase n) (hn.erase n) (fun k hk => by
          have h1 := hl k (List.mem_of_mem_erase hk)
          have h2 : k ≠ n := fun e => by
            subst e
            exact hn.not_mem_erase hk
          omega)
        rw [List.length_erase_of_mem g] at this
        omega
      · have := ih l hn (fun k hk => by
          have h1 := hl k hk
          have : k ≠ n := fun e => g (e ▸ hk)
          omega)
        omega
  exact this 8 l h h8
set_option maxRecDepth 100000 in
set_option maxHeartbeats 16000000 in
theorem vhead_any (s : ByteArray) (w : World) (hM : MX w) (hs : s.size ≤ 1000000) : Calls Tryz.prog 53 #[.string s] w (HeadPost s w) := by
  obtain ⟨lm, m, hm⟩ := hM
  have SPL : Hid (∀ w', Below w.heap.size w w' → Calls Tryz.prog 49 #[.string s, .string ⟨#[124]⟩] w' fun e w2 => e = .returned (.slice (some ⟨w'.heap.size, 0, none⟩) (pieces 124 s.data.toList).length (pieces 124 s.data.toList).length) ∧ w2 = w'.alloc (.cells (strC ((pieces 124 s.data.toList).map stL)).toArray 9)) := Lib.hid (fun w' h => (Tryz.strings_Split s ⟨#[124]⟩ m w' (by omega) ((h.cell (p := ⟨_, 0, none⟩) lm).trans hm) (Nat.le_refl 1)).mono fun _ _ ⟨x, y⟩ => ⟨by rw [x, split_len], by rw [y, split_pieces]; rfl⟩)
  have TRM := Lib.hid (fun (t : ByteArray) (h : t.size ≤ 1000000) w' => Tryz.strings_Trim_one t 32 (by decide) w' (by omega))
  have hmm := @run_makeMap Tryz.prog
  have PM : Hid (∀ p ∈ pieces 124 s.data.toList, (stL p).size ≤ 1000000) := Lib.hid (fun p hp => by have := (pieces_mem hp).1; rw [stL_size]; have z : s.data.toList.length = s.size := rfl; omega)
  have PL : Hid ((pieces 124 s.data.toList).length ≤ 1000001) := Lib.hid (by
    rw [pieces_len]
    have := List.count_le_length (a := (124 : UInt8)) (l := s.data.toList)
    have z : s.data.toList.length = s.size := rfl
    omega)
  have FIN := Lib.hid (fun ord (h : (pieces 124 s.data.toList).foldl headStep (some []) = some ord) => headR_some (s := s.data.toList) h)
  have NON := Lib.hid (fun (h : (pieces 124 s.data.toList).foldl headStep (some []) = none) => headR_none (s := s.data.toList) h)
  generalize pieces 124 s.data.toList = L at *
  clear hm lm
  go_enter Tryz.func53, Tryz.ntmps53
  go_upto_region 2 with fail
  have M0 := Lib.hid (OMg.made (P := Tryz.prog) (K := 9) (kv := Value.string) (vv := fun (n : Nat) => Value.int .i64 (n : Int)) (good := goodS) w)
  have B0 := Lib.hid ((Below.refl w.heap.size w).alloc (Nat.le_refl _) (.map #[] 0))
  obtain ⟨mb, hmb⟩ : ∃ m, w.heap.size = m := ⟨_, rfl⟩
  have HB := Lib.hid hmb
  rw [hmb] at M0
  try rw [hmb]
  clear hmb
  obtain ⟨w1, hw1⟩ : ∃ v, w.alloc (.map #[] 0) = v := ⟨_, rfl⟩
  rw [hw1] at M0 B0 ⊢
  clear hw1
  go_wp2_with fail
  refine (names_any _).mono ?_
  rintro e w2 ⟨rfl, hb2⟩
  have M2 := Lib.hid (M0.out.below hb2)
  have B2 := Lib.hid (below_then B0.out hb2)
  clear hb2 M0 B0
  go_wp2_with fail
  go_loopw [14] (fun i wr => ∃ k : Nat, k ≤ 8 ∧ i = .int .i64 k ∧ Hid (SM wr mb k (colTo k)) ∧ Hid (Below w.heap.size w wr)) (fun i _ => 8 - (intOf i).toNat)
  case atStart => exact ⟨0, Nat.zero_le _, rfl, Lib.hid (by rw [colTo_zero]; exact M2.out), B2⟩
  case round =>
    obtain ⟨k, hk, rfl, M, B⟩ := hrel
    clear M2 B2
    by_cases hlt : k < 8
    · have hkl : k < colB.length := hlt
      have i1 : (k : Int) < 8 := by omega
      have ix := fun W => idx_str W k hkl
      have NX := Lib.hid (colTo_next k hkl)
      have zc : (colB[k]'hkl).size ≤ 1000000 := by
        have a : ∀ c ∈ colB, c.size ≤ 7 := by decide
        have := a _ (List.getElem_mem hkl)
        omega
      have GC : Hid (goodS (colB[k]'hkl)) := Lib.hid zc
      generalize colB[k]'hkl = c at *
      have n6 : k < 1000000 := by omega
      clear zc
      go_wp2_with (at_mapUpdate; refine wp_mstore _ rfl (.tmp 18) (.tmp 19) (.tmp 20) rfl mapS rfl M.out c rfl GC.out k rfl n6 ?_; intro w' hm ht)
      have M3 := Lib.hid (show SM w' mb (k + 1) (colTo (k + 1)) by rw [← NX.out]; exact hm)
      have B3 := Lib.hid (B.out.trans (turned_below ht (Nat.le_of_eq HB.out) B.out.size))
      clear hm ht M B ix NX
      go_wp2_with fail
      go_roundw
      case rel => exact ⟨k + 1, by omega, by go_num, M3, B3⟩
      case measure => simp [intOf]; omega
    · obtain rfl : k = 8 := by omega
      have M1 := M.out
      rw [colLeft_nil] at M1
      have M4 := Lib.hid M1
      clear M M1
      go_wp2_with fail
      refine (SPL.out _ B.out).mono ?_
      rintro e w5 ⟨rfl, hw5⟩
      have al := (Below.refl wr.heap.size wr).alloc (Nat.le_refl _) (.cells (strC (L.map stL)).toArray 9)
      have r5 := Rw.new wr (strC (L.map stL)) 9
      rw [← hw5] at al r5
      obtain ⟨q, hq⟩ : ∃ q, wr.heap.size = q := ⟨_, rfl⟩
      rw [hq] at r5
      have lt := M4.out.lt
      have nq : q ≠ mb := by omega
      have H5 : Hid (HM w.heap.size mb 8 (colLeft []) (.slice none 0 0) [] q (strC (L.map stL)) w5) := Lib.hid ⟨M4.out.below al, Own1.nil _ _ _ (below_then B.out al).size, by simp [Value.ownBlock], r5, nq, by simp [Value.ownBlock]⟩
      have B5 := Lib.hid (below_then B.out al)
      obtain ⟨n, hn⟩ : ∃ n, L.length = n := ⟨_, rfl⟩
      have NL := Lib.hid hn
      have pl := PL.out
      rw [hn] at pl ⊢
      try rw [hq]
      clear hw5 al r5 lt nq M4 B SPL hn hq
      go_wp2_with fail
      go_loopw [6, 7, 25] (fun a1 a2 i wr => ∃ (k : Nat) (ord : List Nat) (vd : Value), k ≤ n ∧ i = .int .i64 k ∧ vd = a1 ∧ a2 = .int .i64 ((cntM ord : Nat) : Int) ∧ Hid (HM w.heap.size mb 8 (colLeft ord) vd ord q (strC (L.map stL)) wr) ∧ Hid ((L.take k).foldl headStep (some []) = some ord ∧ ord.Nodup ∧ ∀ k ∈ ord, k < 8) ∧ Hid (Below w.heap.size w wr)) (fun _ _ i _ => n - (intOf i).toNat)
      case atStart => exact ⟨0, [], _, Nat.zero_le _, rfl, rfl, rfl, H5, Lib.hid ⟨rfl, List.nodup_nil, fun k h => by cases h⟩, B5⟩
      case round =>
        obtain ⟨k, ord, vd, hk, rfl, rfl, rfl, H, F, B⟩ := hrel
        clear H5 B5
        have ol := nodup_len F.out.2.1 F.out.2.2
        have cl5 := cntM_le ord
        by_cases hlt2 : k < n
        · have hkl : k < L.length := by rw [NL.out]; exact hlt2
          have i1 : (k : Int) < (n : Int) := by omega
          have i0 : (0 : Int) ≤ (k : Int) := by omega
          have hc : wr.cell? ⟨q, 0 + k, none⟩ = some (.string (stL (L[k]'hkl))) := by
            rw [Nat.zero_add]
            refine H.out.cl.cell (j := k) ?_
            unfold strC
            rw [List.getElem?_map, List.getElem?_map, List.getElem?_eq_getElem hkl]
            rfl
          rw [Nat.zero_add] at hc
          have zx := PM.out _ (List.getElem_mem hkl)
          have STOP := Lib.hid (fun (h : headStep (some ord) (L[k]'hkl) = none) => NON.out (head_stop hkl F.out.1 h))
          have NEXT := Lib.hid (fun ord' (h : headStep (some ord) (L[k]'hkl) = some ord') => head_next hkl F.out.1 h)
          have TK := Lib.hid (fun w' => TRM.out (stL (L[k]'hkl)) zx w')
          rw [show (⟨(Lib.trimB (stL (L[k]'hkl)).data.toList 32).toArray⟩ : ByteArray) = trimS (stL (L[k]'hkl)) from rfl] at TK
          have zt : (trimS (stL (L[k]'hkl))).size ≤ 1000000 := by
            have := trimB_le (stL (L[k]'hkl)).data.toList 32
            have z : (stL (L[k]'hkl)).data.toList.length = (stL (L[k]'hkl)).size := rfl
            unfold trimS
            rw [stL_size]
            omega
          have GT : Hid (goodS (trimS (stL (L[k]'hkl)))) := Lib.hid zt
          have HS := Lib.hid (fun j (h : colLeft ord (trimS (stL (L[k]'hkl))) = some j) => headStep_some h)
          have HN := Lib.hid (fun (h : colLeft ord (trimS (stL (L[k]'hkl))) = none) => headStep_none h)
          clear FIN NON
          generalize trimS (stL (L[k]'hkl)) = t at *
          generalize L[k]'hkl = x at *
          go_wp2_with fail
          refine (TK.out _).mono ?_
          rintro e w6 ⟨rfl, hw6⟩
          have b6 : Below wr.heap.size wr w6 := by rcases hw6 with rfl | rfl; exact Below.refl _ _; exact (Below.refl _ _).drew
          have H6 := Lib.hid (H.out.below b6)
          have B6 := Lib.hid (below_then B.out b6)
          clear hw6 b6 H B TK hc
          cases hf : colLeft ord t with
          | none =>
            have NO := Lib.hid (STOP.out (HN.out hf))
            have HF := Lib.hid hf
            clear STOP NEXT HS HN hf
            go_wp2_with (at_lookup; refine wp_mlook_no _ rfl (.tmp 32) (.tmp 33) rfl mapS rfl H6.out.mp t rfl GT.out HF.out ?_)
            refine (need_no _).mono ?_
            rintro e w7 ⟨rfl, rfl⟩
            exact ⟨rfl, Or.inr ⟨NO.out, rfl⟩, B6.out⟩
          | some j =>
            obtain ⟨h1, h2, h3⟩ := HS.out j hf
            have HF := Lib.hid hf
            have CL := Lib.hid (colLeft_next hf)
            have CN := Lib.hid (cntM_next h2)
            have F2 : Hid ((L.take (k + 1)).foldl headStep (some []) = some (ord ++ [j]) ∧ (ord ++ [j]).Nodup ∧ ∀ k ∈ ord ++ [j], k < 8) := Lib.hid ⟨NEXT.out _ h1, by
              rw [List.nodup_append]
              exact ⟨F.out.2.1, by simp, fun a ha b hb e => by rw [List.mem_singleton.1 hb] at e; exact h2 (e ▸ ha)⟩, fun k hk => by
              rcases List.mem_append.1 hk with hk | hk
              · exact F.out.2.2 k hk
              · rw [List.mem_singleton.1 hk]; exact h3⟩
            have DL : ord.length ≤ 1000000 := by omega
            clear STOP NEXT HS HN hf h1 h2 F
            go_wp2_with (at_lookup; refine wp_mlook_yes _ rfl (.tmp 32) (.tmp 33) rfl mapS rfl H6.out.mp t rfl GT.out _ HF.out ?_)
            refine (need_yes _).mono ?_
            rintro e w7 ⟨rfl, rfl⟩
            go_upto_region 16 with (at_delete; refine wp_mdrop _ rfl (.tmp 39) (.tmp 40) rfl mapS rfl H6.out.mp t rfl GT.out ?_; intro w8 hm8 ht8)
            have H8 := Lib.hid (H6.out.turned ht8 (by rw [CL.out] at hm8; exact hm8))
            have B8 := Lib.hid (B6.out.trans (turned_below ht8 (Nat.le_of_eq HB.out) B6.out.size))
            clear hm8 ht8 H6 B6
            by_cases g5 : j < 5
            · have j5 : (j : Int) < 5 := by omega
              have C2 := CN.out
              rw [if_pos g5] at C2
              have CC := Lib.hid C2
              clear C2 CN
              go_wp2_with (at_builtin; refine wp_hdrop _ rfl (.tmp 41) (.tmp 43) rfl w.heap.size mb 8 q _ _ ord (strC (L.map stL)) j rfl (by first | rfl | simp [Act.eval]) H8.out DL ?_; intro v' w9 h9 hb9)
              have H9 := Lib.hid h9
              have B9 := Lib.hid (B8.out.trans hb9)
              clear h9 hb9 H8 B8
              go_wp2_with fail
              go_roundw
              case rel => exact ⟨k + 1, ord ++ [j], _, by omega, by go_num, rfl, by rw [CC.out]; go_num, H9, F2, B9⟩
              case measure => simp [intOf]; omega
            · have j5 : ¬ (j : Int) < 5 := by omega
              have C2 := CN.out
              rw [if_neg g5, Nat.add_zero] at C2
              have CC := Lib.hid C2
              clear C2 CN
              go_wp2_with (at_builtin; refine wp_hdrop _ rfl (.tmp 41) (.tmp 43) rfl w.heap.size mb 8 q _ _ ord (strC (L.map stL)) j rfl (by first | rfl | simp [Act.eval]) H8.out DL ?_; intro v' w9 h9 hb9)
              have H9 := Lib.hid h9
              have B9 := Lib.hid (B8.out.trans hb9)
              clear h9 hb9 H8 B8
              go_wp2_with fail
              go_roundw
              case rel => exact ⟨k + 1, ord ++ [j], _, by omega, by go_num, rfl, by rw [CC.out], H9, F2, B9⟩
              case measure => simp [intOf]; omega
        · obtain rfl : k = n := by omega
          have f1 := F.out.1
          rw [show L.take k = L by rw [← NL.out, List.take_length]] at f1
          have FF := FIN.out ord f1
          have F8 := Lib.hid F.out.2.2
          have HD := Lib.hid H.out.dp
          clear f1 F H FIN NON
          by_cases g : cntM ord = 5
          · rw [if_pos ((cntM_all ord).1 g)] at FF
            obtain ⟨gg, gc, rfl, _, gB, glt, gcells⟩ : ∃ g cap, vd = .slice (some ⟨g, 0, none⟩) (intL ord).length cap ∧ (intL ord).length ≤ cap ∧ w.heap.size ≤ g ∧ g < wr.heap.size ∧ ∀ (j : Nat) x, (intL ord)[j]? = some x → wr.cell? ⟨g, j, none⟩ = some x := by
              rcases HD.out.form with ⟨e, _⟩ | h
              · exfalso
                cases ord with
                | nil => simp [cntM] at g
                | cons a l => cases e
              · exact h
            have CC := Lib.hid (show CA wr gg (intL ord) from ⟨glt, gcells⟩)
            rw [intL_len]
            clear glt gcells
            have FH := Lib.hid FF
            have c5 : (((cntM ord : Nat) : Int) == 5) = true := by rw [g]; rfl
            clear FF
            go_wp2_with fail
            refine (need_yes _).mono ?_
            rintro e w7 ⟨rfl, rfl⟩
            go_wp2_with fail
            go_ret
            exact ⟨Or.inl ⟨gg, gc, ord, FH.out, F8.out, ol, rfl, gB, CC.out⟩, B.out⟩
          · rw [if_neg (fun h => g ((cntM_all ord).2 h))] at FF
            have FH := Lib.hid FF
            have c5 : (((cntM ord : Nat) : Int) == 5) = false := beq_eq_false_iff_ne.2 (by omega)
            clear FF
            go_wp2_with fail
            refine (need_no _).mono ?_
            rintro e w7 ⟨rfl, rfl⟩
            exact ⟨rfl, Or.inr ⟨FH.out, rfl⟩, B.out⟩
end Vw
end Go.Proofs.YtaghilgfldaaiaaGreatDoor
/-
  The closure of Parse of psv that catches.
-/
namespace Go.Proofs.YtaghilgfldaaiaaGreatDoor
namespace Vw
open Go.RowKit Lw Go.Proofs.YtaghilgfldaaiaaGreatDoor.Ap Go.Proofs.YtaghilgfldaaiaaGreatDoor.Vp Go.Proofs.YtaghilgfldaaiaaGreatDoor.Op Go.Proofs.YtaghilgfldaaiaaGreatDoor.Ow

theorem pcatch_idle (p q r : Addr) (w : World) : CallsD Tryz.prog 46 #[.pointer (some p), .pointer (some q), .pointer (some r)] .returning w fun e u' w' => e = .returned (.tuple #[]) ∧ u' = .returning ∧ w' = w := by
  refine callsD_of_wpS Tryz.func46 rfl fun c₀ cs hu => ?_
  apply wpS_seq
  apply wpS_region
  simp [wpOpsS, go_sem, recoverD, hu, Tryz.ntmps46, Exit.thenS]
  refine wpS_of_wp ?_
  go_wp2
  cases c₀
  simp_all [bodyPostS, results, Tryz.results46]
/-- What the three cells of the results hold. -/
structure PQ (a : Nat) (x y z : Value) (w : World) : Prop where
  r1 : Rw w a [x]
  r2 : Rw w (a + 1) [y]
  r3 : Rw w (a + 2) [z]
theorem PQ.call {a : Nat} {x y z : Value} {w w' : World} (h : PQ a x y z w) (hb : Below w.heap.size w w') : PQ a x y z w' := ⟨h.r1.call hb, h.r2.call hb, h.r3.call hb⟩
theorem PQ.set1 {a : Nat} {x y z : Value} {w : World} (h : PQ a x y z w) (v : Value) : PQ a v y z (w.setCell ⟨a, 0, none⟩ v) := ⟨h.r1.set 0 v (by simp), h.r2.apart (by omega) 0 v, h.r3.apart (by omega) 0 v⟩
theorem PQ.set2 {a : Nat} {x y z : Value} {w : World} (h : PQ a x y z w) (v : Value) : PQ a x v z (w.setCell ⟨a + 1, 0, none⟩ v) := ⟨h.r1.apart (by omega) 0 v, h.r2.set 0 v (by simp), h.r3.apart (by omega) 0 v⟩
theorem PQ.set3 {a : Nat} {x y z : Value} {w : World} (h : PQ a x y z w) (v : Value) : PQ a x y v (w.setCell ⟨a + 2, 0, none⟩ v) := ⟨h.r1.apart (by omega) 0 v, h.r2.apart (by omega) 0 v, h.r3.set 0 v (by simp)⟩
def malE : List PanicEntry := [{ v := .iface 84 (.agg #[]), recovered := true }]
set_option maxRecDepth 100000 in
set_option maxHeartbeats 2000000 in
theorem pcatch_mal (a : Nat) (x y z : Value) (w : World) (h : PQ a x y z w) : CallsD Tryz.prog 46 #[.pointer (some ⟨a, 0, none⟩), .pointer (some ⟨a + 1, 0, none⟩), .pointer (some ⟨a + 2, 0, none⟩)] (.panicking malP) w fun e u' w' => e = .returned (.tuple #[]) ∧ u' = .panicking malE ∧ PQ a (.slice none 0 0) (.slice none 0 0) (.int .i64 12) w' ∧ Below a w w' := by
  have al := (Below.refl w.heap.size w).alloc (Nat.le_refl _) (.cells #[] 84)
  have H1 := Lib.hid (h.call al)
  have lt := h.r1.lt
  have B1 := Lib.hid ((Below.refl a w).alloc (Nat.le_of_lt lt) (.cells #[] 84))
  obtain ⟨w1, hw1⟩ : ∃ v, w.alloc (.cells #[] 84) = v := ⟨_, rfl⟩
  rw [hw1] at H1 B1
  have HW := Lib.hid hw1
  have H2 := Lib.hid (H1.out.set1 (.slice none 0 0))
  have H3 := Lib.hid (H2.out.set2 (.slice none 0 0))
  have c1 := H1.out.r1.cell (j := 0) (v := _) rfl
  have f1 := H1.out.r1.free (j := 0) (by simp)
  have c2 := H2.out.r2.cell (j := 0) (v := _) rfl
  have f2 := H2.out.r2.free (j := 0) (by simp)
  have c3 := H3.out.r3.cell (j := 0) (v := _) rfl
  have f3 := H3.out.r3.free (j := 0) (by simp)
  have H4 := Lib.hid (H3.out.set3 (.int .i64 12))
  have B4 := Lib.hid (((B1.out.setCell (p := ⟨a, 0, none⟩) (Nat.le_refl _) (.slice none 0 0)).setCell (p := ⟨a + 1, 0, none⟩) (by show a ≤ a + 1; omega) (.slice none 0 0)).setCell (p := ⟨a + 2, 0, none⟩) (by show a ≤ a + 2; omega) (.int .i64 12))
  clear h al hw1 lt
  have hta : ∀ w : World, (Instr.typeAssert (.iface 84 (.agg #[])) 20 84 true).run Tryz.prog w = .ok (.tuple #[.agg #[], .bool true]) w := fun _ => by kernel_rfl
  refine callsD_of_wpS Tryz.func46 rfl fun c₀ cs hu => ?_
  apply wpS_seq
  apply wpS_region
  simp [wpOpsS, go_sem, recoverD, hu, malP, Tryz.ntmps46, Exit.thenS]
  refine wpS_of_wp ?_
  go_upto_region 7 with fail
  rw [HW.out]
  go_wp2 
  refine ⟨rfl, .panicking malE, rfl, .tuple #[], ?_, rfl, rfl, H4.out, B4.out⟩
  simp [results, Tryz.results46]
end Vw
end Go.Proofs.YtaghilgfldaaiaaGreatDoor
/-
  What Parse of psv keeps.
-/
namespace Go.Proofs.YtaghilgfldaaiaaGreatDoor
namespace Vw
open Go.RowKit Lw Go.Proofs.YtaghilgfldaaiaaGreatDoor.Ap Go.Proofs.YtaghilgfldaaiaaGreatDoor.Vp Go.Proofs.YtaghilgfldaaiaaGreatDoor.Op Go.Proofs.YtaghilgfldaaiaaGreatDoor.Ow Go.Proofs.YtaghilgfldaaiaaGreatDoor.Mp Go.Proofs.YtaghilgfldaaiaaGreatDoor.Mw Go.Proofs.YtaghilgfldaaiaaGreatDoor.At

section
variable {P : Program}
theorem ret_cells3 {fn : Func} {p q r : Tmp} {t1 t2 t3 : TypeId} (h : fn.results = #[.cell p t1, .cell q t2, .cell r t3]) (tmps : Array Value) (w : World) (a : Nat) (x y z : Value)
    (hp : tmps.getD p undef = .pointer (some ⟨a, 0, none⟩)) (hq : tmps.getD q undef = .pointer (some ⟨a + 1, 0, none⟩)) (hr : tmps.getD r undef = .pointer (some ⟨a + 2, 0, none⟩))
    (h1 : (loadVar t1 ⟨a, 0, none⟩).run P w = .ok x w) (h2 : (loadVar t2 ⟨a + 1, 0, none⟩).run P w = .ok y w) (h3 : (loadVar t3 ⟨a + 2, 0, none⟩).run P w = .ok z w) :
    (results fn tmps).run P w = .ok (.tuple #[x, y, z]) w := by
  have hp' : tmps[p]?.getD undef = .pointer (some ⟨a, 0, none⟩) := by simpa using hp
  have hq' : tmps[q]?.getD undef = .pointer (some ⟨a + 1, 0, none⟩) := by simpa using hq
  have hr' : tmps[r]?.getD undef = .pointer (some ⟨a + 2, 0, none⟩) := by simpa using hr
  simp [results, h, hp', hq', hr', asAddr, h1, h2, h3, Result.andThen]
end
theorem PQ.loads {a : Nat} {x y : Value} {c : Int} {w : World} (h : PQ a x y (.int .i64 c) w) : (loadVar 42 ⟨a, 0, none⟩).run Tryz.prog w = .ok x w ∧ (loadVar 22 ⟨a + 1, 0, none⟩).run Tryz.prog w = .ok y w ∧ (loadVar 25 ⟨a + 2, 0, none⟩).run Tryz.prog w = .ok (.int .i64 c) w := by
  have c1 := h.r1.cell (j := 0) (v := _) rfl
  have c2 := h.r2.cell (j := 0) (v := _) rfl
  have c3 := h.r3.cell (j := 0) (v := _) rfl
  exact ⟨by simp [go_sem, c1], by simp [go_sem, c2], by simp [go_sem, c3]⟩
/-- A slice of strings that is handed back. -/
def StV (w : World) (v : Value) (l : List ByteArray) : Prop := ∃ x cap, v = .slice x l.length cap ∧ StA w x l
theorem StV.nil (w : World) : StV w (.slice none 0 0) [] := ⟨none, 0, rfl, Or.inl rfl⟩
theorem StV.below {w w' : World} {v : Value} {l : List ByteArray} (h : StV w v l) (hb : Below w.heap.size w w') : StV w' v l := by
  obtain ⟨x, cap, e, h⟩ := h
  exact ⟨x, cap, e, h.below hb⟩
theorem Own1.stV {w : World} {B : Nat} {v : Value} {l : List ByteArray} (h : Own1 9 w B v (strC l)) : StV w v l := by
  rcases h.form with ⟨e, rfl⟩ | ⟨g, cap, rfl, _, _, lt, hc⟩
  · have : l = [] := by
      cases l with
      | nil => rfl
      | cons a l => cases e
    subst this
    exact StV.nil w
  · refine ⟨some ⟨g, 0, none⟩, cap, by rw [strC_len], Or.inr ⟨g, 0, rfl, lt, fun j hj => ?_⟩⟩
    rw [Nat.zero_add]
    refine hc j _ ?_
    unfold strC
    rw [List.getElem?_map, List.getElem?_eq_getElem hj]
    rfl
def ParseTPost (s : ByteArray) (w : World) (e : Ending) (w' : World) : Prop := ∃ (v d : Value) (n : List ByteArray) (m : List Ob) (c : Int), e = .returned (.tuple #[v, d, .int .i64 c]) ∧ ParseTIs s n m c ∧ StV w' v n ∧ SlV w' d m ∧ Below w.heap.size w w'
/-- Where Parse raises, it returns nothing. -/
theorem parse_raise {s : ByteArray} {w w' : World} {x y z : Value} {tmps : Array Value} (NO : ParseTIs s [] [] 12) (h : PQ w.heap.size x y z w') (hb : Below w.heap.size w w')
    (hp : tmps.getD 2 undef = .pointer (some ⟨w.heap.size, 0, none⟩)) (hq : tmps.getD 3 undef = .pointer (some ⟨w.heap.size + 1, 0, none⟩)) (hr : tmps.getD 4 undef = .pointer (some ⟨w.heap.size + 2, 0, none⟩)) :
    Leaves Tryz.prog Tryz.f19 tmps (ParseTPost s w) [{ target := .fn (.func 46) #[.pointer (some ⟨w.heap.size, 0, none⟩), .pointer (some ⟨w.heap.size + 1, 0, none⟩), .pointer (some ⟨w.heap.size + 2, 0, none⟩)], args := #[] }] (.panicking malP) w' := by
  refine leaves_cons (f := 46) (args := #[.pointer (some ⟨w.heap.size, 0, none⟩), .pointer (some ⟨w.heap.size + 1, 0, none⟩), .pointer (some ⟨w.heap.size + 2, 0, none⟩)]) (by simp) (by simp [go_sem]) ?_
  refine (pcatch_mal w.heap.size x y z w' h).mono ?_
  rintro e u' w'' ⟨rfl, rfl, hP, hb2⟩
  obtain ⟨l1, l2, l3⟩ := hP.loads
  exact ⟨_, ret_cells3 Tryz.results19 _ _ w.heap.size _ _ _ hp hq hr l1 l2 l3, _, _, [], [], 12, rfl, NO, StV.nil _, SlV.nil _, hb.trans hb2⟩
theorem leaves_congr {P : Program} {fn : Func} {t1 t2 : Array Value} {R : Ending → World → Prop} (h : results fn t1 = results fn t2) : ∀ (ds : List Deferred) (u : FrameMode) (w : World), Leaves P fn t1 R ds u w → Leaves P fn t2 R ds u w
  | [], .returning, w, ⟨v, hr, hR⟩ => ⟨v, h ▸ hr, hR⟩
  | [], .panicking _, _, g => g
  | [], .run, _, g => g
  | d :: ds, u, w, ⟨hu, fv, cap, f, args, ht, hi, hc⟩ => ⟨hu, fv, cap, f, args, ht, hi, hc.mono fun e u' w' he => by
      cases e with
      | returned v => exact leaves_congr h ds _ w' he
      | panicked c => exact leaves_congr h ds _ w' he
      | outgrown => exact he⟩
theorem parse_put (R : Ending → World → Prop) (i : Nat) (v : Value) (h2 : i ≠ 2) (h3 : i ≠ 3) (h4 : i ≠ 4) (c : List PanicEntry) (a : Act) (w : World) (h : bodyPostD Tryz.prog Tryz.f19 R (.panic c) (a.put (some i) v) w) : bodyPostD Tryz.prog Tryz.f19 R (.panic c) a w := by
  refine leaves_congr ?_ _ _ _ h
  have g : ∀ k : Nat, i ≠ k → (a.tmps.setIfInBounds i v)[k]?.getD undef = a.tmps[k]?.getD undef := fun k hk => by rw [Array.getElem?_setIfInBounds_ne hk]
  simp [results, Tryz.results19, Act.put, g 2 h2, g 3 h3, g 4 h4]
/-- .. and where it comes to its end. -/
theorem parse_end {s : ByteArray} {w w' : World} {x y : Value} {c : Int} {n : List ByteArray} {m : List Ob} {tmps : Array Value} (OK : ParseTIs s n m c) (h : PQ w.heap.size x y (.int .i64 c) w') (hx : StV w' x n) (hy : SlV w' y m) (hb : Below w.heap.size w w')
    (hp : tmps.getD 2 undef = .pointer (some ⟨w.heap.size, 0, none⟩)) (hq : tmps.getD 3 undef = .pointer (some ⟨w.heap.size + 1, 0, none⟩)) (hr : tmps.getD 4 undef = .pointer (some ⟨w.heap.size + 2, 0, none⟩)) :
    Leaves Tryz.prog Tryz.f19 tmps (ParseTPost s w) [{ target := .fn (.func 46) #[.pointer (some ⟨w.heap.size, 0, none⟩), .pointer (some ⟨w.heap.size + 1, 0, none⟩), .pointer (some ⟨w.heap.size + 2, 0, none⟩)], args := #[] }] .returning w' := by
  refine leaves_cons (f := 46) (args := #[.pointer (some ⟨w.heap.size, 0, none⟩), .pointer (some ⟨w.heap.size + 1, 0, none⟩), .pointer (some ⟨w.heap.size + 2, 0, none⟩)]) (by simp) (by simp [go_sem]) ?_
  refine (pcatch_idle ⟨w.heap.size, 0, none⟩ ⟨w.heap.size + 1, 0, none⟩ ⟨w.heap.size + 2, 0, none⟩ w').mono ?_
  rintro e u' w'' ⟨rfl, rfl, rfl⟩
  obtain ⟨l1, l2, l3⟩ := h.loads
  exact ⟨_, ret_cells3 Tryz.results19 _ _ w.heap.size _ _ _ hp hq hr l1 l2 l3, _, _, n, m, c, rfl, OK, hx, hy, hb⟩
theorem PQ.new (w : World) : PQ w.heap.size (.slice none 0 0) (.slice none 0 0) (.int .i64 0) (((w.alloc (.cells #[.slice none 0 0] 42)).alloc (.cells #[.slice none 0 0] 22)).alloc (.cells #[.int .i64 0] 25)) ∧ Below w.heap.size w (((w.alloc (.cells #[.slice none 0 0] 42)).alloc (.cells #[.slice none 0 0] 22)).alloc (.cells #[.int .i64 0] 25)) ∧ (((w.alloc (.cells #[.slice none 0 0] 42)).alloc (.cells #[.slice none 0 0] 22)).alloc (.cells #[.int .i64 0] 25)).heap.size = w.heap.size + 3 := by
  have a1 := (Below.refl w.heap.size w).alloc (Nat.le_refl _) (.cells #[.slice none 0 0] 42)
  have r1 := Rw.new w [.slice none 0 0] 42
  have e1 : (w.alloc (.cells #[.slice none 0 0] 42)).heap.size = w.heap.size + 1 := by simp
  generalize w.alloc (.cells #[.slice none 0 0] 42) = v1 at *
  have a2 := (Below.refl v1.heap.size v1).alloc (Nat.le_refl _) (.cells #[.slice none 0 0] 22)
  have r2 := Rw.new v1 [.slice none 0 0] 22
  have e2 : (v1.alloc (.cells #[.slice none 0 0] 22)).heap.size = v1.heap.size + 1 := by simp
  generalize v1.alloc (.cells #[.slice none 0 0] 22) = v2 at *
  have a3 := (Below.refl v2.heap.size v2).alloc (Nat.le_refl _) (.cells #[.int .i64 0] 25)
  have r3 := Rw.new v2 [.int .i64 0] 25
  have e3 : (v2.alloc (.cells #[.int .i64 0] 25)).heap.size = v2.heap.size + 1 := by simp
  rw [e1] at r2 e2
  rw [e2] at r3 e3
  exact ⟨⟨(r1.call a2).call a3, r2.call a3, r3⟩, below_then (below_then a1 a2) a3, by omega⟩
theorem suffix_cases (l : List UInt8) : (∃ body, l = body ++ [10] ∧ Lib.hasSuffix l [10] = true ∧ Lib.trimSuffix l [10] = body) ∨ ((∀ body, l ≠ body ++ [10]) ∧ Lib.hasSuffix l [10] = false) := by
  by_cases h : Lib.hasSuffix l [10] = true
  · obtain ⟨b, hb⟩ := List.isSuffixOf_iff_suffix.1 h
    refine Or.inl ⟨b, hb.symm, h, ?_⟩
    unfold Lib.trimSuffix
    rw [if_pos h, ← hb]
    simp
  · refine Or.inr ⟨fun b hb => h (List.isSuffixOf_iff_suffix.2 ⟨b, hb.symm⟩), Bool.eq_false_iff.2 h⟩
def lenS : Value → Nat
  | .slice _ n _ => n
  | _ => 0
theorem slice_tail (W : World) (q o m m' : Nat) (h : m = m' + 1) : (Instr.slice 42 (.slice (some ⟨q, o, none⟩) m m) (some (.int .i64 1)) none none).run Tryz.prog W = .ok (.slice (some ⟨q, if m' = 0 then o else o + 1, none⟩) m' m') W := by
  subst h
  have hs : (sizeOf 9).run Tryz.prog W = .ok 1 W := by kernel_rfl
  have h1 : (1 : Int) ≤ ((m' + 1 : Nat) : Int) := by omega
  by_cases h0 : m' = 0
  · subst h0
    simp [Instr.slice, Instr.sliceBounds, Instr.sliceBound, asIntOf, run_underlying Tryz.underlying42, hs, Result.andThen]
  · have h2 : ¬ m' + 1 = 1 := by omega
    have h3 : (1 : Int) ≤ (m' : Int) + 1 := by omega
    simp [Instr.slice, Instr.sliceBounds, Instr.sliceBound, asIntOf, run_underlying Tryz.underlying42, hs, Result.andThen, h0, h2, h3, Addr.add]
theorem grown_set (b i : Nat) (v : Value) (w : World) : w.grownBy (w.setCell ⟨b, i, none⟩ v) (some b) := by
  refine ⟨?_, ?_, ?_, by rw [set_size]; exact Nat.le_refl _, fun k _ hne => ?_⟩
  · exact ((Below.refl 0 w).setCell (p := ⟨b, i, none⟩) (Nat.zero_le _) v).os
  · exact ((Below.refl 0 w).setCell (p := ⟨b, i, none⟩) (Nat.zero_le _) v).tape
  · exact ((Below.refl 0 w).setCell (p := ⟨b, i, none⟩) (Nat.zero_le _) v).output
  · show (w.heap.modify b _)[k]? = _
    rw [Array.getElem?_modify, if_neg (fun e => hne (by rw [e]))]
theorem Own1.setCell {t : TypeId} {w : World} {B b i : Nat} {v x : Value} {l : List Value} (h : Own1 t w B v l) (hb : b < B) : Own1 t (w.setCell ⟨b, i, none⟩ x) B v l :=
  ⟨h.1.kept (grown_set b i x w) (by
    cases e : v.ownBlock with
    | none => exact Or.inl rfl
    | some g => exact Or.inr (fun k => by have := (h.1.lt g e).1; injection k with k; omega)), by rw [set_size]; exact h.2⟩
theorem OwnO.setCell {w : World} {B b i : Nat} {v x : Value} {l : List Ob} (h : OwnO w B v l) (hb : b < B) : OwnO (w.setCell ⟨b, i, none⟩ x) B v l :=
  ⟨h.1.kept (grown_set b i x w) (by
    cases e : v.ownBlock with
    | none => exact Or.inl rfl
    | some g => exact Or.inr (fun k => by have := (h.1.lt g e).1; injection k with k; omega)), by rw [set_size]; exact h.2⟩
theorem Rw.far {w w' : World} {b B : Nat} {vs : List Value} (r : Rw w b vs) (hb : Below B w w') (hlt : b < B) : Rw w' b vs := by
  have e : w'.heap[b]? = w.heap[b]? := hb.block b hlt
  refine ⟨fun j x hx => ?_, fun j hj => ?_, Nat.lt_of_lt_of_le r.lt hb.size⟩
  · have := r.row j x hx
    unfold World.cell? at this ⊢
    rw [e]; exact this
  · have := r.th j hj
    refine ⟨?_, ?_⟩
    · have := this.1
      unfold World.cell? at this ⊢
      rw [e]; exact this
    · have := this.2
      unfold World.frozen? at this ⊢
      rw [e]; exact this
theorem PQ.far {a B : Nat} {x y z : Value} {w w' : World} (h : PQ a x y z w) (hb : Below B w w') (ha : a + 3 ≤ B) : PQ a x y z w' := ⟨h.r1.far hb (by omega), h.r2.far hb (by omega), h.r3.far hb (by omega)⟩
theorem Own1.far {t : TypeId} {w w' : World} {B B' : Nat} {v : Value} {l : List Value} (h : Own1 t w B v l) (hb : Below B' w w') (hx : ∀ g, v.ownBlock = some g → g < B') : Own1 t w' B v l := by
  refine ⟨?_, Nat.le_trans h.2 hb.size⟩
  obtain ⟨h1, h2⟩ := h.1
  refine ⟨h1, ?_⟩
  rcases h2 with h2 | ⟨g, cap, cur, hv, hg, hh, r⟩
  · exact Or.inl h2
  · exact Or.inr ⟨g, cap, cur, hv, hg, by rw [hb.block g (hx g (by rw [hv]; rfl))]; exact hh, r⟩
/-- What Parse keeps while it reads notes. -/
structure PN (w0 : World) (B q : Nat) (vs : List Value) (vn : Value) (ns : List ByteArray) (w : World) : Prop where
  pq : PQ w0.heap.size vn (.slice none 0 0) (.int .i64 0) w
  cl : Rw w q vs
  nt : Own1 9 w B vn (strC ns)
  lt : w0.heap.size + 3 ≤ q ∧ q < B
  below : Below w0.heap.size w0 w
theorem PN.call {w0 : World} {B q : Nat} {vs : List Value} {vn : Value} {ns : List ByteArray} {w w' : World} (h : PN w0 B q vs vn ns w) (hb : Below w.heap.size w w') : PN w0 B q vs vn ns w' := ⟨h.pq.call hb, h.cl.call hb, h.nt.below hb, h.lt, below_then h.below hb⟩
/-- A note is added: append, and the store into the cell. -/
theorem PN.add {w0 : World} {B q : Nat} {vs : List Value} {vn v' : Value} {ns ns' : List ByteArray} {w w' : World} (h : PN w0 B q vs vn ns w) (ho : Own1 9 w' B v' (strC ns')) (hb : Below B w w') : PN w0 B q vs v' ns' (w'.setCell ⟨w0.heap.size, 0, none⟩ v') := by
  have l := h.lt
  have q1 := h.pq.far hb (by omega)
  have bb : Below w0.heap.size w0 w' := h.below.trans (hb.mono (by omega))
  exact ⟨q1.set1 v', (h.cl.far hb l.2).apart (by omega) 0 _, ho.setCell (by omega), l, bb.setCell (p := ⟨w0.heap.size, 0, none⟩) (Nat.le_refl _) _⟩
/-- .. and while it reads rows: the notes and the columns' numbers lie below B2, the rows above. -/
structure PR (w0 : World) (B B2 q qo : Nat) (vs : List Value) (ord : List Nat) (vn : Value) (ns : List ByteArray) (vd : Value) (ms : List Ob) (w : World) : Prop where
  pq : PQ w0.heap.size vn vd (.int .i64 0) w
  cl : Rw w q vs
  nt : Own1 9 w B vn (strC ns)
  nb : ∀ g, vn.ownBlock = some g → g < B2
  ob : OwnO w B2 vd ms
  od : CA w qo (intL ord)
  lt : w0.heap.size + 3 ≤ q ∧ q < B
  lb : B ≤ B2
  lo : w0.heap.size + 3 ≤ qo ∧ qo < B2
  below : Below w0.heap.size w0 w
theorem PR.call {w0 : World} {B B2 q qo : Nat} {vs : List Value} {ord : List Nat} {vn : Value} {ns : List ByteArray} {vd : Value} {ms : List Ob} {w w' : World} (h : PR w0 B B2 q qo vs ord vn ns vd ms w) (hb : Below w.heap.size w w') : PR w0 B B2 q qo vs ord vn ns vd ms w' :=
  ⟨h.pq.call hb, h.cl.call hb, h.nt.below hb, h.nb, h.ob.below hb, h.od.below hb, h.lt, h.lb, h.lo, below_then h.below hb⟩
theorem PN.rows {w0 : World} {B q qo : Nat} {vs : List Value} {ord : List Nat} {vn : Value} {ns : List ByteArray} {w : World} (h : PN w0 B q vs vn ns w) (ho : CA w qo (intL ord)) (lo : B ≤ qo) : PR w0 B w.heap.size q qo vs ord vn ns (.slice none 0 0) [] w :=
  ⟨h.pq, h.cl, h.nt, fun g e => (h.nt.1.lt g e).2, OwnO.nil w _ (Nat.le_refl _), ho, h.lt, h.nt.2, ⟨by have := h.lt; omega, ho.lt⟩, h.below⟩
theorem PR.add {w0 : World} {B B2 q qo : Nat} {vs : List Value} {ord : List Nat} {vn : Value} {ns : List ByteArray} {vd v' : Value} {ms ms' : List Ob} {w w' : World} (h : PR w0 B B2 q qo vs ord vn ns vd ms w) (ho : OwnO w' B2 v' ms') (hb : Below B2 w w') : PR w0 B B2 q qo vs ord vn ns v' ms' (w'.setCell ⟨w0.heap.size + 1, 0, none⟩ v') := by
  have l := h.lt
  have l2 := h.lb
  have l3 := h.lo
  have q1 := h.pq.far hb (by omega)
  have bb : Below w0.heap.size w0 w' := h.below.trans (hb.mono (by omega))
  exact ⟨q1.set2 v', (h.cl.far hb (by omega)).apart (by omega) 0 _, (h.nt.far hb h.nb).setCell (by omega), h.nb, OwnO.setCell ho (by omega), (h.od.far hb l3.2).setCell v' (by omega), l, l2, l3, bb.setCell (p := ⟨w0.heap.size + 1, 0, none⟩) (by show w0.heap.size ≤ w0.heap.size + 1; omega) _⟩
/-- append of an observation, as a region that draws meets it. -/
theorem op_app {o : Oper} {a : Act} {K : Act → World → Prop} {Q : Exit → Act → World → Prop} (w : World) (s x : Operand)
    (ho : o.op = .call { callee := .builtin .append, args := #[s, x], argTypes := #[22, 22] })
    (B : Nat) (v : Value) (l : List Ob) (q : Ob) (hs : a.eval s = v) (hx : a.eval x = .slice (some ⟨w.heap.size, 0, none⟩) 1 1) (hown : OwnO w B v l) (hl : l.length ≤ 1000000)
    (h : ∀ v' w', OwnO w' B v' (l ++ [q]) → Below B w w' → K (a.put o.dst v') w') : o.wp Tryz.prog a (w.alloc (.cells (obsC q).toArray 33)) K Q := by
  obtain ⟨i0, hi, hz0, hz1, hz2⟩ := info_parts infoO
  have ho' := hown.1.alloc (.cells (obsC q).toArray 33)
  have nw := news_of (rangeAt_new w (obsC q) 33)
  have b1 : Below B w (w.alloc (.cells (obsC q).toArray 33)) := (Below.refl _ _).alloc hown.2 _
  refine wp_append_own _ s x 22 ho B 33 i0 _ 8 80 Tryz.underlying22 hi hz0 hz1 hz2 rfl (by decide) v l.length (flatO l) hs ho' ⟨w.heap.size, 0, none⟩ 1 1 (obsC q) hx rfl nw (obsC_one q) (by unfold maxLen; omega) (by omega) (Nat.le_trans hown.2 b1.size) ?_
  intro v' w' h1 h2 _
  have e := flatO_snoc l q
  have hb : Below B w w' := b1.trans ((Below.refl B _).grown h2 (Nat.le_trans hown.2 b1.size) (fun k hk => (hown.1.lt k hk).1))
  refine h v' w' ⟨?_, Nat.le_trans hown.2 hb.size⟩ hb
  rw [e, List.length_append]
  exact h1
theorem CA.stA {w : World} {b : Nat} {l : List ByteArray} (h : CA w b (strC l)) : StA w (some ⟨b, 0, none⟩) l := Or.inr ⟨b, 0, rfl, h.lt, fun i hi => by
  rw [Nat.zero_add]
  refine h.cells i _ ?_
  unfold strC
  rw [List.getElem?_map, List.getElem?_eq_getElem hi]
  rfl⟩
/-- The three cells, written. -/
theorem PR.fin {w0 : World} {B B2 q qo : Nat} {vs : List Value} {ord : List Nat} {vn : Value} {ns : List ByteArray} {vd : Value} {ms : List Ob} {w : World} (h : PR w0 B B2 q qo vs ord vn ns vd ms w) (x y z : Value) :
    PQ w0.heap.size x y z (((w.setCell ⟨w0.heap.size, 0, none⟩ x).setCell ⟨w0.heap.size + 1, 0, none⟩ y).setCell ⟨w0.heap.size + 2, 0, none⟩ z) ∧ StV (((w.setCell ⟨w0.heap.size, 0, none⟩ x).setCell ⟨w0.heap.size + 1, 0, none⟩ y).setCell ⟨w0.heap.size + 2, 0, none⟩ z) vn ns ∧
    SlV (((w.setCell ⟨w0.heap.size, 0, none⟩ x).setCell ⟨w0.heap.size + 1, 0, none⟩ y).setCell ⟨w0.heap.size + 2, 0, none⟩ z) vd ms ∧ Below w0.heap.size w0 (((w.setCell ⟨w0.heap.size, 0, none⟩ x).setCell ⟨w0.heap.size + 1, 0, none⟩ y).setCell ⟨w0.heap.size + 2, 0, none⟩ z) := by
  have l := h.lt
  have l2 := h.lb
  refine ⟨((h.pq.set1 x).set2 y).set3 z, (((h.nt.setCell (by omega)).setCell (by omega)).setCell (by omega)).stV, slV_of (OwnO.setCell (OwnO.setCell (OwnO.setCell h.ob (b := w0.heap.size) (i := 0) (x := x) (by omega)) (b := w0.heap.size + 1) (i := 0) (x := y) (by omega)) (b := w0.heap.size + 2) (i := 0) (x := z) (by omega)).1, ?_⟩
  exact ((h.below.setCell (p := ⟨w0.heap.size, 0, none⟩) (Nat.le_refl _) x).setCell (p := ⟨w0.heap.size + 1, 0, none⟩) (by show w0.heap.size ≤ w0.heap.size + 1; omega) y).setCell (p := ⟨w0.heap.size + 2, 0, none⟩) (by show w0.heap.size ≤ w0.heap.size + 2; omega) z
theorem pref_head (x : List UInt8) : Lib.hasPrefix x [35] = decide (x.head? = some 35) := by
  cases x with
  | nil => rfl
  | cons a l =>
    by_cases h : a = 35
    · subst h; simp [Lib.hasPrefix, List.isPrefixOf]
    · have e : (a :: l).head? ≠ some 35 := fun e => h (Option.some.inj e)
      rw [decide_eq_false e]
      simp [Lib.hasPrefix, List.isPrefixOf, Ne.symm h]
/-- What is known of the notes behind k lines. -/
def NoteTo (L : List (List UInt8)) (k : Nat) (ns : List ByteArray) : Prop := noteR L = (noteR (L.drop k)).map fun p => (ns ++ p.1, p.2)
theorem noteTo_zero (L : List (List UInt8)) : NoteTo L 0 [] := by
  unfold NoteTo
  rw [List.drop_zero]
  cases noteR L <;> rfl
theorem noteTo_next {L : List (List UInt8)} {k : Nat} (hk : k < L.length) {ns : List ByteArray} (h : NoteTo L k ns) (h35 : (L[k]'hk).head? = some 35) (ok : noteP (trimS (stL (L[k]'hk).tail))) : NoteTo L (k + 1) (ns ++ [trimS (stL (L[k]'hk).tail)]) := by
  unfold NoteTo at *
  rw [h, List.drop_eq_getElem_cons hk, noteR, if_pos h35, if_pos ok]
  cases noteR (L.drop (k + 1)) with
  | none => rfl
  | some p => simp
theorem noteTo_bad {L : List (List UInt8)} {k : Nat} (hk : k < L.length) {ns : List ByteArray} (h : NoteTo L k ns) (h35 : (L[k]'hk).head? = some 35) (no : ¬ noteP (trimS (stL (L[k]'hk).tail))) : noteR L = none := by
  unfold NoteTo at h
  rw [h, List.drop_eq_getElem_cons hk, noteR, if_pos h35, if_neg no]
  rfl
theorem noteTo_head {L : List (List UInt8)} {k : Nat} (hk : k < L.length) {ns : List ByteArray} (h : NoteTo L k ns) (h35 : ¬ (L[k]'hk).head? = some 35) : noteR L = some (ns, L[k]'hk :: L.drop (k + 1)) := by
  unfold NoteTo at h
  rw [h, List.drop_eq_getElem_cons hk, noteR, if_neg h35]
  simp
theorem noteTo_end {L : List (List UInt8)} {ns : List ByteArray} (h : NoteTo L L.length ns) : noteR L = some (ns, []) := by
  unfold NoteTo at h
  rw [h, List.drop_length, noteR]
  simp
theorem tab_no1 {L : List (List UInt8)} (h : noteR L = none) : tabR L = none := by unfold tabR; rw [h]; rfl
theorem tab_no2 {L : List (List UInt8)} {ns : List ByteArray} (h : noteR L = some (ns, [])) : tabR L = none := by unfold tabR; rw [h]; rfl
theorem tab_go {L rows : List (List UInt8)} {x : List UInt8} {ns : List ByteArray} (h : noteR L = some (ns, x :: rows)) : tabR L = (headR x).bind fun order => (rowsR order rows).map fun m => (ns, m) := by unfold tabR; rw [h]; rfl
/-- Rows, from the front. -/
def RowTo (ord : List Nat) (rows : List (List UInt8)) (j : Nat) (ms : List Ob) : Prop := rowsR ord rows = (rowsR ord (rows.drop j)).map (ms ++ ·)
theorem rowTo_zero (ord : List Nat) (rows : List (List UInt8)) : RowTo ord rows 0 [] := by
  unfold RowTo
  rw [List.drop_zero]
  cases rowsR ord rows <;> rfl
theorem rowTo_next {ord : List Nat} {rows : List (List UInt8)} {j : Nat} (hj : j < rows.length) {ms : List Ob} (h : RowTo ord rows j ms) {o : Ob} (ho : rowX ord (rows[j]'hj) = some o) : RowTo ord rows (j + 1) (ms ++ [o]) := by
  unfold RowTo at *
  rw [h, List.drop_eq_getElem_cons hj, rowsR, ho]
  show ((rowsR ord (rows.drop (j + 1))).map (o :: ·)).map (ms ++ ·) = _
  cases rowsR ord (rows.drop (j + 1)) with
  | none => rfl
  | some p => simp
theorem rowTo_bad {ord : List Nat} {rows : List (List UInt8)} {j : Nat} (hj : j < rows.length) {ms : List Ob} (h : RowTo ord rows j ms) (ho : rowX ord (rows[j]'hj) = none) : rowsR ord rows = none := by
  unfold RowTo at h
  rw [h, List.drop_eq_getElem_cons hj, rowsR, ho]
  rfl
theorem rowTo_end {ord : List Nat} {rows : List (List UInt8)} {ms : List Ob} (h : RowTo ord rows rows.length ms) : rowsR ord rows = some ms := by
  unfold RowTo at h
  rw [h, List.drop_length, rowsR]
  simp
end Vw
end Go.Proofs.YtaghilgfldaaiaaGreatDoor
