/-
  Lemmas and walks, texts joined: VRead, VMag, VCell, VCell2, VFld.
-/
import Derived.Deep.RegionHeld3
import Derived.Test.YtaghilgfldaaiaaGreatDoorVa06
import Derived.Test.YtaghilgfldaaiaaGreatDoorVa03
import Derived.Test.YtaghilgfldaaiaaGreatDoorVa04
import Derived.Test.YtaghilgfldaaiaaGreatDoorVa02
set_option linter.unusedSimpArgs false
set_option linter.unusedVariables false
/-
  The eight readers of psv: each reads a field into the box of an observation, or raises.
-/
namespace Go.Proofs.YtaghilgfldaaiaaGreatDoor
namespace Vw
open Go.RowKit Lw Go.Proofs.YtaghilgfldaaiaaGreatDoor.Ap Go.Proofs.YtaghilgfldaaiaaGreatDoor.Vp Go.Proofs.YtaghilgfldaaiaaGreatDoor.Op Go.Proofs.YtaghilgfldaaiaaGreatDoor.Ow

theorem Rw.put {w : World} {b : Nat} {o : Ob} (h : Rw w b (obsC o)) (i : Nat) (v : Value) (o' : Ob) (hi : i < 8) (e : (obsC o).set i v = obsC o') : Rw (w.setCell ⟨b, i, none⟩ v) b (obsC o') := by
  have := h.set i v hi
  rwa [e] at this
/-- What a reader leaves. -/
def RdrPost (k : Nat) (s : ByteArray) (b : Nat) (o : Ob) (w : World) (e : Ending) (w' : World) : Prop :=
  ((∃ o', readF k s o = some o' ∧ e = .returned (.tuple #[]) ∧ Rw w' b (obsC o')) ∨ (readF k s o = none ∧ e = .panicked malP)) ∧ Only b w w'
set_option maxHeartbeats 1000000 in
theorem rd0_any (s : ByteArray) (b : Nat) (o : Ob) (w : World) (hb : Rw w b (obsC o)) :
    Calls Tryz.prog 73 #[.pointer (some ⟨b, 0, none⟩), .string s] w (RdrPost 0 s b o w) := by
  have c := hb.cell (j := 0) (v := .string o.name) rfl
  have f := hb.free (j := 0) (by show 0 < 8; decide)
  have P := Lib.hid (hb.put 0 (.string s) { o with name := s } (by decide) rfl)
  clear hb
  go_enter Tryz.func73, Tryz.ntmps73
  go_wp2_with fail
  go_end0
  exact ⟨Or.inl ⟨_, rfl, rfl, P.out⟩, Only.set b 0 _ w⟩
set_option maxHeartbeats 1000000 in
theorem rd1_any (s : ByteArray) (b : Nat) (o : Ob) (w : World) (hb : Rw w b (obsC o)) :
    Calls Tryz.prog 74 #[.pointer (some ⟨b, 0, none⟩), .string s] w (RdrPost 1 s b o w) := by
  have c := hb.cell (j := 1) (v := .string o.site) rfl
  have f := hb.free (j := 1) (by show 1 < 8; decide)
  have P := Lib.hid (hb.put 1 (.string s) { o with site := s } (by decide) rfl)
  clear hb
  go_enter Tryz.func74, Tryz.ntmps74
  go_wp2_with fail
  go_end0
  exact ⟨Or.inl ⟨_, rfl, rfl, P.out⟩, Only.set b 1 _ w⟩
theorem degV_bd {s : ByteArray} {v e : Int} (h : DegS s v e) : -4000000000000000000 ≤ v ∧ v ≤ 4000000000000000000 := by
  rcases h with ⟨h1, h2, h3, _⟩ | ⟨_, h2, _⟩
  · obtain ⟨g1, _, g3, g4, _⟩ := h1
    have fb := Gp.degF_bd (Gp.bodyOf s) (Gp.ptOf (Gp.bodyOf s)) g4
    obtain ⟨d0, f0, d1, _, _⟩ := h2
    have q := Gp.frac_bd (Gp.degF (Gp.bodyOf s) (Gp.ptOf (Gp.bodyOf s))) ((Gp.bodyOf s).size - (Gp.ptOf (Gp.bodyOf s) + 1)) f0 fb.2 (by omega)
    rw [h3]
    generalize Gp.fracI (Gp.degF (Gp.bodyOf s) (Gp.ptOf (Gp.bodyOf s))) ((Gp.bodyOf s).size - (Gp.ptOf (Gp.bodyOf s) + 1)) = y at *
    generalize Gp.degD (Gp.bodyOf s) (Gp.ptOf (Gp.bodyOf s)) = D at *
    cases Gp.negB s
    · show _ ≤ D * 3600000000 + y ∧ D * 3600000000 + y ≤ _
      omega
    · show _ ≤ -(D * 3600000000 + y) ∧ -(D * 3600000000 + y) ≤ _
      omega
  · omega
set_option maxHeartbeats 2000000 in
theorem rd2_any (s : ByteArray) (b : Nat) (o : Ob) (w : World) (hb : Rw w b (obsC o)) (hs : s.size ≤ 100) :
    Calls Tryz.prog 75 #[.pointer (some ⟨b, 0, none⟩), .string s] w (RdrPost 2 s b o w) := by
  have HB := Lib.hid hb
  have PA := Lib.hid (Ap.parse_any s w hs)
  clear hb
  go_enter Tryz.func75, Tryz.ntmps75
  go_wp2_with fail
  refine PA.out.mono ?_
  rintro e w1 ⟨t, k, rfl, hp, hb1⟩
  have R1 := Lib.hid (HB.out.call hb1)
  have O1 := Lib.hid (show Only b w w1 from Only.of (Nat.le_of_lt HB.out.lt) hb1)
  clear PA HB hb1
  rcases timeR_is hp with ⟨rfl, h⟩ | ⟨rfl, rfl, h⟩
  · have F := Lib.hid (show readF 2 s o = some { o with t := t } by show (timeR s).map _ = _; rw [h]; rfl)
    have c := R1.out.cell (j := 2) (v := .int .i64 o.t) rfl
    have f := R1.out.free (j := 2) (by show 2 < 8; decide)
    have P := Lib.hid (R1.out.put 2 (.int .i64 t) { o with t := t } (by decide) rfl)
    clear hp h R1
    go_wp2_with fail
    refine (need_yes _).mono ?_
    rintro e w2 ⟨rfl, rfl⟩
    go_wp2_with fail
    go_end0
    exact ⟨Or.inl ⟨_, F.out, rfl, P.out⟩, O1.out.trans (Only.set b 2 _ w1)⟩
  · have F := Lib.hid (show readF 2 s o = none by show (timeR s).map _ = _; rw [h]; rfl)
    clear hp h R1
    go_wp2_with fail
    refine (need_no _).mono ?_
    rintro e w2 ⟨rfl, rfl⟩
    exact ⟨rfl, Or.inr ⟨F.out, rfl⟩, O1.out⟩
/-- Where the variable lies that Cut and Index read. -/
def MX (w : World) : Prop := 1 < w.heap.size ∧ ∃ m : Int, w.cell? ⟨1, 0, none⟩ = some (.int .i64 m)
theorem MX.below {w w' : World} (h : MX w) (hb : Below w.heap.size w w') : MX w' := by
  obtain ⟨lt, m, hm⟩ := h
  exact ⟨Nat.lt_of_lt_of_le lt hb.size, m, (hb.cell (p := ⟨1, 0, none⟩) lt).trans hm⟩
set_option maxHeartbeats 2000000 in
theorem rd3_any (s : ByteArray) (b : Nat) (o : Ob) (w : World) (hb : Rw w b (obsC o)) (hM : MX w) (hs : s.size ≤ 100) :
    Calls Tryz.prog 76 #[.pointer (some ⟨b, 0, none⟩), .string s] w (RdrPost 3 s b o w) := by
  have HB := Lib.hid hb
  obtain ⟨_, m, hm⟩ := hM
  have PA := Lib.hid (Gp.deg_any s w m hm hs)
  clear hb hm
  go_enter Tryz.func76, Tryz.ntmps76
  go_wp2_with fail
  refine PA.out.mono ?_
  rintro e w1 ⟨v, k, rfl, hp, hb1⟩
  have R1 := Lib.hid (HB.out.call hb1)
  have O1 := Lib.hid (show Only b w w1 from Only.of (Nat.le_of_lt HB.out.lt) hb1)
  have bd := degV_bd hp
  clear PA HB hb1
  rcases degR_is hp with ⟨rfl, h⟩ | ⟨rfl, rfl, h⟩
  · by_cases v0 : 0 ≤ v
    · obtain ⟨vv, hvv⟩ : ∃ vv, v % 1296000000000 = vv := ⟨_, rfl⟩
      have F := Lib.hid (show readF 3 s o = some { o with ra := vv } by show (degR s).bind _ = _; rw [h, ← hvv]; exact if_pos v0)
      have c := R1.out.cell (j := 3) (v := .int .i64 o.ra) rfl
      have f := R1.out.free (j := 3) (by show 3 < 8; decide)
      have P := Lib.hid (R1.out.put 3 (.int .i64 vv) { o with ra := vv } (by decide) rfl)
      have NM := Lib.hid (fun w => Turns.norm_any v w (by omega) (by omega))
      rw [hvv] at NM
      clear hp h R1 hvv
      go_wp2_with fail
      refine (need_yes _).mono ?_
      rintro e w2 ⟨rfl, rfl⟩
      go_wp2_with fail
      refine (NM.out _).mono ?_
      rintro e w2 ⟨rfl, rfl⟩
      clear NM
      go_wp2_with fail
      go_end0
      exact ⟨Or.inl ⟨_, F.out, rfl, P.out⟩, O1.out.trans (Only.set b 3 _ w1)⟩
    · have F := Lib.hid (show readF 3 s o = none by show (degR s).bind _ = _; rw [h]; exact if_neg v0)
      have v1 : v < 0 := by omega
      have g0 : decide (0 ≤ v) = false := decide_eq_false v0
      clear hp h R1
      go_wp2_with fail
      refine (need_no _).mono ?_
      rintro e w2 ⟨rfl, rfl⟩
      exact ⟨rfl, Or.inr ⟨F.out, rfl⟩, O1.out⟩
  · have F := Lib.hid (show readF 3 s o = none by show (degR s).bind _ = _; rw [h]; rfl)
    clear hp h R1
    go_wp2_with fail
    refine (need_no _).mono ?_
    rintro e w2 ⟨rfl, rfl⟩
    exact ⟨rfl, Or.inr ⟨F.out, rfl⟩, O1.out⟩
set_option maxHeartbeats 2000000 in
theorem rd4_any (s : ByteArray) (b : Nat) (o : Ob) (w : World) (hb : Rw w b (obsC o)) (hM : MX w) (hs : s.size ≤ 100) :
    Calls Tryz.prog 77 #[.pointer (some ⟨b, 0, none⟩), .string s] w (RdrPost 4 s b o w) := by
  have HB := Lib.hid hb
  obtain ⟨_, m, hm⟩ := hM
  have PA := Lib.hid (Gp.deg_any s w m hm hs)
  clear hb hm
  go_enter Tryz.func77, Tryz.ntmps77
  go_wp2_with fail
  refine PA.out.mono ?_
  rintro e w1 ⟨v, k, rfl, hp, hb1⟩
  have R1 := Lib.hid (HB.out.call hb1)
  have O1 := Lib.hid (show Only b w w1 from Only.of (Nat.le_of_lt HB.out.lt) hb1)
  clear PA HB hb1
  rcases degR_is hp with ⟨rfl, h⟩ | ⟨rfl, rfl, h⟩
  · have F := Lib.hid (show readF 4 s o = some { o with dec := v } by show (degR s).map _ = _; rw [h]; rfl)
    have c := R1.out.cell (j := 4) (v := .int .i64 o.dec) rfl
    have f := R1.out.free (j := 4) (by show 4 < 8; decide)
    have P := Lib.hid (R1.out.put 4 (.int .i64 v) { o with dec := v } (by decide) rfl)
    clear hp h R1
    go_wp2_with fail
    refine (need_yes _).mono ?_
    rintro e w2 ⟨rfl, rfl⟩
    go_wp2_with fail
    go_end0
    exact ⟨Or.inl ⟨_, F.out, rfl, P.out⟩, O1.out.trans (Only.set b 4 _ w1)⟩
  · have F := Lib.hid (show readF 4 s o = none by show (degR s).map _ = _; rw [h]; rfl)
    clear hp h R1
    go_wp2_with fail
    refine (need_no _).mono ?_
    rintro e w2 ⟨rfl, rfl⟩
    exact ⟨rfl, Or.inr ⟨F.out, rfl⟩, O1.out⟩
theorem sz_yes {t : ByteArray} (h : t.size = 0) : t.toList.isEmpty = true := by
  rw [Lib.toList_data, List.isEmpty_iff_length_eq_zero]; simpa using h
theorem sz_no {t : ByteArray} (h : t.size ≠ 0) : t.toList.isEmpty = false := by
  rw [Lib.toList_data, Bool.eq_false_iff, ne_eq, List.isEmpty_iff_length_eq_zero]; simpa using h
theorem head_of {s : ByteArray} (h : 0 < s.size) : s.data.toList.head? = some (s[0]'h) := by
  have hl : 0 < s.data.toList.length := h
  rw [List.head?_eq_getElem?, List.getElem?_eq_getElem hl]
  rfl
set_option maxHeartbeats 2000000 in
theorem rd5_any (s : ByteArray) (b : Nat) (o : Ob) (w : World) (hb : Rw w b (obsC o)) (hs : s.size ≤ maxLen) :
    Calls Tryz.prog 78 #[.pointer (some ⟨b, 0, none⟩), .string s] w (RdrPost 5 s b o w) := by
  have HB := Lib.hid hb
  clear hb
  by_cases z : s.size = 0
  · have em := sz_yes z
    have F := Lib.hid (show readF 5 s o = some o by show (if s.size = 0 then _ else _) = _; rw [if_pos z])
    go_enter Tryz.func78, Tryz.ntmps78
    go_wp2_with fail
    go_end0
    exact ⟨Or.inl ⟨_, F.out, rfl, HB.out⟩, Only.refl b w⟩
  · have em := sz_no z
    have p0 : 0 < s.size := by omega
    have i0 : (0 : Int) < (s.size : Int) := by omega
    have hd := head_of p0
    have FF : readF 5 s o = (sigR s.data.toList).map fun n => { o with sg := n } := by show (if s.size = 0 then _ else _) = _; rw [if_neg z]
    have NR := Lib.hid (fun w => numr_any s 1 11 w hs (by omega))
    by_cases h48 : (s[0]'p0) = 48
    · have c10 : (((s[0]'p0).toNat : Int) != 48) = false := by rw [h48]; rfl
      have F := Lib.hid (show readF 5 s o = none by rw [FF]; unfold sigR; rw [hd, h48, if_pos rfl]; rfl)
      clear FF hd h48 NR
      go_enter Tryz.func78, Tryz.ntmps78
      go_wp2_with fail
      refine (need_no _).mono ?_
      rintro e w2 ⟨rfl, rfl⟩
      exact ⟨rfl, Or.inr ⟨F.out, rfl⟩, Only.refl b w⟩
    · have c10 : (((s[0]'p0).toNat : Int) != 48) = true := by
        rw [bne, beq_eq_false_iff_ne.2]
        · rfl
        · intro e
          have e2 : (s[0]'p0).toNat = (48 : UInt8).toNat := by have e3 : (48 : UInt8).toNat = 48 := rfl; rw [e3]; exact Int.ofNat.inj e
          exact h48 (UInt8.toNat.inj e2)
      have F := Lib.hid (show readF 5 s o = (numR s.data.toList 1 11).map fun n => { o with sg := n } by rw [FF]; unfold sigR; rw [hd, if_neg (fun e => h48 (Option.some.inj e))])
      clear FF hd h48
      go_enter Tryz.func78, Tryz.ntmps78
      go_wp2_with fail
      refine (need_yes _).mono ?_
      rintro e w2 ⟨rfl, rfl⟩
      go_wp2_with fail
      refine (NR.out _).mono ?_
      rintro e w1 ⟨h, hb1⟩
      have R1 := Lib.hid (HB.out.call hb1)
      have O1 := Lib.hid (show Only b w w1 from Only.of (Nat.le_of_lt HB.out.lt) hb1)
      clear NR HB hb1
      rcases h with ⟨n, h, n0, n1, rfl⟩ | ⟨h, rfl⟩
      · have F2 := Lib.hid (show readF 5 s o = some { o with sg := n } by rw [F.out, h]; rfl)
        have c := R1.out.cell (j := 5) (v := .int .i64 o.sg) rfl
        have f := R1.out.free (j := 5) (by show 5 < 8; decide)
        have P := Lib.hid (R1.out.put 5 (.int .i64 n) { o with sg := n } (by decide) rfl)
        clear h R1 F
        go_wp2_with fail
        go_end0
        exact ⟨Or.inl ⟨_, F2.out, rfl, P.out⟩, O1.out.trans (Only.set b 5 _ w1)⟩
      · have F2 := Lib.hid (show readF 5 s o = none by rw [F.out, h]; rfl)
        exact ⟨rfl, Or.inr ⟨F2.out, rfl⟩, O1.out⟩
theorem bt_0 {s : ByteArray} (h : 0 < s.size) : bt s 0 = ((s[0]'h).toNat : Int) := bt_of s 0 h
set_option maxHeartbeats 2000000 in
theorem rd7_any (s : ByteArray) (b : Nat) (o : Ob) (w : World) (hb : Rw w b (obsC o)) (hs : s.size ≤ maxLen) :
    Calls Tryz.prog 80 #[.pointer (some ⟨b, 0, none⟩), .string s] w (RdrPost 7 s b o w) := by
  have HB := Lib.hid hb
  clear hb
  by_cases z : s.size = 0
  · have em := sz_yes z
    have F := Lib.hid (show readF 7 s o = some o by show (if s.size = 0 then _ else _) = _; rw [if_pos z])
    go_enter Tryz.func80, Tryz.ntmps80
    go_wp2_with fail
    go_end0
    exact ⟨Or.inl ⟨_, F.out, rfl, HB.out⟩, Only.refl b w⟩
  · have em := sz_no z
    have p0 : 0 < s.size := by omega
    have i0 : (0 : Int) < (s.size : Int) := by omega
    have FF : readF 7 s o = if s.size = 1 then some { o with band := bt s 0 } else none := by show (if s.size = 0 then _ else _) = _; rw [if_neg z]
    by_cases z1 : s.size = 1
    · have c1 : ((s.size : Int) == 1) = true := by rw [z1]; rfl
      have e0 := bt_0 p0
      have F := Lib.hid (show readF 7 s o = some { o with band := bt s 0 } by rw [FF, if_pos z1])
      rw [e0] at F
      have c := HB.out.cell (j := 7) (v := .int .u8 o.band) rfl
      have f := HB.out.free (j := 7) (by show 7 < 8; decide)
      have P := Lib.hid (HB.out.put 7 (.int .u8 ((s[0]'p0).toNat : Int)) { o with band := ((s[0]'p0).toNat : Int) } (by decide) rfl)
      clear FF e0 z1 HB
      go_enter Tryz.func80, Tryz.ntmps80
      go_wp2_with fail
      refine (need_yes _).mono ?_
      rintro e w2 ⟨rfl, rfl⟩
      go_wp2_with fail
      go_end0
      exact ⟨Or.inl ⟨_, F.out, rfl, P.out⟩, Only.set b 7 _ w⟩
    · have c1 : ((s.size : Int) == 1) = false := beq_eq_false_iff_ne.2 (by omega)
      have F := Lib.hid (show readF 7 s o = none by rw [FF, if_neg z1])
      clear FF
      go_enter Tryz.func80, Tryz.ntmps80
      go_wp2_with fail
      refine (need_no _).mono ?_
      rintro e w2 ⟨rfl, rfl⟩
      exact ⟨rfl, Or.inr ⟨F.out, rfl⟩, Only.refl b w⟩
end Vw
end Go.Proofs.YtaghilgfldaaiaaGreatDoor
/-
  The reader of a magnitude of psv.
-/
namespace Go.Proofs.YtaghilgfldaaiaaGreatDoor
namespace Vw
open Go.RowKit Lw Go.Proofs.YtaghilgfldaaiaaGreatDoor.Ap Go.Proofs.YtaghilgfldaaiaaGreatDoor.Vp Go.Proofs.YtaghilgfldaaiaaGreatDoor.Op Go.Proofs.YtaghilgfldaaiaaGreatDoor.Ow

theorem pre_minus (l : List UInt8) : Lib.hasPrefix l [45] = (l.head? == some 45) ∧ Lib.trimPrefix l [45] = if (l.head? == some 45) then l.tail else l := by
  cases l with
  | nil => exact ⟨rfl, rfl⟩
  | cons a l =>
    have e1 : Lib.hasPrefix (a :: l) [45] = ((a :: l).head? == some 45) := by
      unfold Lib.hasPrefix
      simp only [List.isPrefixOf, Bool.and_true, List.head?_cons]
      by_cases h : a = 45
      · subst h; rfl
      · rw [show ((45 : UInt8) == a) = false from beq_eq_false_iff_ne.2 (fun e => h e.symm)]
        exact (beq_eq_false_iff_ne.2 (fun e => h (Option.some.inj e))).symm
    refine ⟨e1, ?_⟩
    unfold Lib.trimPrefix
    rw [e1]
    rfl
set_option maxRecDepth 100000 in
set_option maxHeartbeats 8000000 in
theorem rd6_any (s : ByteArray) (b : Nat) (o : Ob) (w : World) (hb : Rw w b (obsC o)) (hM : MX w) (hs : s.size ≤ 100000) :
    Calls Tryz.prog 79 #[.pointer (some ⟨b, 0, none⟩), .string s] w (RdrPost 6 s b o w) := by
  have HB := Lib.hid hb
  obtain ⟨_, m, hm⟩ := hM
  clear hb
  by_cases z : s.size = 0
  · have em := sz_yes z
    have F := Lib.hid (show readF 6 s o = some o by show (if s.size = 0 then _ else _) = _; rw [if_pos z])
    clear hm
    go_enter Tryz.func79, Tryz.ntmps79
    go_wp2_with fail
    first
      | (go_end0; exact ⟨Or.inl ⟨_, F.out, rfl, HB.out⟩, Only.refl b w⟩)
      | (refine bodyPost_ret (results_none rfl _ _ _) rfl ?_; exact ⟨Or.inl ⟨_, F.out, rfl, HB.out⟩, Only.refl b w⟩)
  have em := sz_no z
  have FF : readF 6 s o = (magR s.data.toList).map fun n => { o with mag := n } := by show (if s.size = 0 then _ else _) = _; rw [if_neg z]
  obtain ⟨p1, p2⟩ := pre_minus s.data.toList
  have CP := Lib.hid (fun w => Tryz.strings_CutPrefix s ⟨#[45]⟩ w)
  have e45 : (⟨#[45]⟩ : ByteArray).data.toList = [45] := rfl
  rw [e45, p1, p2] at CP
  unfold magR at FF
  obtain ⟨mn, hmn⟩ : ∃ mn, (s.data.toList.head? == some 45) = mn := ⟨_, rfl⟩
  rw [hmn] at CP FF
  obtain ⟨R, hR⟩ : ∃ R, (if mn = true then s.data.toList.tail else s.data.toList) = R := ⟨_, rfl⟩
  have lR : R.length ≤ s.size := by
    have zl : s.data.toList.length = s.size := rfl
    rw [← hR]
    cases mn
    · exact Nat.le_of_eq zl
    · simp only [if_true, List.length_tail]; omega
  rw [hR] at CP FF
  have CU := Lib.hid (Tryz.strings_Cut ⟨R.toArray⟩ ⟨#[46]⟩ m w (by rw [show (⟨R.toArray⟩ : ByteArray).size = R.length by simp [ByteArray.size]]; omega) hm)
  have e46 : (⟨#[46]⟩ : ByteArray).data.toList = [46] := rfl
  have eR : (⟨R.toArray⟩ : ByteArray).data.toList = R := rfl
  rw [e46, eR] at CU
  have lc : (Lib.cut R [46]).1.length ≤ R.length ∧ (Lib.cut R [46]).2.1.length ≤ R.length := by
    unfold Lib.cut
    split
    · exact ⟨by simp only [List.length_take]; omega, by simp only [List.length_drop]; omega⟩
    · exact ⟨Nat.le_refl _, by simp⟩
  generalize Lib.cut R [46] = C at *
  obtain ⟨F, G, pt⟩ := C
  unfold magC at FF
  try simp only at FF
  try simp only at CU
  try simp only at lc
  have N1 := Lib.hid (fun w => numr_any ⟨F.toArray⟩ 1 2 w (by rw [show (⟨F.toArray⟩ : ByteArray).size = F.length by simp [ByteArray.size]]; unfold maxLen; omega) (by omega))
  have N2 := Lib.hid (fun w => numr_any ⟨G.toArray⟩ 1 2 w (by rw [show (⟨G.toArray⟩ : ByteArray).size = G.length by simp [ByteArray.size]]; unfold maxLen; omega) (by omega))
  have eG : (⟨G.toArray⟩ : ByteArray).size = G.length := by simp [ByteArray.size]
  have EF : (⟨F.toArray⟩ : ByteArray).data.toList = F := rfl
  have EG : (⟨G.toArray⟩ : ByteArray).data.toList = G := rfl
  have H1 := Lib.hid EF
  have H2 := Lib.hid EG
  have FQ := Lib.hid FF
  clear FF hR hmn p1 p2 e45 e46 eR lR hm EF EG z lc
  obtain ⟨SR, hSR⟩ : ∃ SR : ByteArray, ⟨R.toArray⟩ = SR := ⟨_, rfl⟩
  obtain ⟨SF, hSF⟩ : ∃ SF : ByteArray, ⟨F.toArray⟩ = SF := ⟨_, rfl⟩
  obtain ⟨SG, hSG⟩ : ∃ SG : ByteArray, ⟨G.toArray⟩ = SG := ⟨_, rfl⟩
  rw [hSR] at CP CU
  rw [hSF] at CU N1 H1
  rw [hSG] at CU N2 H2 eG
  clear hSR hSF hSG
  go_enter Tryz.func79, Tryz.ntmps79
  go_wp2_with fail
  refine (CP.out _).mono ?_
  rintro e w1 ⟨rfl, rfl⟩
  clear CP
  go_wp2_with fail
  refine CU.out.mono ?_
  rintro e w2 ⟨rfl, n, rfl⟩
  have B2 := Lib.hid (drewN_below2 (Below.refl w1.heap.size w1) n)
  have R2 := Lib.hid (HB.out.call B2.out)
  have O2 := Lib.hid (show Only b w1 (w1.drewN n) from Only.of (Nat.le_of_lt HB.out.lt) B2.out)
  clear CU HB B2
  generalize w1.drewN n = w2 at *
  go_wp2_with fail
  refine (N1.out _).mono ?_
  rintro e w3 ⟨h, hb3⟩
  have R3 := Lib.hid (R2.out.call hb3)
  have O3 := Lib.hid (O2.out.trans (Only.of (Nat.le_of_lt R2.out.lt) hb3))
  clear N1 R2 O2 hb3
  rw [H1.out] at h
  rcases h with ⟨a, h, a0, a1, rfl⟩ | ⟨h, rfl⟩
  · replace FQ := Lib.hid (show readF 6 s o = ((if pt = true then (numR G 1 2).map fun k => 100 * a + (if G.length = 1 then 10 * k else k) else some (100 * a)).bind fun n => if n ≤ 3000 ∧ (0 < n ∨ mn = false) then some (if mn = true then -n else n) else none).map fun n => { o with mag := n } from by rw [FQ.out, h]; rfl)
    clear h
    cases pt
    · replace FQ := Lib.hid (show readF 6 s o = (if 100 * a ≤ 3000 ∧ (0 < 100 * a ∨ mn = false) then some (if mn = true then -(100 * a) else 100 * a) else none).map fun n => { o with mag := n } from FQ.out)
      clear N2
      go_upto_region 9 with fail
      obtain ⟨N, hN⟩ : ∃ N, 100 * a = N := ⟨_, rfl⟩
      rw [hN] at FQ
      try rw [hN]
      have NB : -100000000000000 ≤ N ∧ N ≤ 100000000000000 := by omega
      clear hN a0 a1
      by_cases z1 : N ≤ 3000
      · by_cases z2 : 0 < N
        · have d2 : decide (0 < N) = true := decide_eq_true z2
          cases mn
          · have NN : N ≤ 3000 ∧ (0 < N ∨ false = false) := ⟨z1, Or.inl z2⟩
            have F2 := Lib.hid (show readF 6 s o = some { o with mag := N } from by rw [FQ.out, if_pos NN]; rfl)
            have c := R3.out.cell (j := 6) (v := .int .i64 o.mag) rfl
            have f := R3.out.free (j := 6) (by show 6 < 8; decide)
            have P := Lib.hid (R3.out.put 6 (.int .i64 (N)) { o with mag := N } (by decide) rfl)
            clear FQ NN R3
            go_wp2_with fail
            refine (need_yes _).mono ?_
            rintro e w5 ⟨rfl, rfl⟩
            go_wp2_with fail
            go_end0
            exact ⟨Or.inl ⟨_, F2.out, rfl, P.out⟩, O3.out.trans (Only.set b 6 _ w3)⟩
          · have NN : N ≤ 3000 ∧ (0 < N ∨ true = false) := ⟨z1, Or.inl z2⟩
            have F2 := Lib.hid (show readF 6 s o = some { o with mag := -N } from by rw [FQ.out, if_pos NN]; rfl)
            have c := R3.out.cell (j := 6) (v := .int .i64 o.mag) rfl
            have f := R3.out.free (j := 6) (by show 6 < 8; decide)
            have P := Lib.hid (R3.out.put 6 (.int .i64 (-N)) { o with mag := -N } (by decide) rfl)
            clear FQ NN R3
            go_wp2_with fail
            refine (need_yes _).mono ?_
            rintro e w5 ⟨rfl, rfl⟩
            go_wp2_with fail
            go_end0
            exact ⟨Or.inl ⟨_, F2.out, rfl, P.out⟩, O3.out.trans (Only.set b 6 _ w3)⟩
        · have d2 : decide (0 < N) = false := decide_eq_false z2
          cases mn
          · have NN : N ≤ 3000 ∧ (0 < N ∨ false = false) := ⟨z1, Or.inr rfl⟩
            have F2 := Lib.hid (show readF 6 s o = some { o with mag := N } from by rw [FQ.out, if_pos NN]; rfl)
            have c := R3.out.cell (j := 6) (v := .int .i64 o.mag) rfl
            have f := R3.out.free (j := 6) (by show 6 < 8; decide)
            have P := Lib.hid (R3.out.put 6 (.int .i64 (N)) { o with mag := N } (by decide) rfl)
            clear FQ NN R3
            go_wp2_with fail
            refine (need_yes _).mono ?_
            rintro e w5 ⟨rfl, rfl⟩
            go_wp2_with fail
            go_end0
            exact ⟨Or.inl ⟨_, F2.out, rfl, P.out⟩, O3.out.trans (Only.set b 6 _ w3)⟩
          · have NN : ¬ (N ≤ 3000 ∧ (0 < N ∨ true = false)) := fun h => h.2.elim z2 (fun h => by cases h)
            have F2 := Lib.hid (show readF 6 s o = none from by rw [FQ.out, if_neg NN]; rfl)
            clear FQ NN R3
            go_wp2_with fail
            refine (need_no _).mono ?_
            rintro e w5 ⟨rfl, rfl⟩
            exact ⟨rfl, Or.inr ⟨F2.out, rfl⟩, O3.out⟩
      · have NN : ¬ (N ≤ 3000 ∧ (0 < N ∨ mn = false)) := fun h => z1 h.1
        have F2 := Lib.hid (show readF 6 s o = none from by rw [FQ.out, if_neg NN]; rfl)
        clear FQ NN R3
        go_wp2_with fail
        refine (need_no _).mono ?_
        rintro e w5 ⟨rfl, rfl⟩
        exact ⟨rfl, Or.inr ⟨F2.out, rfl⟩, O3.out⟩
    · go_wp2_with fail
      refine (N2.out _).mono ?_
      rintro e w4 ⟨h, hb4⟩
      have R4 := Lib.hid (R3.out.call hb4)
      have O4 := Lib.hid (O3.out.trans (Only.of (Nat.le_of_lt R3.out.lt) hb4))
      clear N2 R3 O3 hb4
      rw [H2.out] at h
      rcases h with ⟨k, h, k0, k1, rfl⟩ | ⟨h, rfl⟩
      · have R3 := R4
        have O3 := O4
        clear R4 O4
        by_cases l1 : G.length = 1
        · replace FQ := Lib.hid (show readF 6 s o = (if 100 * a + 10 * k ≤ 3000 ∧ (0 < 100 * a + 10 * k ∨ mn = false) then some (if mn = true then -(100 * a + 10 * k) else 100 * a + 10 * k) else none).map fun n => { o with mag := n } from by rw [FQ.out, h, l1]; rfl)
          have c1 : ((SG.size : Int) == 1) = true := by rw [eG, l1]; rfl
          clear h l1 eG
          go_upto_region 9 with fail
          have ek : k * 10 = 10 * k := Int.mul_comm _ _
          try rw [ek]
          obtain ⟨N, hN⟩ : ∃ N, 100 * a + 10 * k = N := ⟨_, rfl⟩
          rw [hN] at FQ
          try rw [hN]
          have NB : -100000000000000 ≤ N ∧ N ≤ 100000000000000 := by omega
          clear hN a0 a1 k0 k1
          by_cases z1 : N ≤ 3000
          · by_cases z2 : 0 < N
            · have d2 : decide (0 < N) = true := decide_eq_true z2
              cases mn
              · have NN : N ≤ 3000 ∧ (0 < N ∨ false = false) := ⟨z1, Or.inl z2⟩
                have F2 := Lib.hid (show readF 6 s o = some { o with mag := N } from by rw [FQ.out, if_pos NN]; rfl)
                have c := R3.out.cell (j := 6) (v := .int .i64 o.mag) rfl
                have f := R3.out.free (j := 6) (by show 6 < 8; decide)
                have P := Lib.hid (R3.out.put 6 (.int .i64 (N)) { o with mag := N } (by decide) rfl)
                clear FQ NN R3
                go_wp2_with fail
                refine (need_yes _).mono ?_
                rintro e w5 ⟨rfl, rfl⟩
                go_wp2_with fail
                go_end0
                exact ⟨Or.inl ⟨_, F2.out, rfl, P.out⟩, O3.out.trans (Only.set b 6 _ w4)⟩
              · have NN : N ≤ 3000 ∧ (0 < N ∨ true = false) := ⟨z1, Or.inl z2⟩
                have F2 := Lib.hid (show readF 6 s o = some { o with mag := -N } from by rw [FQ.out, if_pos NN]; rfl)
                have c := R3.out.cell (j := 6) (v := .int .i64 o.mag) rfl
                have f := R3.out.free (j := 6) (by show 6 < 8; decide)
                have P := Lib.hid (R3.out.put 6 (.int .i64 (-N)) { o with mag := -N } (by decide) rfl)
                clear FQ NN R3
                go_wp2_with fail
                refine (need_yes _).mono ?_
                rintro e w5 ⟨rfl, rfl⟩
                go_wp2_with fail
                go_end0
                exact ⟨Or.inl ⟨_, F2.out, rfl, P.out⟩, O3.out.trans (Only.set b 6 _ w4)⟩
            · have d2 : decide (0 < N) = false := decide_eq_false z2
              cases mn
              · have NN : N ≤ 3000 ∧ (0 < N ∨ false = false) := ⟨z1, Or.inr rfl⟩
                have F2 := Lib.hid (show readF 6 s o = some { o with mag := N } from by rw [FQ.out, if_pos NN]; rfl)
                have c := R3.out.cell (j := 6) (v := .int .i64 o.mag) rfl
                have f := R3.out.free (j := 6) (by show 6 < 8; decide)
                have P := Lib.hid (R3.out.put 6 (.int .i64 (N)) { o with mag := N } (by decide) rfl)
                clear FQ NN R3
                go_wp2_with fail
                refine (need_yes _).mono ?_
                rintro e w5 ⟨rfl, rfl⟩
                go_wp2_with fail
                go_end0
                exact ⟨Or.inl ⟨_, F2.out, rfl, P.out⟩, O3.out.trans (Only.set b 6 _ w4)⟩
              · have NN : ¬ (N ≤ 3000 ∧ (0 < N ∨ true = false)) := fun h => h.2.elim z2 (fun h => by cases h)
                have F2 := Lib.hid (show readF 6 s o = none from by rw [FQ.out, if_neg NN]; rfl)
                clear FQ NN R3
                go_wp2_with fail
                refine (need_no _).mono ?_
                rintro e w5 ⟨rfl, rfl⟩
                exact ⟨rfl, Or.inr ⟨F2.out, rfl⟩, O3.out⟩
          · have NN : ¬ (N ≤ 3000 ∧ (0 < N ∨ mn = false)) := fun h => z1 h.1
            have F2 := Lib.hid (show readF 6 s o = none from by rw [FQ.out, if_neg NN]; rfl)
            clear FQ NN R3
            go_wp2_with fail
            refine (need_no _).mono ?_
            rintro e w5 ⟨rfl, rfl⟩
            exact ⟨rfl, Or.inr ⟨F2.out, rfl⟩, O3.out⟩
        · replace FQ := Lib.hid (show readF 6 s o = (if 100 * a + k ≤ 3000 ∧ (0 < 100 * a + k ∨ mn = false) then some (if mn = true then -(100 * a + k) else 100 * a + k) else none).map fun n => { o with mag := n } from by rw [FQ.out, h]; simp only [if_true, Option.map_some, if_neg l1]; rfl)
          have c1 : ((SG.size : Int) == 1) = false := beq_eq_false_iff_ne.2 (by omega)
          clear h l1 eG
          go_upto_region 9 with fail
          obtain ⟨N, hN⟩ : ∃ N, 100 * a + k = N := ⟨_, rfl⟩
          rw [hN] at FQ
          try rw [hN]
          have NB : -100000000000000 ≤ N ∧ N ≤ 100000000000000 := by omega
          clear hN a0 a1 k0 k1
          by_cases z1 : N ≤ 3000
          · by_cases z2 : 0 < N
            · have d2 : decide (0 < N) = true := decide_eq_true z2
              cases mn
              · have NN : N ≤ 3000 ∧ (0 < N ∨ false = false) := ⟨z1, Or.inl z2⟩
                have F2 := Lib.hid (show readF 6 s o = some { o with mag := N } from by rw [FQ.out, if_pos NN]; rfl)
                have c := R3.out.cell (j := 6) (v := .int .i64 o.mag) rfl
                have f := R3.out.free (j := 6) (by show 6 < 8; decide)
                have P := Lib.hid (R3.out.put 6 (.int .i64 (N)) { o with mag := N } (by decide) rfl)
                clear FQ NN R3
                go_wp2_with fail
                refine (need_yes _).mono ?_
                rintro e w5 ⟨rfl, rfl⟩
                go_wp2_with fail
                go_end0
                exact ⟨Or.inl ⟨_, F2.out, rfl, P.out⟩, O3.out.trans (Only.set b 6 _ w4)⟩
              · have NN : N ≤ 3000 ∧ (0 < N ∨ true = false) := ⟨z1, Or.inl z2⟩
                have F2 := Lib.hid (show readF 6 s o = some { o with mag := -N } from by rw [FQ.out, if_pos NN]; rfl)
                have c := R3.out.cell (j := 6) (v := .int .i64 o.mag) rfl
                have f := R3.out.free (j := 6) (by show 6 < 8; decide)
                have P := Lib.hid (R3.out.put 6 (.int .i64 (-N)) { o with mag := -N } (by decide) rfl)
                clear FQ NN R3
                go_wp2_with fail
                refine (need_yes _).mono ?_
                rintro e w5 ⟨rfl, rfl⟩
                go_wp2_with fail
                go_end0
                exact ⟨Or.inl ⟨_, F2.out, rfl, P.out⟩, O3.out.trans (Only.set b 6 _ w4)⟩
            · have d2 : decide (0 < N) = false := decide_eq_false z2
              cases mn
              · have NN : N ≤ 3000 ∧ (0 < N ∨ false = false) := ⟨z1, Or.inr rfl⟩
                have F2 := Lib.hid (show readF 6 s o = some { o with mag := N } from by rw [FQ.out, if_pos NN]; rfl)
                have c := R3.out.cell (j := 6) (v := .int .i64 o.mag) rfl
                have f := R3.out.free (j := 6) (by show 6 < 8; decide)
                have P := Lib.hid (R3.out.put 6 (.int .i64 (N)) { o with mag := N } (by decide) rfl)
                clear FQ NN R3
                go_wp2_with fail
                refine (need_yes _).mono ?_
                rintro e w5 ⟨rfl, rfl⟩
                go_wp2_with fail
                go_end0
                exact ⟨Or.inl ⟨_, F2.out, rfl, P.out⟩, O3.out.trans (Only.set b 6 _ w4)⟩
              · have NN : ¬ (N ≤ 3000 ∧ (0 < N ∨ true = false)) := fun h => h.2.elim z2 (fun h => by cases h)
                have F2 := Lib.hid (show readF 6 s o = none from by rw [FQ.out, if_neg NN]; rfl)
                clear FQ NN R3
                go_wp2_with fail
                refine (need_no _).mono ?_
                rintro e w5 ⟨rfl, rfl⟩
                exact ⟨rfl, Or.inr ⟨F2.out, rfl⟩, O3.out⟩
          · have NN : ¬ (N ≤ 3000 ∧ (0 < N ∨ mn = false)) := fun h => z1 h.1
            have F2 := Lib.hid (show readF 6 s o = none from by rw [FQ.out, if_neg NN]; rfl)
            clear FQ NN R3
            go_wp2_with fail
            refine (need_no _).mono ?_
            rintro e w5 ⟨rfl, rfl⟩
            exact ⟨rfl, Or.inr ⟨F2.out, rfl⟩, O3.out⟩
      · have F2 := Lib.hid (show readF 6 s o = none from by rw [FQ.out, h]; rfl)
        exact ⟨rfl, Or.inr ⟨F2.out, rfl⟩, O4.out⟩
  · have F2 := Lib.hid (show readF 6 s o = none from by rw [FQ.out, h]; rfl)
    exact ⟨rfl, Or.inr ⟨F2.out, rfl⟩, O3.out⟩
end Vw
end Go.Proofs.YtaghilgfldaaiaaGreatDoor
/-
  Rows of a table: the walk of row of psv.
-/
namespace Go.Proofs.YtaghilgfldaaiaaGreatDoor
namespace Vw
open Go.RowKit Lw Go.Proofs.YtaghilgfldaaiaaGreatDoor.Ap Go.Proofs.YtaghilgfldaaiaaGreatDoor.Vp Go.Proofs.YtaghilgfldaaiaaGreatDoor.Op Go.Proofs.YtaghilgfldaaiaaGreatDoor.Ow

/-- Strings, one behind another; numbers, one behind another. -/
def StA (w : World) (x : Option Addr) (l : List ByteArray) : Prop := l = [] ∨ ∃ b off, x = some ⟨b, off, none⟩ ∧ b < w.heap.size ∧ ∀ i (h : i < l.length), w.cell? ⟨b, off + i, none⟩ = some (.string (l[i]'h))
theorem StA.below {w w' : World} {x : Option Addr} {l : List ByteArray} (h : StA w x l) (hb : Below w.heap.size w w') : StA w' x l := by
  rcases h with h | ⟨b, off, h1, h2, h3⟩
  · exact Or.inl h
  · exact Or.inr ⟨b, off, h1, Nat.lt_of_lt_of_le h2 hb.size, fun i hi => (hb.cell (p := ⟨b, off + i, none⟩) h2).trans (h3 i hi)⟩
theorem StA.get {w : World} {x : Option Addr} {l : List ByteArray} (h : StA w x l) {k : Nat} (hk : k < l.length) : ∃ b off, x = some ⟨b, off, none⟩ ∧ b < w.heap.size ∧ w.cell? ⟨b, off + k, none⟩ = some (.string (l[k]'hk)) := by
  rcases h with rfl | ⟨b, off, h1, h2, h3⟩
  · exact absurd hk (Nat.not_lt_zero k)
  · exact ⟨b, off, h1, h2, h3 k hk⟩
def InA (w : World) (x : Option Addr) (l : List Nat) : Prop := l = [] ∨ ∃ b off, x = some ⟨b, off, none⟩ ∧ b < w.heap.size ∧ ∀ i (h : i < l.length), w.cell? ⟨b, off + i, none⟩ = some (.int .i64 ((l[i]'h : Nat) : Int))
theorem InA.below {w w' : World} {x : Option Addr} {l : List Nat} (h : InA w x l) (hb : Below w.heap.size w w') : InA w' x l := by
  rcases h with h | ⟨b, off, h1, h2, h3⟩
  · exact Or.inl h
  · exact Or.inr ⟨b, off, h1, Nat.lt_of_lt_of_le h2 hb.size, fun i hi => (hb.cell (p := ⟨b, off + i, none⟩) h2).trans (h3 i hi)⟩
theorem InA.get {w : World} {x : Option Addr} {l : List Nat} (h : InA w x l) {k : Nat} (hk : k < l.length) : ∃ b off, x = some ⟨b, off, none⟩ ∧ b < w.heap.size ∧ w.cell? ⟨b, off + k, none⟩ = some (.int .i64 ((l[k]'hk : Nat) : Int)) := by
  rcases h with rfl | ⟨b, off, h1, h2, h3⟩
  · exact absurd hk (Nat.not_lt_zero k)
  · exact ⟨b, off, h1, h2, h3 k hk⟩
/-- A field without spaces at its ends. -/
def trimS (s : ByteArray) : ByteArray := stL (Lib.trimB s.data.toList 32)
def fnV (b : Nat) : List Value := [.func (.func 73) #[.pointer (some ⟨b, 0, none⟩)] #[], .func (.func 74) #[.pointer (some ⟨b, 0, none⟩)] #[], .func (.func 75) #[.pointer (some ⟨b, 0, none⟩)] #[], .func (.func 76) #[.pointer (some ⟨b, 0, none⟩)] #[], .func (.func 77) #[.pointer (some ⟨b, 0, none⟩)] #[], .func (.func 78) #[.pointer (some ⟨b, 0, none⟩)] #[], .func (.func 79) #[.pointer (some ⟨b, 0, none⟩)] #[], .func (.func 80) #[.pointer (some ⟨b, 0, none⟩)] #[]]
/-- What row keeps: the result's box, the reader's, and the readers. -/
structure RX (w0 : World) (o : Ob) (w : World) : Prop where
  res : Rw w w0.heap.size (obsC zeroO)
  rd : Rw w (w0.heap.size + 1) (obsC o)
  fn : Rw w (w0.heap.size + 2) (fnV (w0.heap.size + 1))
  below : Below w0.heap.size w0 w
theorem RX.call {w0 w w' : World} {o : Ob} (h : RX w0 o w) (hb : Below w.heap.size w w') : RX w0 o w' := ⟨h.res.call hb, h.rd.call hb, h.fn.call hb, below_then h.below hb⟩
theorem RX.read {w0 w w' : World} {o o' : Ob} (h : RX w0 o w) (hr : Rw w' (w0.heap.size + 1) (obsC o')) (ho : Only (w0.heap.size + 1) w w') : RX w0 o' w' :=
  ⟨h.res.only ho (by omega), hr, h.fn.only ho (by omega), h.below.trans (ho.below.mono (Nat.le_succ _))⟩
/-- What the readers find first. -/
structure VW (w : World) : Prop where
  mx : MX w
theorem VW.below {w w' : World} (h : VW w) (hb : Below w.heap.size w w') : VW w' := ⟨h.mx.below hb⟩
end Vw
end Go.Proofs.YtaghilgfldaaiaaGreatDoor
/-
  The walk of row of psv.
-/
namespace Go.Proofs.YtaghilgfldaaiaaGreatDoor
namespace Vw
open Go.RowKit Lw Go.Proofs.YtaghilgfldaaiaaGreatDoor.Ap Go.Proofs.YtaghilgfldaaiaaGreatDoor.Vp Go.Proofs.YtaghilgfldaaiaaGreatDoor.Op Go.Proofs.YtaghilgfldaaiaaGreatDoor.Ow Go.Proofs.YtaghilgfldaaiaaGreatDoor.At Go.Proofs.YtaghilgfldaaiaaGreatDoor.Mp

theorem foldR_app (a b : List (Nat × ByteArray)) (o : Ob) : foldR (a ++ b) o = (foldR a o).bind (foldR b) := by
  unfold foldR
  rw [List.foldl_append]
  cases List.foldl (fun x p => x.bind (readF p.1 p.2)) (some o) a with
  | none => exact foldl_none b
  | some o' => rfl
theorem foldR_bad {l : List (Nat × ByteArray)} {k : Nat} (hk : k < l.length) {o o' : Ob} (h : foldR (l.take k) o = some o') (n : readF (l[k]'hk).1 (l[k]'hk).2 o' = none) : foldR l o = none := by
  have e : l = l.take k ++ (l[k]'hk :: l.drop (k + 1)) := by rw [← List.drop_eq_getElem_cons hk, List.take_append_drop]
  rw [e, foldR_app, h]
  show foldR _ o' = none
  rw [foldR_cons, n]
  rfl
theorem foldR_next {l : List (Nat × ByteArray)} {k : Nat} (hk : k < l.length) {o o' o2 : Ob} (h : foldR (l.take k) o = some o') (n : readF (l[k]'hk).1 (l[k]'hk).2 o' = some o2) : foldR (l.take (k + 1)) o = some o2 := by
  have e : l.take (k + 1) = l.take k ++ [l[k]'hk] := by simp
  rw [e, foldR_snoc, h]
  exact n
/-- The bounds of an observation that is read. -/
theorem read_ob {k : Nat} {s : ByteArray} {o o' : Ob} (h : readF k s o = some o') (hb : OB o) (hs : s.size ≤ maxLen) : OB o' := by
  unfold readF at h
  split at h
  · cases h; exact ⟨hb.t0, hb.t1, hb.b0, hb.b1, hs, hb.n2⟩
  split at h
  · cases h; exact ⟨hb.t0, hb.t1, hb.b0, hb.b1, hb.n1, hs⟩
  split at h
  · cases ht : timeR s with
    | none => rw [ht] at h; cases h
    | some t =>
      rw [ht] at h
      cases h
      unfold timeR at ht
      split at ht
      · rename_i ok
        have bd := FromIs.bd (from_k (textV s) ok.2 rfl)
        cases ht
        exact ⟨(show -9223372036854775808 ≤ textV s by omega), (show textV s ≤ 9223372036854775807 by omega), hb.b0, hb.b1, hb.n1, hb.n2⟩
      · cases ht
  split at h
  · cases ht : degR s with
    | none => rw [ht] at h; cases h
    | some a =>
      rw [ht] at h
      have h2 : (if 0 ≤ a then some { o with ra := a % turnI } else none) = some o' := h
      split at h2
      · cases h2; exact ⟨hb.t0, hb.t1, hb.b0, hb.b1, hb.n1, hb.n2⟩
      · cases h2
  split at h
  · cases ht : degR s with
    | none => rw [ht] at h; cases h
    | some a => rw [ht] at h; cases h; exact ⟨hb.t0, hb.t1, hb.b0, hb.b1, hb.n1, hb.n2⟩
  split at h
  · split at h
    · cases h; exact hb
    · cases ht : sigR s.data.toList with
      | none => rw [ht] at h; cases h
      | some a => rw [ht] at h; cases h; exact ⟨hb.t0, hb.t1, hb.b0, hb.b1, hb.n1, hb.n2⟩
  split at h
  · split at h
    · cases h; exact hb
    · cases ht : magR s.data.toList with
      | none => rw [ht] at h; cases h
      | some a => rw [ht] at h; cases h; exact ⟨hb.t0, hb.t1, hb.b0, hb.b1, hb.n1, hb.n2⟩
  · split at h
    · cases h; exact hb
    · split at h
      · rename_i z
        cases h
        have := Gp.byte_bd (s[0]'(by omega))
        have e := bt_0 (s := s) (by omega)
        exact ⟨hb.t0, hb.t1, (show 0 ≤ bt s 0 by rw [e]; omega), (show bt s 0 ≤ 255 by rw [e]; omega), hb.n1, hb.n2⟩
      · cases h
theorem base_ob : OB baseO := ⟨by decide, by decide, by decide, by decide, by decide, by decide⟩
theorem fold_ob : ∀ {l : List (Nat × ByteArray)} {o o' : Ob}, foldR l o = some o' → OB o → (∀ p ∈ l, p.2.size ≤ maxLen) → OB o'
  | [], o, o', h, hb, _ => by cases h; exact hb
  | p :: l, o, o', h, hb, hs => by
    rw [foldR_cons] at h
    cases hr : readF p.1 p.2 o with
    | none => rw [hr] at h; cases h
    | some o2 =>
      rw [hr] at h
      exact fold_ob h (read_ob hr hb (hs p (List.mem_cons_self ..))) (fun q hq => hs q (List.mem_cons_of_mem _ hq))
/-- The cell that is read, and the boxes. -/
structure CS (w0 : World) (b j : Nat) (s : ByteArray) (o : Ob) (w : World) : Prop where
  rx : RX w0 o w
  cell : w.cell? ⟨b, j, none⟩ = some (.string s) ∧ b < w0.heap.size ∧ b < w.heap.size
theorem CS.call {w0 w w' : World} {b j : Nat} {s : ByteArray} {o : Ob} (h : CS w0 b j s o w) (hb : Below w.heap.size w w') : CS w0 b j s o w' := ⟨h.rx.call hb, (hb.cell (p := ⟨b, j, none⟩) h.cell.2.2).trans h.cell.1, h.cell.2.1, Nat.lt_of_lt_of_le h.cell.2.2 hb.size⟩
theorem CS.cell_only {w0 w w' : World} {b j : Nat} {s : ByteArray} {o : Ob} (h : CS w0 b j s o w) (ho : Only (w0.heap.size + 1) w w') : w'.cell? ⟨b, j, none⟩ = some (.string s) ∧ b < w0.heap.size ∧ b < w'.heap.size := by
  refine ⟨?_, h.cell.2.1, Nat.lt_of_lt_of_le h.cell.2.2 ho.size⟩
  have e := ho.block b h.cell.2.2 (by have := h.cell.2.1; omega)
  have c := h.cell.1
  unfold World.cell? at c ⊢
  rw [e]
  exact c
def RowPost (order : List Nat) (cells : List ByteArray) (w : World) (e : Ending) (w' : World) : Prop :=
  ((∃ o, rowR order (cells.map trimS) = some o ∧ e = .returned (obsV o) ∧ OB o) ∨ (rowR order (cells.map trimS) = none ∧ e = .panicked malP)) ∧ Below w.heap.size w w'
theorem trimB_le (l : List UInt8) (c : UInt8) : (Lib.trimB l c).length ≤ l.length := by
  have d : ∀ l : List UInt8, (l.dropWhile (· == c)).length ≤ l.length := fun l => (List.dropWhile_suffix _).length_le
  unfold Lib.trimB Lib.trimLeftB Lib.trimRightB
  have a := d (l.reverse.dropWhile (· == c)).reverse
  have b := d l.reverse
  rw [List.length_reverse] at a b
  omega
set_option maxRecDepth 100000 in
set_option maxHeartbeats 40000000 in
theorem row_any (xc : Option Addr) (cc : Nat) (cells : List ByteArray) (xo : Option Addr) (co : Nat) (order : List Nat) (w : World) (hM : MX w) (hE : ES w) (hc : StA w xc cells) (ho : InA w xo order)
    (h8 : ∀ k ∈ order, k < 8) (hl : ∀ s ∈ cells, s.size ≤ 100) (z1 : cells.length ≤ 1000000) (z2 : order.length ≤ 1000000) :
    Calls Tryz.prog 37 #[.slice xc cells.length cc, .slice xo order.length co] w (RowPost order cells w) := by
  have HC := Lib.hid (fun w' (h : Below w.heap.size w w') => hc.below h)
  have HO := Lib.hid (fun w' (h : Below w.heap.size w w') => ho.below h)
  have HE := Lib.hid (fun w' (h : Below w.heap.size w w') => hE.below h)
  have HM := Lib.hid (fun w' (h : Below w.heap.size w w') => hM.below h)
  have H8 := Lib.hid (fun i (h : i < order.length) => h8 _ (List.getElem_mem h))
  have HL := Lib.hid (fun i (h : i < cells.length) => hl _ (List.getElem_mem h))
  obtain ⟨n, hn⟩ : ∃ n, order.length = n := ⟨_, rfl⟩
  obtain ⟨m, hm⟩ : ∃ m, cells.length = m := ⟨_, rfl⟩
  have HN := Lib.hid hn
  have HM2 := Lib.hid hm
  rw [hn] at z2 ⊢
  rw [hm] at z1 ⊢
  have hmf : ∀ (fn : Fn) (first cap : Array Value) (w : World), (Instr.makeFunc fn first cap).run Tryz.prog w = .ok (.func fn first cap) w := fun _ _ _ _ => rfl
  have NB : Hid (¬ m = n → rowR order (cells.map trimS) = none) := Lib.hid (fun h => by unfold rowR; rw [if_neg (by rw [List.length_map, hn, hm]; exact fun e => h e.symm)])
  obtain ⟨L, hL⟩ : ∃ L, order.zip (cells.map trimS) = L := ⟨_, rfl⟩
  have EQ : Hid (m = n → rowR order (cells.map trimS) = (foldR L baseO).bind okR) := Lib.hid (fun h => by unfold rowR; rw [if_pos (by rw [List.length_map, hn, hm, h]), hL])
  have LK : Hid (m = n → ∀ k (h1 : k < order.length) (h2 : k < cells.length), ∃ h : k < L.length, L[k]'h = (order[k]'h1, trimS (cells[k]'h2))) := Lib.hid (fun h k h1 h2 => by
    subst hL
    exact ⟨by rw [List.length_zip, List.length_map]; omega, by rw [List.getElem_zip, List.getElem_map]⟩)
  have LL : Hid (m = n → L.length = n) := Lib.hid (fun h => by rw [← hL, List.length_zip, List.length_map, hn, hm, h]; exact Nat.min_self n)
  have LS : Hid (∀ p ∈ L, p.2.size ≤ maxLen) := Lib.hid (fun p hp => by
    rw [← hL] at hp
    obtain ⟨s, hs, e⟩ := List.mem_map.1 (List.of_mem_zip hp).2
    rw [← e]
    have := hl s hs
    have t := trimB_le s.data.toList 32
    have zz : s.data.toList.length = s.size := rfl
    unfold trimS maxLen
    rw [stL_size]
    omega)
  have X0 : Hid (RX w baseO (((w.alloc (.cells (obsC zeroO).toArray 33)).alloc (.cells (obsC baseO).toArray 117)).alloc (.cells (fnV (w.heap.size + 1)).toArray 119))) := Lib.hid (by
    have a1 := (Below.refl w.heap.size w).alloc (Nat.le_refl _) (.cells (obsC zeroO).toArray 33)
    have r1 := Rw.new w (obsC zeroO) 33
    have e1 : (w.alloc (.cells (obsC zeroO).toArray 33)).heap.size = w.heap.size + 1 := by simp
    generalize w.alloc (.cells (obsC zeroO).toArray 33) = v1 at *
    have a2 := (Below.refl v1.heap.size v1).alloc (Nat.le_refl _) (.cells (obsC baseO).toArray 117)
    have r2 := Rw.new v1 (obsC baseO) 117
    have e2 : (v1.alloc (.cells (obsC baseO).toArray 117)).heap.size = v1.heap.size + 1 := by simp
    generalize v1.alloc (.cells (obsC baseO).toArray 117) = v2 at *
    have a3 := (Below.refl v2.heap.size v2).alloc (Nat.le_refl _) (.cells (fnV (w.heap.size + 1)).toArray 119)
    have r3 := Rw.new v2 (fnV (w.heap.size + 1)) 119
    rw [e2, e1] at r3
    rw [e1] at r2
    exact ⟨(r1.call a2).call a3, r2.call a3, r3, below_then (below_then a1 a2) a3⟩)
  clear hc ho hE hM h8 hl hn hm hL
  go_enter Tryz.func37, Tryz.ntmps37
  go_upto_region 3 with (refine wpList_store_new_at rfl _ (.tmp 6) (.tmp 28) rfl _ (fnV (w.heap.size + 1)).toArray _ ?_ rfl rfl (by kernel_rfl) rfl ?_ ?_; (first | rfl | simp); (first | rfl | simp [fnV, Value.oneCell']))
  obtain ⟨w1, hw1⟩ : ∃ W, ((w.alloc (.cells (obsC zeroO).toArray 33)).alloc (.cells (obsC baseO).toArray 117)).alloc (.cells (fnV (w.heap.size + 1)).toArray 119) = W := ⟨_, rfl⟩
  rw [hw1] at X0
  rw [show ((w.alloc (.cells #[.string ⟨#[]⟩, .string ⟨#[]⟩, .int .i64 0, .int .i64 0, .int .i64 0, .int .i64 0, .int .i64 0, .int .u8 0] 33)).alloc (.cells #[.string ⟨#[]⟩, .string ⟨#[]⟩, .int .i64 0, .int .i64 0, .int .i64 0, .int .i64 1000000, .int .i64 9999, .int .u8 32] 117)).alloc (.cells (fnV (w.heap.size + 1)).toArray 119) = w1 from hw1]
  clear hw1
  by_cases hmn : m = n
  rotate_left
  · have c0 : ((m : Int) == (n : Int)) = false := beq_eq_false_iff_ne.2 (by omega)
    have F := Lib.hid (NB.out hmn)
    clear NB EQ LK LL LS HC HO HE HM H8 HL
    go_wp2_with fail
    refine (need_no _).mono ?_
    rintro e w2 ⟨rfl, rfl⟩
    exact ⟨rfl, Or.inr ⟨F.out, rfl⟩, X0.out.below⟩
  subst hmn
  have c0 : ((m : Int) == (m : Int)) = true := beq_self_eq_true _
  replace EQ := Lib.hid (EQ.out rfl)
  replace LK := Lib.hid (LK.out rfl)
  replace LL := Lib.hid (LL.out rfl)
  clear NB
  go_wp2_with fail
  refine (need_yes _).mono ?_
  rintro e w2 ⟨rfl, rfl⟩
  go_wp2_with fail
  go_loopw [37] (fun i wr => ∃ k : Nat, k ≤ m ∧ i = .int .i64 k ∧ Hid (∃ o, foldR (L.take k) baseO = some o ∧ RX w o wr)) (fun i _ => m - (intOf i).toNat)
  case atStart => exact ⟨0, Nat.zero_le _, rfl, Lib.hid ⟨baseO, by rw [List.take_zero]; rfl, X0.out⟩⟩
  case round =>
    obtain ⟨k, hk, rfl, D⟩ := hrel
    clear X0
    obtain ⟨o, ho, hx⟩ := D.out
    have FO := Lib.hid ho
    have HX0 := Lib.hid hx
    clear D ho hx
    by_cases hlt : k < m
    · have hkc : k < cells.length := by rw [HM2.out]; exact hlt
      have hko : k < order.length := by rw [HN.out]; exact hlt
      obtain ⟨bc, oc, rfl, ltc, qc⟩ := (HC.out _ HX0.out.below).get hkc
      obtain ⟨bo, oo, rfl, lto, qo⟩ := (HO.out _ HX0.out.below).get hko
      have lc0 : bc < w.heap.size := by
        rcases HC.out w (Below.refl _ _) with h | ⟨b, off, h1, h2, _⟩
        · rw [h] at hkc; exact absurd hkc (Nat.not_lt_zero k)
        · cases h1; exact h2
      have i1 : (k : Int) < (m : Int) := by omega
      have i0 : (0 : Int) ≤ (k : Int) := by omega
      have K8 := H8.out k hko
      have S1 := HL.out k hkc
      obtain ⟨hkL, eL⟩ := LK.out k hko hkc
      have YES := Lib.hid (fun o' h => foldR_next hkL FO.out (o2 := o') (by rw [eL]; exact h))
      have NO := Lib.hid (fun h => show rowR order (cells.map trimS) = none from by rw [EQ.out, foldR_bad hkL FO.out (by rw [eL]; exact h)]; rfl)
      clear eL EQ LK
      simp only at YES NO
      obtain ⟨s, hs⟩ : ∃ s, cells[k]'hkc = s := ⟨_, rfl⟩
      rw [hs] at qc S1 YES NO
      obtain ⟨K, hK⟩ : ∃ K, order[k]'hko = K := ⟨_, rfl⟩
      rw [hK] at qo K8 YES NO
      clear hs hK
      have TR := Lib.hid (fun w' => Tryz.strings_Trim_one s 32 (by decide) w' (by unfold maxLen at *; omega))
      obtain ⟨S, hS⟩ : ∃ S, trimS s = S := ⟨_, rfl⟩
      have hS' : (⟨(Lib.trimB s.data.toList 32).toArray⟩ : ByteArray) = S := hS
      rw [hS'] at TR
      rw [hS] at YES NO
      have h1 : S.size ≤ 100 := by
        rw [← hS]
        have t := trimB_le s.data.toList 32
        have zz : s.data.toList.length = s.size := rfl
        unfold trimS
        rw [stL_size]
        omega
      have h2 : S.size ≤ 100000 := by omega
      have h3 : S.size ≤ maxLen := by unfold maxLen; omega
      clear hS hS'
      have ltw := lto
      have CSd := Lib.hid (show CS w bc (oc + k) s o wr.drew from (⟨HX0.out, qc, lc0, ltc⟩ : CS w bc (oc + k) s o wr).call (Below.refl _ _).drew)
      have RD := Lib.hid (fun w' (h : RX w o w') => And.intro h.rd (HM.out w' h.below))
      clear HX0 qc lc0 ltc ltw lto FO
      rcases (show K = 0 ∨ K = 1 ∨ K = 2 ∨ K = 3 ∨ K = 4 ∨ K = 5 ∨ K = 6 ∨ K = 7 by omega) with rfl | rfl | rfl | rfl | rfl | rfl | rfl | rfl
      · have qo' : wr.cell? ⟨bo, oo + k, none⟩ = some (.int .i64 (0 : Int)) := qo
        have RDK := Lib.hid (fun w' (h : RX w o w') => rd0_any S (w.heap.size + 1) o w' (RD.out w' h).1)
        clear qo RD
        go_upto_region 7 with fail
        refine wp_region_held_drew (S := fun wx => ∃ o, CS w bc (oc + k) s o wx) (by kernel_rfl) ⟨_, CSd.out⟩ (fun hHeld => ?_)
        have HX : Hid (RX w o wr.drew) := Lib.hid CSd.out.rx
        clear CSd
        refine wpAnyH_take (i := 0) (oi := ?oi0_0x1) (v := ?v0_0x1) ?hi0_0x1 (by kernel_rfl) (by kernel_rfl) (by kernel_rfl) ?hq0_0x1 ?hy0_0x1 hHeld ?rest0_0x1
        case hi0_0x1 => ((try simp only [List.getElem?_toArray, List.getElem?_cons_succ, List.getElem?_cons_zero]); (try rfl))
        case hq0_0x1 => exact fun _ _ _ h => h
        case hy0_0x1 => exact Or.inl ⟨by rfl, by intro w hSw; clear hSw; go_simp; try with_reducible rfl⟩
        try simp only [Act.put, List.setIfInBounds_toArray, List.set_cons_zero, List.set_cons_succ]
        refine wpAnyH_take (i := 1) (oi := ?oi0_1x2) (v := ?v0_1x2) ?hi0_1x2 (by kernel_rfl) (by kernel_rfl) (by kernel_rfl) ?hq0_1x2 ?hy0_1x2 hHeld ?rest0_1x2
        case hi0_1x2 => ((try simp only [List.getElem?_toArray, List.getElem?_cons_succ, List.getElem?_cons_zero]); (try rfl))
        case hq0_1x2 => exact fun _ _ _ h => h
        case hy0_1x2 => exact Or.inl ⟨by rfl, by intro w hSw; clear hSw; go_simp; try with_reducible rfl⟩
        try simp only [Act.put, List.setIfInBounds_toArray, List.set_cons_zero, List.set_cons_succ]
        refine wpAnyH_take (i := 2) (oi := ?oi0_2x3) (v := ?v0_2x3) ?hi0_2x3 (by kernel_rfl) (by kernel_rfl) (by kernel_rfl) ?hq0_2x3 ?hy0_2x3 hHeld ?rest0_2x3
        case hi0_2x3 => ((try simp only [List.getElem?_toArray, List.getElem?_cons_succ, List.getElem?_cons_zero]); (try rfl))
        case hq0_2x3 => exact fun _ _ _ h => h
        case hy0_2x3 => exact Or.inl ⟨by rfl, by intro w hSw; obtain ⟨_, hc⟩ := hSw; have q := hc.rx.fn.cell (j := 0) (v := _) rfl; clear hc; go_simp; try with_reducible rfl⟩
        try simp only [Act.put, List.setIfInBounds_toArray, List.set_cons_zero, List.set_cons_succ]
        refine wpAnyH_take (i := 3) (oi := ?oi0_3x4) (v := ?v0_3x4) ?hi0_3x4 (by kernel_rfl) (by kernel_rfl) (by kernel_rfl) ?hq0_3x4 ?hy0_3x4 hHeld ?rest0_3x4
        case hi0_3x4 => ((try simp only [List.getElem?_toArray, List.getElem?_cons_succ, List.getElem?_cons_zero]); (try rfl))
        case hq0_3x4 => exact fun _ _ _ h => h
        case hy0_3x4 => exact Or.inl ⟨by rfl, by intro w hSw; clear hSw; go_simp; try with_reducible rfl⟩
        try simp only [Act.put, List.setIfInBounds_toArray, List.set_cons_zero, List.set_cons_succ]
        refine wpAnyH_take (i := 4) (oi := ?oi0_4x5) (v := ?v0_4x5) ?hi0_4x5 (by kernel_rfl) (by kernel_rfl) (by kernel_rfl) ?hq0_4x5 ?hy0_4x5 hHeld ?rest0_4x5
        case hi0_4x5 => ((try simp only [List.getElem?_toArray, List.getElem?_cons_succ, List.getElem?_cons_zero]); (try rfl))
        case hq0_4x5 => exact fun _ _ _ h => h
        case hy0_4x5 => exact Or.inl ⟨by rfl, by intro w hSw; clear hSw; go_simp; try with_reducible rfl⟩
        try simp only [Act.put, List.setIfInBounds_toArray, List.set_cons_zero, List.set_cons_succ]
        refine wpAnyH_take (i := 5) (oi := ?oi0_5x6) (v := ?v0_5x6) ?hi0_5x6 (by kernel_rfl) (by kernel_rfl) (by kernel_rfl) ?hq0_5x6 ?hy0_5x6 hHeld ?rest0_5x6
        case hi0_5x6 => ((try simp only [List.getElem?_toArray, List.getElem?_cons_succ, List.getElem?_cons_zero]); (try rfl))
        case hq0_5x6 => exact fun _ _ _ h => h
        case hy0_5x6 => exact Or.inl ⟨by rfl, by intro w hSw; clear hSw; go_simp; try with_reducible rfl⟩
        try simp only [Act.put, List.setIfInBounds_toArray, List.set_cons_zero, List.set_cons_succ]
        refine wpAnyH_take (i := 6) (oi := ?oi0_6x7) (v := ?v0_6x7) ?hi0_6x7 (by kernel_rfl) (by kernel_rfl) (by kernel_rfl) ?hq0_6x7 ?hy0_6x7 hHeld ?rest0_6x7
        case hi0_6x7 => ((try simp only [List.getElem?_toArray, List.getElem?_cons_succ, List.getElem?_cons_zero]); (try rfl))
        case hq0_6x7 => exact fun _ _ _ h => h
        case hy0_6x7 => exact Or.inl ⟨by rfl, by intro w hSw; obtain ⟨_, hc⟩ := hSw; have q := hc.cell; clear hc; go_simp; try with_reducible rfl⟩
        try simp only [Act.put, List.setIfInBounds_toArray, List.set_cons_zero, List.set_cons_succ]
        refine wpAnyH_ready (rs := [7]) (by kernel_rfl) (by simp) ?_
        refine AllReadyH.cons rfl (fun K' hK => ?_) AllReadyH.nil
        have H1 := Lib.hid hHeld
        clear hHeld
        go_simp
        refine (TR.out _).mono ?_
        rintro e wx ⟨rfl, hwx⟩
        replace H1 := Lib.hid (H1.out.elim fun o h => (show ∃ o, CS w bc (oc + k) s o wx from ⟨o, h.call (by rcases hwx with rfl | rfl; exact Below.refl _ _; exact (Below.refl _ _).drew)⟩))
        have HXc : Hid (RX w o wx) := Lib.hid (by rcases hwx with rfl | rfl; exact HX.out; exact HX.out.call (Below.refl _ _).drew)
        clear hwx HX TR
        refine hK.out _ _ H1.out (fun hHeld => ?_)
        clear hK H1
        try simp only [Act.put, List.setIfInBounds_toArray, List.set_cons_zero, List.set_cons_succ]
        refine wpAnyH_ready (rs := [8]) (by kernel_rfl) (by simp) ?_
        refine AllReadyH.cons rfl (fun K' hK => ?_) AllReadyH.nil
        have H1 := Lib.hid hHeld
        clear hHeld
        go_simp
        refine (RDK.out _ HXc.out).mono ?_
        rintro e wx ⟨h, ho⟩
        rcases h with ⟨o', h, rfl, hr⟩ | ⟨h, rfl⟩
        rotate_left
        · have F := Lib.hid (NO.out h)
          exact ⟨rfl, Or.inr ⟨F.out, rfl⟩, HXc.out.below.trans (ho.below.mono (Nat.le_succ _))⟩
        have HXd := Lib.hid (HXc.out.read hr ho)
        have F := Lib.hid (YES.out o' h)
        replace H1 := Lib.hid (H1.out.elim fun _ h => (show ∃ o, CS w bc (oc + k) s o wx from ⟨o', HXd.out, (h.cell_only ho)⟩))
        clear HXc hr ho h RDK NO YES
        refine hK.out _ _ H1.out (fun hHeld => ?_)
        clear hK H1
        try simp only [Act.put, List.setIfInBounds_toArray, List.set_cons_zero, List.set_cons_succ]
        refine wpAnyH_done (by kernel_rfl) ?_ _
        clear hHeld
        go_wp2_with fail
        go_roundw
        case rel => exact ⟨k + 1, by omega, by go_num, Lib.hid ⟨o', F.out, HXd.out⟩⟩
        case measure => simp [intOf]; omega
      · have qo' : wr.cell? ⟨bo, oo + k, none⟩ = some (.int .i64 (1 : Int)) := qo
        have RDK := Lib.hid (fun w' (h : RX w o w') => rd1_any S (w.heap.size + 1) o w' (RD.out w' h).1)
        clear qo RD
        go_upto_region 7 with fail
        refine wp_region_held_drew (S := fun wx => ∃ o, CS w bc (oc + k) s o wx) (by kernel_rfl) ⟨_, CSd.out⟩ (fun hHeld => ?_)
        have HX : Hid (RX w o wr.drew) := Lib.hid CSd.out.rx
        clear CSd
        refine wpAnyH_take (i := 0) (oi := ?oi1_0x1) (v := ?v1_0x1) ?hi1_0x1 (by kernel_rfl) (by kernel_rfl) (by kernel_rfl) ?hq1_0x1 ?hy1_0x1 hHeld ?rest1_0x1
        case hi1_0x1 => ((try simp only [List.getElem?_toArray, List.getElem?_cons_succ, List.getElem?_cons_zero]); (try rfl))
        case hq1_0x1 => exact fun _ _ _ h => h
        case hy1_0x1 => exact Or.inl ⟨by rfl, by intro w hSw; clear hSw; go_simp; try with_reducible rfl⟩
        try simp only [Act.put, List.setIfInBounds_toArray, List.set_cons_zero, List.set_cons_succ]
        refine wpAnyH_take (i := 1) (oi := ?oi1_1x2) (v := ?v1_1x2) ?hi1_1x2 (by kernel_rfl) (by kernel_rfl) (by kernel_rfl) ?hq1_1x2 ?hy1_1x2 hHeld ?rest1_1x2
        case hi1_1x2 => ((try simp only [List.getElem?_toArray, List.getElem?_cons_succ, List.getElem?_cons_zero]); (try rfl))
        case hq1_1x2 => exact fun _ _ _ h => h
        case hy1_1x2 => exact Or.inl ⟨by rfl, by intro w hSw; clear hSw; go_simp; try with_reducible rfl⟩
        try simp only [Act.put, List.setIfInBounds_toArray, List.set_cons_zero, List.set_cons_succ]
        refine wpAnyH_take (i := 2) (oi := ?oi1_2x3) (v := ?v1_2x3) ?hi1_2x3 (by kernel_rfl) (by kernel_rfl) (by kernel_rfl) ?hq1_2x3 ?hy1_2x3 hHeld ?rest1_2x3
        case hi1_2x3 => ((try simp only [List.getElem?_toArray, List.getElem?_cons_succ, List.getElem?_cons_zero]); (try rfl))
        case hq1_2x3 => exact fun _ _ _ h => h
        case hy1_2x3 => exact Or.inl ⟨by rfl, by intro w hSw; obtain ⟨_, hc⟩ := hSw; have q := hc.rx.fn.cell (j := 1) (v := _) rfl; clear hc; go_simp; try with_reducible rfl⟩
        try simp only [Act.put, List.setIfInBounds_toArray, List.set_cons_zero, List.set_cons_succ]
        refine wpAnyH_take (i := 3) (oi := ?oi1_3x4) (v := ?v1_3x4) ?hi1_3x4 (by kernel_rfl) (by kernel_rfl) (by kernel_rfl) ?hq1_3x4 ?hy1_3x4 hHeld ?rest1_3x4
        case hi1_3x4 => ((try simp only [List.getElem?_toArray, List.getElem?_cons_succ, List.getElem?_cons_zero]); (try rfl))
        case hq1_3x4 => exact fun _ _ _ h => h
        case hy1_3x4 => exact Or.inl ⟨by rfl, by intro w hSw; clear hSw; go_simp; try with_reducible rfl⟩
        try simp only [Act.put, List.setIfInBounds_toArray, List.set_cons_zero, List.set_cons_succ]
        refine wpAnyH_take (i := 4) (oi := ?oi1_4x5) (v := ?v1_4x5) ?hi1_4x5 (by kernel_rfl) (by kernel_rfl) (by kernel_rfl) ?hq1_4x5 ?hy1_4x5 hHeld ?rest1_4x5
        case hi1_4x5 => ((try simp only [List.getElem?_toArray, List.getElem?_cons_succ, List.getElem?_cons_zero]); (try rfl))
        case hq1_4x5 => exact fun _ _ _ h => h
        case hy1_4x5 => exact Or.inl ⟨by rfl, by intro w hSw; clear hSw; go_simp; try with_reducible rfl⟩
        try simp only [Act.put, List.setIfInBounds_toArray, List.set_cons_zero, List.set_cons_succ]
        refine wpAnyH_take (i := 5) (oi := ?oi1_5x6) (v := ?v1_5x6) ?hi1_5x6 (by kernel_rfl) (by kernel_rfl) (by kernel_rfl) ?hq1_5x6 ?hy1_5x6 hHeld ?rest1_5x6
        case hi1_5x6 => ((try simp only [List.getElem?_toArray, List.getElem?_cons_succ, List.getElem?_cons_zero]); (try rfl))
        case hq1_5x6 => exact fun _ _ _ h => h
        case hy1_5x6 => exact Or.inl ⟨by rfl, by intro w hSw; clear hSw; go_simp; try with_reducible rfl⟩
        try simp only [Act.put, List.setIfInBounds_toArray, List.set_cons_zero, List.set_cons_succ]
        refine wpAnyH_take (i := 6) (oi := ?oi1_6x7) (v := ?v1_6x7) ?hi1_6x7 (by kernel_rfl) (by kernel_rfl) (by kernel_rfl) ?hq1_6x7 ?hy1_6x7 hHeld ?rest1_6x7
        case hi1_6x7 => ((try simp only [List.getElem?_toArray, List.getElem?_cons_succ, List.getElem?_cons_zero]); (try rfl))
        case hq1_6x7 => exact fun _ _ _ h => h
        case hy1_6x7 => exact Or.inl ⟨by rfl, by intro w hSw; obtain ⟨_, hc⟩ := hSw; have q := hc.cell; clear hc; go_simp; try with_reducible rfl⟩
        try simp only [Act.put, List.setIfInBounds_toArray, List.set_cons_zero, List.set_cons_succ]
        refine wpAnyH_ready (rs := [7]) (by kernel_rfl) (by simp) ?_
        refine AllReadyH.cons rfl (fun K' hK => ?_) AllReadyH.nil
        have H1 := Lib.hid hHeld
        clear hHeld
        go_simp
        refine (TR.out _).mono ?_
        rintro e wx ⟨rfl, hwx⟩
        replace H1 := Lib.hid (H1.out.elim fun o h => (show ∃ o, CS w bc (oc + k) s o wx from ⟨o, h.call (by rcases hwx with rfl | rfl; exact Below.refl _ _; exact (Below.refl _ _).drew)⟩))
        have HXc : Hid (RX w o wx) := Lib.hid (by rcases hwx with rfl | rfl; exact HX.out; exact HX.out.call (Below.refl _ _).drew)
        clear hwx HX TR
        refine hK.out _ _ H1.out (fun hHeld => ?_)
        clear hK H1
        try simp only [Act.put, List.setIfInBounds_toArray, List.set_cons_zero, List.set_cons_succ]
        refine wpAnyH_ready (rs := [8]) (by kernel_rfl) (by simp) ?_
        refine AllReadyH.cons rfl (fun K' hK => ?_) AllReadyH.nil
        have H1 := Lib.hid hHeld
        clear hHeld
        go_simp
        refine (RDK.out _ HXc.out).mono ?_
        rintro e wx ⟨h, ho⟩
        rcases h with ⟨o', h, rfl, hr⟩ | ⟨h, rfl⟩
        rotate_left
        · have F := Lib.hid (NO.out h)
          exact ⟨rfl, Or.inr ⟨F.out, rfl⟩, HXc.out.below.trans (ho.below.mono (Nat.le_succ _))⟩
        have HXd := Lib.hid (HXc.out.read hr ho)
        have F := Lib.hid (YES.out o' h)
        replace H1 := Lib.hid (H1.out.elim fun _ h => (show ∃ o, CS w bc (oc + k) s o wx from ⟨o', HXd.out, (h.cell_only ho)⟩))
        clear HXc hr ho h RDK NO YES
        refine hK.out _ _ H1.out (fun hHeld => ?_)
        clear hK H1
        try simp only [Act.put, List.setIfInBounds_toArray, List.set_cons_zero, List.set_cons_succ]
        refine wpAnyH_done (by kernel_rfl) ?_ _
        clear hHeld
        go_wp2_with fail
        go_roundw
        case rel => exact ⟨k + 1, by omega, by go_num, Lib.hid ⟨o', F.out, HXd.out⟩⟩
        case measure => simp [intOf]; omega
      · have qo' : wr.cell? ⟨bo, oo + k, none⟩ = some (.int .i64 (2 : Int)) := qo
        have RDK := Lib.hid (fun w' (h : RX w o w') => rd2_any S (w.heap.size + 1) o w' (RD.out w' h).1 h1)
        clear qo RD
        go_upto_region 7 with fail
        refine wp_region_held_drew (S := fun wx => ∃ o, CS w bc (oc + k) s o wx) (by kernel_rfl) ⟨_, CSd.out⟩ (fun hHeld => ?_)
        have HX : Hid (RX w o wr.drew) := Lib.hid CSd.out.rx
        clear CSd
        refine wpAnyH_take (i := 0) (oi := ?oi2_0x1) (v := ?v2_0x1) ?hi2_0x1 (by kernel_rfl) (by kernel_rfl) (by kernel_rfl) ?hq2_0x1 ?hy2_0x1 hHeld ?rest2_0x1
        case hi2_0x1 => ((try simp only [List.getElem?_toArray, List.getElem?_cons_succ, List.getElem?_cons_zero]); (try rfl))
        case hq2_0x1 => exact fun _ _ _ h => h
        case hy2_0x1 => exact Or.inl ⟨by rfl, by intro w hSw; clear hSw; go_simp; try with_reducible rfl⟩
        try simp only [Act.put, List.setIfInBounds_toArray, List.set_cons_zero, List.set_cons_succ]
        refine wpAnyH_take (i := 1) (oi := ?oi2_1x2) (v := ?v2_1x2) ?hi2_1x2 (by kernel_rfl) (by kernel_rfl) (by kernel_rfl) ?hq2_1x2 ?hy2_1x2 hHeld ?rest2_1x2
        case hi2_1x2 => ((try simp only [List.getElem?_toArray, List.getElem?_cons_succ, List.getElem?_cons_zero]); (try rfl))
        case hq2_1x2 => exact fun _ _ _ h => h
        case hy2_1x2 => exact Or.inl ⟨by rfl, by intro w hSw; clear hSw; go_simp; try with_reducible rfl⟩
        try simp only [Act.put, List.setIfInBounds_toArray, List.set_cons_zero, List.set_cons_succ]
        refine wpAnyH_take (i := 2) (oi := ?oi2_2x3) (v := ?v2_2x3) ?hi2_2x3 (by kernel_rfl) (by kernel_rfl) (by kernel_rfl) ?hq2_2x3 ?hy2_2x3 hHeld ?rest2_2x3
        case hi2_2x3 => ((try simp only [List.getElem?_toArray, List.getElem?_cons_succ, List.getElem?_cons_zero]); (try rfl))
        case hq2_2x3 => exact fun _ _ _ h => h
        case hy2_2x3 => exact Or.inl ⟨by rfl, by intro w hSw; obtain ⟨_, hc⟩ := hSw; have q := hc.rx.fn.cell (j := 2) (v := _) rfl; clear hc; go_simp; try with_reducible rfl⟩
        try simp only [Act.put, List.setIfInBounds_toArray, List.set_cons_zero, List.set_cons_succ]
        refine wpAnyH_take (i := 3) (oi := ?oi2_3x4) (v := ?v2_3x4) ?hi2_3x4 (by kernel_rfl) (by kernel_rfl) (by kernel_rfl) ?hq2_3x4 ?hy2_3x4 hHeld ?rest2_3x4
        case hi2_3x4 => ((try simp only [List.getElem?_toArray, List.getElem?_cons_succ, List.getElem?_cons_zero]); (try rfl))
        case hq2_3x4 => exact fun _ _ _ h => h
        case hy2_3x4 => exact Or.inl ⟨by rfl, by intro w hSw; clear hSw; go_simp; try with_reducible rfl⟩
        try simp only [Act.put, List.setIfInBounds_toArray, List.set_cons_zero, List.set_cons_succ]
        refine wpAnyH_take (i := 4) (oi := ?oi2_4x5) (v := ?v2_4x5) ?hi2_4x5 (by kernel_rfl) (by kernel_rfl) (by kernel_rfl) ?hq2_4x5 ?hy2_4x5 hHeld ?rest2_4x5
        case hi2_4x5 => ((try simp only [List.getElem?_toArray, List.getElem?_cons_succ, List.getElem?_cons_zero]); (try rfl))
        case hq2_4x5 => exact fun _ _ _ h => h
        case hy2_4x5 => exact Or.inl ⟨by rfl, by intro w hSw; clear hSw; go_simp; try with_reducible rfl⟩
        try simp only [Act.put, List.setIfInBounds_toArray, List.set_cons_zero, List.set_cons_succ]
        refine wpAnyH_take (i := 5) (oi := ?oi2_5x6) (v := ?v2_5x6) ?hi2_5x6 (by kernel_rfl) (by kernel_rfl) (by kernel_rfl) ?hq2_5x6 ?hy2_5x6 hHeld ?rest2_5x6
        case hi2_5x6 => ((try simp only [List.getElem?_toArray, List.getElem?_cons_succ, List.getElem?_cons_zero]); (try rfl))
        case hq2_5x6 => exact fun _ _ _ h => h
        case hy2_5x6 => exact Or.inl ⟨by rfl, by intro w hSw; clear hSw; go_simp; try with_reducible rfl⟩
        try simp only [Act.put, List.setIfInBounds_toArray, List.set_cons_zero, List.set_cons_succ]
        refine wpAnyH_take (i := 6) (oi := ?oi2_6x7) (v := ?v2_6x7) ?hi2_6x7 (by kernel_rfl) (by kernel_rfl) (by kernel_rfl) ?hq2_6x7 ?hy2_6x7 hHeld ?rest2_6x7
        case hi2_6x7 => ((try simp only [List.getElem?_toArray, List.getElem?_cons_succ, List.getElem?_cons_zero]); (try rfl))
        case hq2_6x7 => exact fun _ _ _ h => h
        case hy2_6x7 => exact Or.inl ⟨by rfl, by intro w hSw; obtain ⟨_, hc⟩ := hSw; have q := hc.cell; clear hc; go_simp; try with_reducible rfl⟩
        try simp only [Act.put, List.setIfInBounds_toArray, List.set_cons_zero, List.set_cons_succ]
        refine wpAnyH_ready (rs := [7]) (by kernel_rfl) (by simp) ?_
        refine AllReadyH.cons rfl (fun K' hK => ?_) AllReadyH.nil
        have H1 := Lib.hid hHeld
        clear hHeld
        go_simp
        refine (TR.out _).mono ?_
        rintro e wx ⟨rfl, hwx⟩
        replace H1 := Lib.hid (H1.out.elim fun o h => (show ∃ o, CS w bc (oc + k) s o wx from ⟨o, h.call (by rcases hwx with rfl | rfl; exact Below.refl _ _; exact (Below.refl _ _).drew)⟩))
        have HXc : Hid (RX w o wx) := Lib.hid (by rcases hwx with rfl | rfl; exact HX.out; exact HX.out.call (Below.refl _ _).drew)
        clear hwx HX TR
        refine hK.out _ _ H1.out (fun hHeld => ?_)
        clear hK H1
        try simp only [Act.put, List.setIfInBounds_toArray, List.set_cons_zero, List.set_cons_succ]
        refine wpAnyH_ready (rs := [8]) (by kernel_rfl) (by simp) ?_
        refine AllReadyH.cons rfl (fun K' hK => ?_) AllReadyH.nil
        have H1 := Lib.hid hHeld
        clear hHeld
        go_simp
        refine (RDK.out _ HXc.out).mono ?_
        rintro e wx ⟨h, ho⟩
        rcases h with ⟨o', h, rfl, hr⟩ | ⟨h, rfl⟩
        rotate_left
        · have F := Lib.hid (NO.out h)
          exact ⟨rfl, Or.inr ⟨F.out, rfl⟩, HXc.out.below.trans (ho.below.mono (Nat.le_succ _))⟩
        have HXd := Lib.hid (HXc.out.read hr ho)
        have F := Lib.hid (YES.out o' h)
        replace H1 := Lib.hid (H1.out.elim fun _ h => (show ∃ o, CS w bc (oc + k) s o wx from ⟨o', HXd.out, (h.cell_only ho)⟩))
        clear HXc hr ho h RDK NO YES
        refine hK.out _ _ H1.out (fun hHeld => ?_)
        clear hK H1
        try simp only [Act.put, List.setIfInBounds_toArray, List.set_cons_zero, List.set_cons_succ]
        refine wpAnyH_done (by kernel_rfl) ?_ _
        clear hHeld
        go_wp2_with fail
        go_roundw
        case rel => exact ⟨k + 1, by omega, by go_num, Lib.hid ⟨o', F.out, HXd.out⟩⟩
        case measure => simp [intOf]; omega
      · have qo' : wr.cell? ⟨bo, oo + k, none⟩ = some (.int .i64 (3 : Int)) := qo
        have RDK := Lib.hid (fun w' (h : RX w o w') => rd3_any S (w.heap.size + 1) o w' (RD.out w' h).1 (RD.out w' h).2 h1)
        clear qo RD
        go_upto_region 7 with fail
        refine wp_region_held_drew (S := fun wx => ∃ o, CS w bc (oc + k) s o wx) (by kernel_rfl) ⟨_, CSd.out⟩ (fun hHeld => ?_)
        have HX : Hid (RX w o wr.drew) := Lib.hid CSd.out.rx
        clear CSd
        refine wpAnyH_take (i := 0) (oi := ?oi3_0x1) (v := ?v3_0x1) ?hi3_0x1 (by kernel_rfl) (by kernel_rfl) (by kernel_rfl) ?hq3_0x1 ?hy3_0x1 hHeld ?rest3_0x1
        case hi3_0x1 => ((try simp only [List.getElem?_toArray, List.getElem?_cons_succ, List.getElem?_cons_zero]); (try rfl))
        case hq3_0x1 => exact fun _ _ _ h => h
        case hy3_0x1 => exact Or.inl ⟨by rfl, by intro w hSw; clear hSw; go_simp; try with_reducible rfl⟩
        try simp only [Act.put, List.setIfInBounds_toArray, List.set_cons_zero, List.set_cons_succ]
        refine wpAnyH_take (i := 1) (oi := ?oi3_1x2) (v := ?v3_1x2) ?hi3_1x2 (by kernel_rfl) (by kernel_rfl) (by kernel_rfl) ?hq3_1x2 ?hy3_1x2 hHeld ?rest3_1x2
        case hi3_1x2 => ((try simp only [List.getElem?_toArray, List.getElem?_cons_succ, List.getElem?_cons_zero]); (try rfl))
        case hq3_1x2 => exact fun _ _ _ h => h
        case hy3_1x2 => exact Or.inl ⟨by rfl, by intro w hSw; clear hSw; go_simp; try with_reducible rfl⟩
        try simp only [Act.put, List.setIfInBounds_toArray, List.set_cons_zero, List.set_cons_succ]
        refine wpAnyH_take (i := 2) (oi := ?oi3_2x3) (v := ?v3_2x3) ?hi3_2x3 (by kernel_rfl) (by kernel_rfl) (by kernel_rfl) ?hq3_2x3 ?hy3_2x3 hHeld ?rest3_2x3
        case hi3_2x3 => ((try simp only [List.getElem?_toArray, List.getElem?_cons_succ, List.getElem?_cons_zero]); (try rfl))
        case hq3_2x3 => exact fun _ _ _ h => h
        case hy3_2x3 => exact Or.inl ⟨by rfl, by intro w hSw; obtain ⟨_, hc⟩ := hSw; have q := hc.rx.fn.cell (j := 3) (v := _) rfl; clear hc; go_simp; try with_reducible rfl⟩
        try simp only [Act.put, List.setIfInBounds_toArray, List.set_cons_zero, List.set_cons_succ]
        refine wpAnyH_take (i := 3) (oi := ?oi3_3x4) (v := ?v3_3x4) ?hi3_3x4 (by kernel_rfl) (by kernel_rfl) (by kernel_rfl) ?hq3_3x4 ?hy3_3x4 hHeld ?rest3_3x4
        case hi3_3x4 => ((try simp only [List.getElem?_toArray, List.getElem?_cons_succ, List.getElem?_cons_zero]); (try rfl))
        case hq3_3x4 => exact fun _ _ _ h => h
        case hy3_3x4 => exact Or.inl ⟨by rfl, by intro w hSw; clear hSw; go_simp; try with_reducible rfl⟩
        try simp only [Act.put, List.setIfInBounds_toArray, List.set_cons_zero, List.set_cons_succ]
        refine wpAnyH_take (i := 4) (oi := ?oi3_4x5) (v := ?v3_4x5) ?hi3_4x5 (by kernel_rfl) (by kernel_rfl) (by kernel_rfl) ?hq3_4x5 ?hy3_4x5 hHeld ?rest3_4x5
        case hi3_4x5 => ((try simp only [List.getElem?_toArray, List.getElem?_cons_succ, List.getElem?_cons_zero]); (try rfl))
        case hq3_4x5 => exact fun _ _ _ h => h
        case hy3_4x5 => exact Or.inl ⟨by rfl, by intro w hSw; clear hSw; go_simp; try with_reducible rfl⟩
        try simp only [Act.put, List.setIfInBounds_toArray, List.set_cons_zero, List.set_cons_succ]
        refine wpAnyH_take (i := 5) (oi := ?oi3_5x6) (v := ?v3_5x6) ?hi3_5x6 (by kernel_rfl) (by kernel_rfl) (by kernel_rfl) ?hq3_5x6 ?hy3_5x6 hHeld ?rest3_5x6
        case hi3_5x6 => ((try simp only [List.getElem?_toArray, List.getElem?_cons_succ, List.getElem?_cons_zero]); (try rfl))
        case hq3_5x6 => exact fun _ _ _ h => h
        case hy3_5x6 => exact Or.inl ⟨by rfl, by intro w hSw; clear hSw; go_simp; try with_reducible rfl⟩
        try simp only [Act.put, List.setIfInBounds_toArray, List.set_cons_zero, List.set_cons_succ]
        refine wpAnyH_take (i := 6) (oi := ?oi3_6x7) (v := ?v3_6x7) ?hi3_6x7 (by kernel_rfl) (by kernel_rfl) (by kernel_rfl) ?hq3_6x7 ?hy3_6x7 hHeld ?rest3_6x7
        case hi3_6x7 => ((try simp only [List.getElem?_toArray, List.getElem?_cons_succ, List.getElem?_cons_zero]); (try rfl))
        case hq3_6x7 => exact fun _ _ _ h => h
        case hy3_6x7 => exact Or.inl ⟨by rfl, by intro w hSw; obtain ⟨_, hc⟩ := hSw; have q := hc.cell; clear hc; go_simp; try with_reducible rfl⟩
        try simp only [Act.put, List.setIfInBounds_toArray, List.set_cons_zero, List.set_cons_succ]
        refine wpAnyH_ready (rs := [7]) (by kernel_rfl) (by simp) ?_
        refine AllReadyH.cons rfl (fun K' hK => ?_) AllReadyH.nil
        have H1 := Lib.hid hHeld
        clear hHeld
        go_simp
        refine (TR.out _).mono ?_
        rintro e wx ⟨rfl, hwx⟩
        replace H1 := Lib.hid (H1.out.elim fun o h => (show ∃ o, CS w bc (oc + k) s o wx from ⟨o, h.call (by rcases hwx with rfl | rfl; exact Below.refl _ _; exact (Below.refl _ _).drew)⟩))
        have HXc : Hid (RX w o wx) := Lib.hid (by rcases hwx with rfl | rfl; exact HX.out; exact HX.out.call (Below.refl _ _).drew)
        clear hwx HX TR
        refine hK.out _ _ H1.out (fun hHeld => ?_)
        clear hK H1
        try simp only [Act.put, List.setIfInBounds_toArray, List.set_cons_zero, List.set_cons_succ]
        refine wpAnyH_ready (rs := [8]) (by kernel_rfl) (by simp) ?_
        refine AllReadyH.cons rfl (fun K' hK => ?_) AllReadyH.nil
        have H1 := Lib.hid hHeld
        clear hHeld
        go_simp
        refine (RDK.out _ HXc.out).mono ?_
        rintro e wx ⟨h, ho⟩
        rcases h with ⟨o', h, rfl, hr⟩ | ⟨h, rfl⟩
        rotate_left
        · have F := Lib.hid (NO.out h)
          exact ⟨rfl, Or.inr ⟨F.out, rfl⟩, HXc.out.below.trans (ho.below.mono (Nat.le_succ _))⟩
        have HXd := Lib.hid (HXc.out.read hr ho)
        have F := Lib.hid (YES.out o' h)
        replace H1 := Lib.hid (H1.out.elim fun _ h => (show ∃ o, CS w bc (oc + k) s o wx from ⟨o', HXd.out, (h.cell_only ho)⟩))
        clear HXc hr ho h RDK NO YES
        refine hK.out _ _ H1.out (fun hHeld => ?_)
        clear hK H1
        try simp only [Act.put, List.setIfInBounds_toArray, List.set_cons_zero, List.set_cons_succ]
        refine wpAnyH_done (by kernel_rfl) ?_ _
        clear hHeld
        go_wp2_with fail
        go_roundw
        case rel => exact ⟨k + 1, by omega, by go_num, Lib.hid ⟨o', F.out, HXd.out⟩⟩
        case measure => simp [intOf]; omega
      · have qo' : wr.cell? ⟨bo, oo + k, none⟩ = some (.int .i64 (4 : Int)) := qo
        have RDK := Lib.hid (fun w' (h : RX w o w') => rd4_any S (w.heap.size + 1) o w' (RD.out w' h).1 (RD.out w' h).2 h1)
        clear qo RD
        go_upto_region 7 with fail
        refine wp_region_held_drew (S := fun wx => ∃ o, CS w bc (oc + k) s o wx) (by kernel_rfl) ⟨_, CSd.out⟩ (fun hHeld => ?_)
        have HX : Hid (RX w o wr.drew) := Lib.hid CSd.out.rx
        clear CSd
        refine wpAnyH_take (i := 0) (oi := ?oi4_0x1) (v := ?v4_0x1) ?hi4_0x1 (by kernel_rfl) (by kernel_rfl) (by kernel_rfl) ?hq4_0x1 ?hy4_0x1 hHeld ?rest4_0x1
        case hi4_0x1 => ((try simp only [List.getElem?_toArray, List.getElem?_cons_succ, List.getElem?_cons_zero]); (try rfl))
        case hq4_0x1 => exact fun _ _ _ h => h
        case hy4_0x1 => exact Or.inl ⟨by rfl, by intro w hSw; clear hSw; go_simp; try with_reducible rfl⟩
        try simp only [Act.put, List.setIfInBounds_toArray, List.set_cons_zero, List.set_cons_succ]
        refine wpAnyH_take (i := 1) (oi := ?oi4_1x2) (v := ?v4_1x2) ?hi4_1x2 (by kernel_rfl) (by kernel_rfl) (by kernel_rfl) ?hq4_1x2 ?hy4_1x2 hHeld ?rest4_1x2
        case hi4_1x2 => ((try simp only [List.getElem?_toArray, List.getElem?_cons_succ, List.getElem?_cons_zero]); (try rfl))
        case hq4_1x2 => exact fun _ _ _ h => h
        case hy4_1x2 => exact Or.inl ⟨by rfl, by intro w hSw; clear hSw; go_simp; try with_reducible rfl⟩
        try simp only [Act.put, List.setIfInBounds_toArray, List.set_cons_zero, List.set_cons_succ]
        refine wpAnyH_take (i := 2) (oi := ?oi4_2x3) (v := ?v4_2x3) ?hi4_2x3 (by kernel_rfl) (by kernel_rfl) (by kernel_rfl) ?hq4_2x3 ?hy4_2x3 hHeld ?rest4_2x3
        case hi4_2x3 => ((try simp only [List.getElem?_toArray, List.getElem?_cons_succ, List.getElem?_cons_zero]); (try rfl))
        case hq4_2x3 => exact fun _ _ _ h => h
        case hy4_2x3 => exact Or.inl ⟨by rfl, by intro w hSw; obtain ⟨_, hc⟩ := hSw; have q := hc.rx.fn.cell (j := 4) (v := _) rfl; clear hc; go_simp; try with_reducible rfl⟩
        try simp only [Act.put, List.setIfInBounds_toArray, List.set_cons_zero, List.set_cons_succ]
        refine wpAnyH_take (i := 3) (oi := ?oi4_3x4) (v := ?v4_3x4) ?hi4_3x4 (by kernel_rfl) (by kernel_rfl) (by kernel_rfl) ?hq4_3x4 ?hy4_3x4 hHeld ?rest4_3x4
        case hi4_3x4 => ((try simp only [List.getElem?_toArray, List.getElem?_cons_succ, List.getElem?_cons_zero]); (try rfl))
        case hq4_3x4 => exact fun _ _ _ h => h
        case hy4_3x4 => exact Or.inl ⟨by rfl, by intro w hSw; clear hSw; go_simp; try with_reducible rfl⟩
        try simp only [Act.put, List.setIfInBounds_toArray, List.set_cons_zero, List.set_cons_succ]
        refine wpAnyH_take (i := 4) (oi := ?oi4_4x5) (v := ?v4_4x5) ?hi4_4x5 (by kernel_rfl) (by kernel_rfl) (by kernel_rfl) ?hq4_4x5 ?hy4_4x5 hHeld ?rest4_4x5
        case hi4_4x5 => ((try simp only [List.getElem?_toArray, List.getElem?_cons_succ, List.getElem?_cons_zero]); (try rfl))
        case hq4_4x5 => exact fun _ _ _ h => h
        case hy4_4x5 => exact Or.inl ⟨by rfl, by intro w hSw; clear hSw; go_simp; try with_reducible rfl⟩
        try simp only [Act.put, List.setIfInBounds_toArray, List.set_cons_zero, List.set_cons_succ]
        refine wpAnyH_take (i := 5) (oi := ?oi4_5x6) (v := ?v4_5x6) ?hi4_5x6 (by kernel_rfl) (by kernel_rfl) (by kernel_rfl) ?hq4_5x6 ?hy4_5x6 hHeld ?rest4_5x6
        case hi4_5x6 => ((try simp only [List.getElem?_toArray, List.getElem?_cons_succ, List.getElem?_cons_zero]); (try rfl))
        case hq4_5x6 => exact fun _ _ _ h => h
        case hy4_5x6 => exact Or.inl ⟨by rfl, by intro w hSw; clear hSw; go_simp; try with_reducible rfl⟩
        try simp only [Act.put, List.setIfInBounds_toArray, List.set_cons_zero, List.set_cons_succ]
        refine wpAnyH_take (i := 6) (oi := ?oi4_6x7) (v := ?v4_6x7) ?hi4_6x7 (by kernel_rfl) (by kernel_rfl) (by kernel_rfl) ?hq4_6x7 ?hy4_6x7 hHeld ?rest4_6x7
        case hi4_6x7 => ((try simp only [List.getElem?_toArray, List.getElem?_cons_succ, List.getElem?_cons_zero]); (try rfl))
        case hq4_6x7 => exact fun _ _ _ h => h
        case hy4_6x7 => exact Or.inl ⟨by rfl, by intro w hSw; obtain ⟨_, hc⟩ := hSw; have q := hc.cell; clear hc; go_simp; try with_reducible rfl⟩
        try simp only [Act.put, List.setIfInBounds_toArray, List.set_cons_zero, List.set_cons_succ]
        refine wpAnyH_ready (rs := [7]) (by kernel_rfl) (by simp) ?_
        refine AllReadyH.cons rfl (fun K' hK => ?_) AllReadyH.nil
        have H1 := Lib.hid hHeld
        clear hHeld
        go_simp
        refine (TR.out _).mono ?_
        rintro e wx ⟨rfl, hwx⟩
        replace H1 := Lib.hid (H1.out.elim fun o h => (show ∃ o, CS w bc (oc + k) s o wx from ⟨o, h.call (by rcases hwx with rfl | rfl; exact Below.refl _ _; exact (Below.refl _ _).drew)⟩))
        have HXc : Hid (RX w o wx) := Lib.hid (by rcases hwx with rfl | rfl; exact HX.out; exact HX.out.call (Below.refl _ _).drew)
        clear hwx HX TR
        refine hK.out _ _ H1.out (fun hHeld => ?_)
        clear hK H1
        try simp only [Act.put, List.setIfInBounds_toArray, List.set_cons_zero, List.set_cons_succ]
        refine wpAnyH_ready (rs := [8]) (by kernel_rfl) (by simp) ?_
        refine AllReadyH.cons rfl (fun K' hK => ?_) AllReadyH.nil
        have H1 := Lib.hid hHeld
        clear hHeld
        go_simp
        refine (RDK.out _ HXc.out).mono ?_
        rintro e wx ⟨h, ho⟩
        rcases h with ⟨o', h, rfl, hr⟩ | ⟨h, rfl⟩
        rotate_left
        · have F := Lib.hid (NO.out h)
          exact ⟨rfl, Or.inr ⟨F.out, rfl⟩, HXc.out.below.trans (ho.below.mono (Nat.le_succ _))⟩
        have HXd := Lib.hid (HXc.out.read hr ho)
        have F := Lib.hid (YES.out o' h)
        replace H1 := Lib.hid (H1.out.elim fun _ h => (show ∃ o, CS w bc (oc + k) s o wx from ⟨o', HXd.out, (h.cell_only ho)⟩))
        clear HXc hr ho h RDK NO YES
        refine hK.out _ _ H1.out (fun hHeld => ?_)
        clear hK H1
        try simp only [Act.put, List.setIfInBounds_toArray, List.set_cons_zero, List.set_cons_succ]
        refine wpAnyH_done (by kernel_rfl) ?_ _
        clear hHeld
        go_wp2_with fail
        go_roundw
        case rel => exact ⟨k + 1, by omega, by go_num, Lib.hid ⟨o', F.out, HXd.out⟩⟩
        case measure => simp [intOf]; omega
      · have qo' : wr.cell? ⟨bo, oo + k, none⟩ = some (.int .i64 (5 : Int)) := qo
        have RDK := Lib.hid (fun w' (h : RX w o w') => rd5_any S (w.heap.size + 1) o w' (RD.out w' h).1 h3)
        clear qo RD
        go_upto_region 7 with fail
        refine wp_region_held_drew (S := fun wx => ∃ o, CS w bc (oc + k) s o wx) (by kernel_rfl) ⟨_, CSd.out⟩ (fun hHeld => ?_)
        have HX : Hid (RX w o wr.drew) := Lib.hid CSd.out.rx
        clear CSd
        refine wpAnyH_take (i := 0) (oi := ?oi5_0x1) (v := ?v5_0x1) ?hi5_0x1 (by kernel_rfl) (by kernel_rfl) (by kernel_rfl) ?hq5_0x1 ?hy5_0x1 hHeld ?rest5_0x1
        case hi5_0x1 => ((try simp only [List.getElem?_toArray, List.getElem?_cons_succ, List.getElem?_cons_zero]); (try rfl))
        case hq5_0x1 => exact fun _ _ _ h => h
        case hy5_0x1 => exact Or.inl ⟨by rfl, by intro w hSw; clear hSw; go_simp; try with_reducible rfl⟩
        try simp only [Act.put, List.setIfInBounds_toArray, List.set_cons_zero, List.set_cons_succ]
        refine wpAnyH_take (i := 1) (oi := ?oi5_1x2) (v := ?v5_1x2) ?hi5_1x2 (by kernel_rfl) (by kernel_rfl) (by kernel_rfl) ?hq5_1x2 ?hy5_1x2 hHeld ?rest5_1x2
        case hi5_1x2 => ((try simp only [List.getElem?_toArray, List.getElem?_cons_succ, List.getElem?_cons_zero]); (try rfl))
        case hq5_1x2 => exact fun _ _ _ h => h
        case hy5_1x2 => exact Or.inl ⟨by rfl, by intro w hSw; clear hSw; go_simp; try with_reducible rfl⟩
        try simp only [Act.put, List.setIfInBounds_toArray, List.set_cons_zero, List.set_cons_succ]
        refine wpAnyH_take (i := 2) (oi := ?oi5_2x3) (v := ?v5_2x3) ?hi5_2x3 (by kernel_rfl) (by kernel_rfl) (by kernel_rfl) ?hq5_2x3 ?hy5_2x3 hHeld ?rest5_2x3
        case hi5_2x3 => ((try simp only [List.getElem?_toArray, List.getElem?_cons_succ, List.getElem?_cons_zero]); (try rfl))
        case hq5_2x3 => exact fun _ _ _ h => h
        case hy5_2x3 => exact Or.inl ⟨by rfl, by intro w hSw; obtain ⟨_, hc⟩ := hSw; have q := hc.rx.fn.cell (j := 5) (v := _) rfl; clear hc; go_simp; try with_reducible rfl⟩
        try simp only [Act.put, List.setIfInBounds_toArray, List.set_cons_zero, List.set_cons_succ]
        refine wpAnyH_take (i := 3) (oi := ?oi5_3x4) (v := ?v5_3x4) ?hi5_3x4 (by kernel_rfl) (by kernel_rfl) (by kernel_rfl) ?hq5_3x4 ?hy5_3x4 hHeld ?rest5_3x4
        case hi5_3x4 => ((try simp only [List.getElem?_toArray, List.getElem?_cons_succ, List.getElem?_cons_zero]); (try rfl))
        case hq5_3x4 => exact fun _ _ _ h => h
        case hy5_3x4 => exact Or.inl ⟨by rfl, by intro w hSw; clear hSw; go_simp; try with_reducible rfl⟩
        try simp only [Act.put, List.setIfInBounds_toArray, List.set_cons_zero, List.set_cons_succ]
        refine wpAnyH_take (i := 4) (oi := ?oi5_4x5) (v := ?v5_4x5) ?hi5_4x5 (by kernel_rfl) (by kernel_rfl) (by kernel_rfl) ?hq5_4x5 ?hy5_4x5 hHeld ?rest5_4x5
        case hi5_4x5 => ((try simp only [List.getElem?_toArray, List.getElem?_cons_succ, List.getElem?_cons_zero]); (try rfl))
        case hq5_4x5 => exact fun _ _ _ h => h
        case hy5_4x5 => exact Or.inl ⟨by rfl, by intro w hSw; clear hSw; go_simp; try with_reducible rfl⟩
        try simp only [Act.put, List.setIfInBounds_toArray, List.set_cons_zero, List.set_cons_succ]
        refine wpAnyH_take (i := 5) (oi := ?oi5_5x6) (v := ?v5_5x6) ?hi5_5x6 (by kernel_rfl) (by kernel_rfl) (by kernel_rfl) ?hq5_5x6 ?hy5_5x6 hHeld ?rest5_5x6
        case hi5_5x6 => ((try simp only [List.getElem?_toArray, List.getElem?_cons_succ, List.getElem?_cons_zero]); (try rfl))
        case hq5_5x6 => exact fun _ _ _ h => h
        case hy5_5x6 => exact Or.inl ⟨by rfl, by intro w hSw; clear hSw; go_simp; try with_reducible rfl⟩
        try simp only [Act.put, List.setIfInBounds_toArray, List.set_cons_zero, List.set_cons_succ]
        refine wpAnyH_take (i := 6) (oi := ?oi5_6x7) (v := ?v5_6x7) ?hi5_6x7 (by kernel_rfl) (by kernel_rfl) (by kernel_rfl) ?hq5_6x7 ?hy5_6x7 hHeld ?rest5_6x7
        case hi5_6x7 => ((try simp only [List.getElem?_toArray, List.getElem?_cons_succ, List.getElem?_cons_zero]); (try rfl))
        case hq5_6x7 => exact fun _ _ _ h => h
        case hy5_6x7 => exact Or.inl ⟨by rfl, by intro w hSw; obtain ⟨_, hc⟩ := hSw; have q := hc.cell; clear hc; go_simp; try with_reducible rfl⟩
        try simp only [Act.put, List.setIfInBounds_toArray, List.set_cons_zero, List.set_cons_succ]
        refine wpAnyH_ready (rs := [7]) (by kernel_rfl) (by simp) ?_
        refine AllReadyH.cons rfl (fun K' hK => ?_) AllReadyH.nil
        have H1 := Lib.hid hHeld
        clear hHeld
        go_simp
        refine (TR.out _).mono ?_
        rintro e wx ⟨rfl, hwx⟩
        replace H1 := Lib.hid (H1.out.elim fun o h => (show ∃ o, CS w bc (oc + k) s o wx from ⟨o, h.call (by rcases hwx with rfl | rfl; exact Below.refl _ _; exact (Below.refl _ _).drew)⟩))
        have HXc : Hid (RX w o wx) := Lib.hid (by rcases hwx with rfl | rfl; exact HX.out; exact HX.out.call (Below.refl _ _).drew)
        clear hwx HX TR
        refine hK.out _ _ H1.out (fun hHeld => ?_)
        clear hK H1
        try simp only [Act.put, List.setIfInBounds_toArray, List.set_cons_zero, List.set_cons_succ]
        refine wpAnyH_ready (rs := [8]) (by kernel_rfl) (by simp) ?_
        refine AllReadyH.cons rfl (fun K' hK => ?_) AllReadyH.nil
        have H1 := Lib.hid hHeld
        clear hHeld
        go_simp
        refine (RDK.out _ HXc.out).mono ?_
        rintro e wx ⟨h, ho⟩
        rcases h with ⟨o', h, rfl, hr⟩ | ⟨h, rfl⟩
        rotate_left
        · have F := Lib.hid (NO.out h)
          exact ⟨rfl, Or.inr ⟨F.out, rfl⟩, HXc.out.below.trans (ho.below.mono (Nat.le_succ _))⟩
        have HXd := Lib.hid (HXc.out.read hr ho)
        have F := Lib.hid (YES.out o' h)
        replace H1 := Lib.hid (H1.out.elim fun _ h => (show ∃ o, CS w bc (oc + k) s o wx from ⟨o', HXd.out, (h.cell_only ho)⟩))
        clear HXc hr ho h RDK NO YES
        refine hK.out _ _ H1.out (fun hHeld => ?_)
        clear hK H1
        try simp only [Act.put, List.setIfInBounds_toArray, List.set_cons_zero, List.set_cons_succ]
        refine wpAnyH_done (by kernel_rfl) ?_ _
        clear hHeld
        go_wp2_with fail
        go_roundw
        case rel => exact ⟨k + 1, by omega, by go_num, Lib.hid ⟨o', F.out, HXd.out⟩⟩
        case measure => simp [intOf]; omega
      · have qo' : wr.cell? ⟨bo, oo + k, none⟩ = some (.int .i64 (6 : Int)) := qo
        have RDK := Lib.hid (fun w' (h : RX w o w') => rd6_any S (w.heap.size + 1) o w' (RD.out w' h).1 (RD.out w' h).2 h2)
        clear qo RD
        go_upto_region 7 with fail
        refine wp_region_held_drew (S := fun wx => ∃ o, CS w bc (oc + k) s o wx) (by kernel_rfl) ⟨_, CSd.out⟩ (fun hHeld => ?_)
        have HX : Hid (RX w o wr.drew) := Lib.hid CSd.out.rx
        clear CSd
        refine wpAnyH_take (i := 0) (oi := ?oi6_0x1) (v := ?v6_0x1) ?hi6_0x1 (by kernel_rfl) (by kernel_rfl) (by kernel_rfl) ?hq6_0x1 ?hy6_0x1 hHeld ?rest6_0x1
        case hi6_0x1 => ((try simp only [List.getElem?_toArray, List.getElem?_cons_succ, List.getElem?_cons_zero]); (try rfl))
        case hq6_0x1 => exact fun _ _ _ h => h
        case hy6_0x1 => exact Or.inl ⟨by rfl, by intro w hSw; clear hSw; go_simp; try with_reducible rfl⟩
        try simp only [Act.put, List.setIfInBounds_toArray, List.set_cons_zero, List.set_cons_succ]
        refine wpAnyH_take (i := 1) (oi := ?oi6_1x2) (v := ?v6_1x2) ?hi6_1x2 (by kernel_rfl) (by kernel_rfl) (by kernel_rfl) ?hq6_1x2 ?hy6_1x2 hHeld ?rest6_1x2
        case hi6_1x2 => ((try simp only [List.getElem?_toArray, List.getElem?_cons_succ, List.getElem?_cons_zero]); (try rfl))
        case hq6_1x2 => exact fun _ _ _ h => h
        case hy6_1x2 => exact Or.inl ⟨by rfl, by intro w hSw; clear hSw; go_simp; try with_reducible rfl⟩
        try simp only [Act.put, List.setIfInBounds_toArray, List.set_cons_zero, List.set_cons_succ]
        refine wpAnyH_take (i := 2) (oi := ?oi6_2x3) (v := ?v6_2x3) ?hi6_2x3 (by kernel_rfl) (by kernel_rfl) (by kernel_rfl) ?hq6_2x3 ?hy6_2x3 hHeld ?rest6_2x3
        case hi6_2x3 => ((try simp only [List.getElem?_toArray, List.getElem?_cons_succ, List.getElem?_cons_zero]); (try rfl))
        case hq6_2x3 => exact fun _ _ _ h => h
        case hy6_2x3 => exact Or.inl ⟨by rfl, by intro w hSw; obtain ⟨_, hc⟩ := hSw; have q := hc.rx.fn.cell (j := 6) (v := _) rfl; clear hc; go_simp; try with_reducible rfl⟩
        try simp only [Act.put, List.setIfInBounds_toArray, List.set_cons_zero, List.set_cons_succ]
        refine wpAnyH_take (i := 3) (oi := ?oi6_3x4) (v := ?v6_3x4) ?hi6_3x4 (by kernel_rfl) (by kernel_rfl) (by kernel_rfl) ?hq6_3x4 ?hy6_3x4 hHeld ?rest6_3x4
        case hi6_3x4 => ((try simp only [List.getElem?_toArray, List.getElem?_cons_succ, List.getElem?_cons_zero]); (try rfl))
        case hq6_3x4 => exact fun _ _ _ h => h
        case hy6_3x4 => exact Or.inl ⟨by rfl, by intro w hSw; clear hSw; go_simp; try with_reducible rfl⟩
        try simp only [Act.put, List.setIfInBounds_toArray, List.set_cons_zero, List.set_cons_succ]
        refine wpAnyH_take (i := 4) (oi := ?oi6_4x5) (v := ?v6_4x5) ?hi6_4x5 (by kernel_rfl) (by kernel_rfl) (by kernel_rfl) ?hq6_4x5 ?hy6_4x5 hHeld ?rest6_4x5
        case hi6_4x5 => ((try simp only [List.getElem?_toArray, List.getElem?_cons_succ, List.getElem?_cons_zero]); (try rfl))
        case hq6_4x5 => exact fun _ _ _ h => h
        case hy6_4x5 => exact Or.inl ⟨by rfl, by intro w hSw; clear hSw; go_simp; try with_reducible rfl⟩
        try simp only [Act.put, List.setIfInBounds_toArray, List.set_cons_zero, List.set_cons_succ]
        refine wpAnyH_take (i := 5) (oi := ?oi6_5x6) (v := ?v6_5x6) ?hi6_5x6 (by kernel_rfl) (by kernel_rfl) (by kernel_rfl) ?hq6_5x6 ?hy6_5x6 hHeld ?rest6_5x6
        case hi6_5x6 => ((try simp only [List.getElem?_toArray, List.getElem?_cons_succ, List.getElem?_cons_zero]); (try rfl))
        case hq6_5x6 => exact fun _ _ _ h => h
        case hy6_5x6 => exact Or.inl ⟨by rfl, by intro w hSw; clear hSw; go_simp; try with_reducible rfl⟩
        try simp only [Act.put, List.setIfInBounds_toArray, List.set_cons_zero, List.set_cons_succ]
        refine wpAnyH_take (i := 6) (oi := ?oi6_6x7) (v := ?v6_6x7) ?hi6_6x7 (by kernel_rfl) (by kernel_rfl) (by kernel_rfl) ?hq6_6x7 ?hy6_6x7 hHeld ?rest6_6x7
        case hi6_6x7 => ((try simp only [List.getElem?_toArray, List.getElem?_cons_succ, List.getElem?_cons_zero]); (try rfl))
        case hq6_6x7 => exact fun _ _ _ h => h
        case hy6_6x7 => exact Or.inl ⟨by rfl, by intro w hSw; obtain ⟨_, hc⟩ := hSw; have q := hc.cell; clear hc; go_simp; try with_reducible rfl⟩
        try simp only [Act.put, List.setIfInBounds_toArray, List.set_cons_zero, List.set_cons_succ]
        refine wpAnyH_ready (rs := [7]) (by kernel_rfl) (by simp) ?_
        refine AllReadyH.cons rfl (fun K' hK => ?_) AllReadyH.nil
        have H1 := Lib.hid hHeld
        clear hHeld
        go_simp
        refine (TR.out _).mono ?_
        rintro e wx ⟨rfl, hwx⟩
        replace H1 := Lib.hid (H1.out.elim fun o h => (show ∃ o, CS w bc (oc + k) s o wx from ⟨o, h.call (by rcases hwx with rfl | rfl; exact Below.refl _ _; exact (Below.refl _ _).drew)⟩))
        have HXc : Hid (RX w o wx) := Lib.hid (by rcases hwx with rfl | rfl; exact HX.out; exact HX.out.call (Below.refl _ _).drew)
        clear hwx HX TR
        refine hK.out _ _ H1.out (fun hHeld => ?_)
        clear hK H1
        try simp only [Act.put, List.setIfInBounds_toArray, List.set_cons_zero, List.set_cons_succ]
        refine wpAnyH_ready (rs := [8]) (by kernel_rfl) (by simp) ?_
        refine AllReadyH.cons rfl (fun K' hK => ?_) AllReadyH.nil
        have H1 := Lib.hid hHeld
        clear hHeld
        go_simp
        refine (RDK.out _ HXc.out).mono ?_
        rintro e wx ⟨h, ho⟩
        rcases h with ⟨o', h, rfl, hr⟩ | ⟨h, rfl⟩
        rotate_left
        · have F := Lib.hid (NO.out h)
          exact ⟨rfl, Or.inr ⟨F.out, rfl⟩, HXc.out.below.trans (ho.below.mono (Nat.le_succ _))⟩
        have HXd := Lib.hid (HXc.out.read hr ho)
        have F := Lib.hid (YES.out o' h)
        replace H1 := Lib.hid (H1.out.elim fun _ h => (show ∃ o, CS w bc (oc + k) s o wx from ⟨o', HXd.out, (h.cell_only ho)⟩))
        clear HXc hr ho h RDK NO YES
        refine hK.out _ _ H1.out (fun hHeld => ?_)
        clear hK H1
        try simp only [Act.put, List.setIfInBounds_toArray, List.set_cons_zero, List.set_cons_succ]
        refine wpAnyH_done (by kernel_rfl) ?_ _
        clear hHeld
        go_wp2_with fail
        go_roundw
        case rel => exact ⟨k + 1, by omega, by go_num, Lib.hid ⟨o', F.out, HXd.out⟩⟩
        case measure => simp [intOf]; omega
      · have qo' : wr.cell? ⟨bo, oo + k, none⟩ = some (.int .i64 (7 : Int)) := qo
        have RDK := Lib.hid (fun w' (h : RX w o w') => rd7_any S (w.heap.size + 1) o w' (RD.out w' h).1 h3)
        clear qo RD
        go_upto_region 7 with fail
        refine wp_region_held_drew (S := fun wx => ∃ o, CS w bc (oc + k) s o wx) (by kernel_rfl) ⟨_, CSd.out⟩ (fun hHeld => ?_)
        have HX : Hid (RX w o wr.drew) := Lib.hid CSd.out.rx
        clear CSd
        refine wpAnyH_take (i := 0) (oi := ?oi7_0x1) (v := ?v7_0x1) ?hi7_0x1 (by kernel_rfl) (by kernel_rfl) (by kernel_rfl) ?hq7_0x1 ?hy7_0x1 hHeld ?rest7_0x1
        case hi7_0x1 => ((try simp only [List.getElem?_toArray, List.getElem?_cons_succ, List.getElem?_cons_zero]); (try rfl))
        case hq7_0x1 => exact fun _ _ _ h => h
        case hy7_0x1 => exact Or.inl ⟨by rfl, by intro w hSw; clear hSw; go_simp; try with_reducible rfl⟩
        try simp only [Act.put, List.setIfInBounds_toArray, List.set_cons_zero, List.set_cons_succ]
        refine wpAnyH_take (i := 1) (oi := ?oi7_1x2) (v := ?v7_1x2) ?hi7_1x2 (by kernel_rfl) (by kernel_rfl) (by kernel_rfl) ?hq7_1x2 ?hy7_1x2 hHeld ?rest7_1x2
        case hi7_1x2 => ((try simp only [List.getElem?_toArray, List.getElem?_cons_succ, List.getElem?_cons_zero]); (try rfl))
        case hq7_1x2 => exact fun _ _ _ h => h
        case hy7_1x2 => exact Or.inl ⟨by rfl, by intro w hSw; clear hSw; go_simp; try with_reducible rfl⟩
        try simp only [Act.put, List.setIfInBounds_toArray, List.set_cons_zero, List.set_cons_succ]
        refine wpAnyH_take (i := 2) (oi := ?oi7_2x3) (v := ?v7_2x3) ?hi7_2x3 (by kernel_rfl) (by kernel_rfl) (by kernel_rfl) ?hq7_2x3 ?hy7_2x3 hHeld ?rest7_2x3
        case hi7_2x3 => ((try simp only [List.getElem?_toArray, List.getElem?_cons_succ, List.getElem?_cons_zero]); (try rfl))
        case hq7_2x3 => exact fun _ _ _ h => h
        case hy7_2x3 => exact Or.inl ⟨by rfl, by intro w hSw; obtain ⟨_, hc⟩ := hSw; have q := hc.rx.fn.cell (j := 7) (v := _) rfl; clear hc; go_simp; try with_reducible rfl⟩
        try simp only [Act.put, List.setIfInBounds_toArray, List.set_cons_zero, List.set_cons_succ]
        refine wpAnyH_take (i := 3) (oi := ?oi7_3x4) (v := ?v7_3x4) ?hi7_3x4 (by kernel_rfl) (by kernel_rfl) (by kernel_rfl) ?hq7_3x4 ?hy7_3x4 hHeld ?rest7_3x4
        case hi7_3x4 => ((try simp only [List.getElem?_toArray, List.getElem?_cons_succ, List.getElem?_cons_zero]); (try rfl))
        case hq7_3x4 => exact fun _ _ _ h => h
        case hy7_3x4 => exact Or.inl ⟨by rfl, by intro w hSw; clear hSw; go_simp; try with_reducible rfl⟩
        try simp only [Act.put, List.setIfInBounds_toArray, List.set_cons_zero, List.set_cons_succ]
        refine wpAnyH_take (i := 4) (oi := ?oi7_4x5) (v := ?v7_4x5) ?hi7_4x5 (by kernel_rfl) (by kernel_rfl) (by kernel_rfl) ?hq7_4x5 ?hy7_4x5 hHeld ?rest7_4x5
        case hi7_4x5 => ((try simp only [List.getElem?_toArray, List.getElem?_cons_succ, List.getElem?_cons_zero]); (try rfl))
        case hq7_4x5 => exact fun _ _ _ h => h
        case hy7_4x5 => exact Or.inl ⟨by rfl, by intro w hSw; clear hSw; go_simp; try with_reducible rfl⟩
        try simp only [Act.put, List.setIfInBounds_toArray, List.set_cons_zero, List.set_cons_succ]
        refine wpAnyH_take (i := 5) (oi := ?oi7_5x6) (v := ?v7_5x6) ?hi7_5x6 (by kernel_rfl) (by kernel_rfl) (by kernel_rfl) ?hq7_5x6 ?hy7_5x6 hHeld ?rest7_5x6
        case hi7_5x6 => ((try simp only [List.getElem?_toArray, List.getElem?_cons_succ, List.getElem?_cons_zero]); (try rfl))
        case hq7_5x6 => exact fun _ _ _ h => h
        case hy7_5x6 => exact Or.inl ⟨by rfl, by intro w hSw; clear hSw; go_simp; try with_reducible rfl⟩
        try simp only [Act.put, List.setIfInBounds_toArray, List.set_cons_zero, List.set_cons_succ]
        refine wpAnyH_take (i := 6) (oi := ?oi7_6x7) (v := ?v7_6x7) ?hi7_6x7 (by kernel_rfl) (by kernel_rfl) (by kernel_rfl) ?hq7_6x7 ?hy7_6x7 hHeld ?rest7_6x7
        case hi7_6x7 => ((try simp only [List.getElem?_toArray, List.getElem?_cons_succ, List.getElem?_cons_zero]); (try rfl))
        case hq7_6x7 => exact fun _ _ _ h => h
        case hy7_6x7 => exact Or.inl ⟨by rfl, by intro w hSw; obtain ⟨_, hc⟩ := hSw; have q := hc.cell; clear hc; go_simp; try with_reducible rfl⟩
        try simp only [Act.put, List.setIfInBounds_toArray, List.set_cons_zero, List.set_cons_succ]
        refine wpAnyH_ready (rs := [7]) (by kernel_rfl) (by simp) ?_
        refine AllReadyH.cons rfl (fun K' hK => ?_) AllReadyH.nil
        have H1 := Lib.hid hHeld
        clear hHeld
        go_simp
        refine (TR.out _).mono ?_
        rintro e wx ⟨rfl, hwx⟩
        replace H1 := Lib.hid (H1.out.elim fun o h => (show ∃ o, CS w bc (oc + k) s o wx from ⟨o, h.call (by rcases hwx with rfl | rfl; exact Below.refl _ _; exact (Below.refl _ _).drew)⟩))
        have HXc : Hid (RX w o wx) := Lib.hid (by rcases hwx with rfl | rfl; exact HX.out; exact HX.out.call (Below.refl _ _).drew)
        clear hwx HX TR
        refine hK.out _ _ H1.out (fun hHeld => ?_)
        clear hK H1
        try simp only [Act.put, List.setIfInBounds_toArray, List.set_cons_zero, List.set_cons_succ]
        refine wpAnyH_ready (rs := [8]) (by kernel_rfl) (by simp) ?_
        refine AllReadyH.cons rfl (fun K' hK => ?_) AllReadyH.nil
        have H1 := Lib.hid hHeld
        clear hHeld
        go_simp
        refine (RDK.out _ HXc.out).mono ?_
        rintro e wx ⟨h, ho⟩
        rcases h with ⟨o', h, rfl, hr⟩ | ⟨h, rfl⟩
        rotate_left
        · have F := Lib.hid (NO.out h)
          exact ⟨rfl, Or.inr ⟨F.out, rfl⟩, HXc.out.below.trans (ho.below.mono (Nat.le_succ _))⟩
        have HXd := Lib.hid (HXc.out.read hr ho)
        have F := Lib.hid (YES.out o' h)
        replace H1 := Lib.hid (H1.out.elim fun _ h => (show ∃ o, CS w bc (oc + k) s o wx from ⟨o', HXd.out, (h.cell_only ho)⟩))
        clear HXc hr ho h RDK NO YES
        refine hK.out _ _ H1.out (fun hHeld => ?_)
        clear hK H1
        try simp only [Act.put, List.setIfInBounds_toArray, List.set_cons_zero, List.set_cons_succ]
        refine wpAnyH_done (by kernel_rfl) ?_ _
        clear hHeld
        go_wp2_with fail
        go_roundw
        case rel => exact ⟨k + 1, by omega, by go_num, Lib.hid ⟨o', F.out, HXd.out⟩⟩
        case measure => simp [intOf]; omega
    · obtain rfl : k = m := by omega
      have i1 : ¬ (k : Int) < (k : Int) := by omega
      have FF := Lib.hid (show foldR L baseO = some o by have := FO.out; rwa [List.take_of_length_le (by rw [LL.out]; exact Nat.le_refl _)] at this)
      have bo := fold_ob FF.out base_ob LS.out
      have CK := Lib.hid (check_any o wr (HE.out _ HX0.out.below) bo.t0 bo.t1 bo.b0 bo.b1 bo.n1 bo.n2)
      have BO := Lib.hid bo
      have R := HX0.out.rd.row
      clear LS LK HC HO HE HM H8 HL FO bo
      go_wp2_with (refine wpList_load_mid rfl _ (.tmp 54) rfl (w.heap.size + 1) 0 rfl (obsC o) _ R Tryz.underlying33 rfl info8 ?_)
      refine CK.out.mono ?_
      rintro e w3 ⟨rfl, hb3⟩
      have HX3 := Lib.hid (HX0.out.call hb3)
      clear HX0 R CK hb3
      by_cases ok : okO o
      · have e0 : checkC o = 0 := if_pos ok
        have RR := Lib.hid (show rowR order (cells.map trimS) = some o by rw [EQ.out, FF.out]; exact if_pos ok)
        rw [e0]
        clear e0 ok EQ FF
        have R := HX3.out.rd.row
        have T := HX3.out.res.th
        have P := Lib.hid (HX3.out.res.sets (obsC o) rfl)
        have BE := Lib.hid (below_setCells w.heap.size (Nat.le_refl _) (obsC o) 0 w3 HX3.out.below)
        obtain ⟨w4, hw4⟩ : ∃ w4, w3.setCells w.heap.size 0 (obsC o) = w4 := ⟨_, rfl⟩
        rw [hw4] at P BE
        have HW4 := Lib.hid hw4
        have one : ((obsC o).toArray.all (·.oneCell')) = true := by simp [Value.oneCell']
        have ON := Lib.hid one
        clear hw4 one
        go_wp2_with fail
        refine (need_yes _).mono ?_
        rintro e w5 ⟨rfl, rfl⟩
        go_wp2_with (first | (refine wpList_load_mid rfl _ (.tmp 61) rfl (w.heap.size + 1) 0 rfl (obsC o) _ R Tryz.underlying33 rfl info8 ?_) | (refine wpList_store_mid rfl _ (.tmp 4) (.tmp 62) rfl w.heap.size 0 (obsC o).toArray rfl rfl T info8 ON.out ?_; rw [List.toList_toArray, HW4.out]))
        exact bodyPost_ret (ret_cell Tryz.results37 _ _ w.heap.size (obsC o) _ rfl P.out.row Tryz.underlying33 rfl info8) rfl ⟨Or.inl ⟨o, RR.out, rfl, BO.out⟩, BE.out⟩
      · have e0 : checkC o = 8 := if_neg ok
        have RR := Lib.hid (show rowR order (cells.map trimS) = none by rw [EQ.out, FF.out]; exact if_neg ok)
        rw [e0]
        clear e0 ok EQ FF
        go_wp2_with fail
        refine (need_no _).mono ?_
        rintro e w5 ⟨rfl, rfl⟩
        exact ⟨rfl, Or.inr ⟨RR.out, rfl⟩, HX3.out.below⟩
end Vw
end Go.Proofs.YtaghilgfldaaiaaGreatDoor
/-
  The walks of magText and fields of psv.
-/
namespace Go.Proofs.YtaghilgfldaaiaaGreatDoor
namespace Vw
open Go.RowKit Lw Go.Proofs.YtaghilgfldaaiaaGreatDoor.Ap Go.Proofs.YtaghilgfldaaiaaGreatDoor.Vp Go.Proofs.YtaghilgfldaaiaaGreatDoor.Op Go.Proofs.YtaghilgfldaaiaaGreatDoor.Ow Go.Proofs.YtaghilgfldaaiaaGreatDoor.Mp Go.Proofs.YtaghilgfldaaiaaGreatDoor.At

set_option maxRecDepth 100000 in
set_option maxHeartbeats 8000000 in
theorem vmag_any (m : Int) (w : World) (hT : Gt.Tab w) (h0 : -999 ≤ m) (h1 : m ≤ 9999) :
    Calls Tryz.prog 72 #[.int .i64 m] w fun e w' => e = .returned (.string (stL (Vp.magF m))) ∧ Below w.heap.size w w' := by
  by_cases h9 : m = 9999
  · subst h9
    go_enter Tryz.func72, Tryz.ntmps72
    go_wp2_with fail
    go_ret
    exact ⟨rfl, Below.refl _ _⟩
  have HF := Lib.hid (show Vp.magF m = magB m from if_neg h9)
  have c9 : (m == 9999) = false := beq_eq_false_iff_ne.2 h9
  have HB := Lib.hid (show magB m = (if m < 0 then [45] else []) ++ Lib.itoa ((m.natAbs / 100 : Nat) : Int) ++ [46] ++ [dg (m.natAbs / 10 % 10), dg (m.natAbs % 10)] from rfl)
  have em : max m (-m) = (m.natAbs : Int) := by omega
  have nb : m.natAbs ≤ 9999 := by omega
  generalize m.natAbs = n at *
  have i2 : ((n / 10 % 10 : Nat) : Int) = (n : Int) / 10 % 10 := by omega
  have i3 : ((n % 10 : Nat) : Int) = (n : Int) % 10 := by omega
  have i1 : ((n / 100 : Nat) : Int) = (n : Int) / 100 := by omega
  have I1 := Lib.hid (fun w' (h : Gt.Tab w') => itoa_any ((n / 100 : Nat) : Int) w' h (by omega) (by omega))
  have I2 := Lib.hid (fun w' (h : Gt.Tab w') => itoa_any ((n / 10 % 10 : Nat) : Int) w' h (by omega) (by omega))
  have I3 := Lib.hid (fun w' (h : Gt.Tab w') => itoa_any ((n % 10 : Nat) : Int) w' h (by omega) (by omega))
  rw [itoa_dg _ (Nat.mod_lt _ (by omega))] at I2 I3
  have l1 := Lib.itoa_length_le ((n / 100 : Nat) : Int) (by omega) (by omega)
  rw [i1] at I1 l1 HB
  rw [i2] at I2
  rw [i3] at I3
  clear i1 i2 i3 h9
  generalize Lib.itoa ((n : Int) / 100) = L at *
  generalize dg (n / 10 % 10) = x at *
  generalize dg (n % 10) = y at *
  have HT := Lib.hid hT
  clear hT
  go_enter Tryz.func72, Tryz.ntmps72
  go_wp2_with fail
  refine (I1.out _ HT.out).mono ?_
  rintro e w1 ⟨rfl, hb1⟩
  have HT1 := Lib.hid (HT.out.below hb1)
  clear I1
  go_wp2_with fail
  refine (I2.out _ HT1.out).mono ?_
  rintro e w2 ⟨rfl, hb2⟩
  have HT2 := Lib.hid (HT1.out.below hb2)
  have hb2 := below_then hb1 hb2
  clear I2 hb1 HT1
  go_wp2_with fail
  refine (I3.out _ HT2.out).mono ?_
  rintro e w3 ⟨rfl, hb3⟩
  have hb3 := below_then hb2 hb3
  clear I3 hb2 HT2
  by_cases hm : m < 0
  · rw [if_pos hm] at HB
    have E := Lib.hid (show Vp.magF m = [45] ++ (L ++ [46] ++ [x] ++ [y]) by rw [HF.out, HB.out]; simp)
    clear HF HB
    go_wp2_with fail
    go_ret
    have S1 : (⟨#[45]⟩ ++ ((⟨L.toArray⟩ : ByteArray) ++ ⟨#[46]⟩ ++ ⟨#[x]⟩ ++ ⟨#[y]⟩)) = stL ([45] ++ (L ++ [46] ++ [x] ++ [y])) := by
      apply ByteArray.ext
      simp [ByteArray.data_append, stL]
    exact ⟨by rw [E.out, ← S1]; rfl, hb3⟩
  · rw [if_neg hm, List.nil_append] at HB
    have E := Lib.hid (show Vp.magF m = L ++ [46] ++ [x] ++ [y] by rw [HF.out, HB.out]; simp)
    clear HF HB
    go_wp2_with fail
    go_ret
    have S1 : ((⟨L.toArray⟩ : ByteArray) ++ ⟨#[46]⟩ ++ ⟨#[x]⟩ ++ ⟨#[y]⟩) = stL (L ++ [46] ++ [x] ++ [y]) := by
      apply ByteArray.ext
      simp [ByteArray.data_append, stL]
    exact ⟨by rw [E.out, ← S1]; rfl, hb3⟩
end Vw
end Go.Proofs.YtaghilgfldaaiaaGreatDoor
