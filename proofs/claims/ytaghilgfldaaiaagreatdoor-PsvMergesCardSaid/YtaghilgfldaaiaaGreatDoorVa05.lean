/-
  Lemmas and walks, texts joined: OGreat, OBox, ORCheck, OAllW, Shelf3, OR15, ORLine, ORCut, MRef4, MRef5, MNumW, MLikeW, MRParse, MRPDay, ORRead, ORMagn, ORParse, ORRound, OPrAll, OApp, OCmpW, OCmpW2.
-/
import Derived.LoopTactic
import Derived.Deep.RegionHeld3
import Derived.Deep.MidRow
import Derived.Shelf.Strings.Builder2
import Derived.Shelf.Strings.BuilderF
import Derived.RegionTactic
import Derived.BigRegion
import Derived.BigQuiet
import Derived.Deep.DeepCutAuto
import Derived.StillTailTactics
import Derived.IntWalk
import Derived.OwnWalk
import Derived.Sort.Grow
import Derived.Test.YtaghilgfldaaiaaGreatDoorVa04
import Derived.Test.YtaghilgfldaaiaaGreatDoorVa02
import Derived.Test.YtaghilgfldaaiaaGreatDoorVa03
import Derived.Test.YtaghilgfldaaiaaGreatDoorVa01
set_option linter.unusedSimpArgs false
set_option linter.unusedVariables false
/-
  The walk of Great of the reference of observations.
-/
namespace Go.Proofs.YtaghilgfldaaiaaGreatDoor
namespace Ow
open Go.RowKit Lw Go.Proofs.YtaghilgfldaaiaaGreatDoor.Ap Go.Proofs.YtaghilgfldaaiaaGreatDoor.Op Go.Proofs.YtaghilgfldaaiaaGreatDoor.Mp Go.Proofs.YtaghilgfldaaiaaGreatDoor.Mw

/-- Observations in a row of memory. -/
def ObsAt (w : World) (b off : Nat) (l : List Ob) : Prop := ∀ i (h : i < l.length), w.rangeAt b (off + i * 8) (obsC (l[i]'h))
theorem ObsAt.below {w w' : World} {b off : Nat} {l : List Ob} (h : ObsAt w b off l) (hb : Below w.heap.size w w') (lt : b < w.heap.size) : ObsAt w' b off l := fun i hi => rangeAt_below (h i hi) hb lt
/-- An observation with long names. -/
def longP (o : Ob) : Prop := 100 < o.name.size ∨ 100 < o.site.size
instance (o : Ob) : Decidable (longP o) := by unfold longP; infer_instance
def greatB (l : List Ob) (most : Int) : Bool := decide ((∃ o ∈ l, longP o) ∨ (most < l.length ∧ (l.length : Int) ≤ 500) ∨ 510 < (l.length : Int))
theorem great_yes {l : List Ob} {most : Int} {i : Nat} (h : i < l.length) (g : longP l[i]) : greatB l most = true := decide_eq_true (Or.inl ⟨_, List.getElem_mem h, g⟩)
theorem great_no {l : List Ob} {most : Int} (h : ∀ i (hi : i < l.length), ¬ longP (l[i]'hi)) : greatB l most = decide ((most < l.length ∧ (l.length : Int) ≤ 500) ∨ 510 < (l.length : Int)) := by
  refine decide_eq_decide.2 ⟨fun g => ?_, fun g => Or.inr g⟩
  rcases g with ⟨o, ho, g⟩ | g
  · obtain ⟨i, hi, rfl⟩ := List.getElem_of_mem ho
    exact absurd g (h i hi)
  · exact g
end Ow
end Go.Proofs.YtaghilgfldaaiaaGreatDoor
/-
  An observation in a box: what stays at calls, and at stores into its cells.
-/
namespace Go.Proofs.YtaghilgfldaaiaaGreatDoor
namespace Ow
open Go.RowKit Lw Go.Proofs.YtaghilgfldaaiaaGreatDoor.Ap Go.Proofs.YtaghilgfldaaiaaGreatDoor.Op Go.Proofs.YtaghilgfldaaiaaGreatDoor.Mp Go.Proofs.YtaghilgfldaaiaaGreatDoor.Mw

structure Box (b : Nat) (o : Ob) (w : World) : Prop where
  lt : b < w.heap.size
  row : w.rangeAt b 0 (obsC o)
  th : w.there b 0 8
theorem Box.call {w w' : World} {b : Nat} {o : Ob} (h : Box b o w) (hb : Below w.heap.size w w') : Box b o w' := ⟨Nat.lt_of_lt_of_le h.lt hb.size, rangeAt_below h.row hb h.lt, there_below h.th hb h.lt⟩
theorem Box.new (w : World) (o : Ob) : Box w.heap.size o (w.alloc (.cells (obsC o).toArray 33)) := ⟨by simp, rangeAt_new w _ _, there_new w _ _ 8 (by show 8 ≤ 8; omega)⟩
theorem Box.set {w : World} {b : Nat} {o : Ob} (h : Box b o w) (i : Nat) (v : Value) (o' : Ob) (_hi : i < 8) (e : obsC o' = (obsC o).set i v) : Box b o' (w.setCell ⟨b, i, none⟩ v) := by
  have out := World.cell?_setCells_out b [v] i w
  have inn := World.cell?_setCells_in b [v] i w (fun j hj => by
    have hj : j < 1 := hj
    have := (h.th (i + j) (by omega)).1
    rwa [Nat.zero_add] at this)
  have ew : w.setCells b i [v] = w.setCell ⟨b, i, none⟩ v := rfl
  have fz : ∀ p, (w.setCell ⟨b, i, none⟩ v).frozen? p = w.frozen? p := fun p => by rw [← ew, World.frozen?_setCells]
  rw [ew] at out inn
  refine ⟨?_, ?_, ?_⟩
  · have := sets_size b [v] i w
    rw [ew] at this
    rw [this]; exact h.lt
  · intro j x hx
    rw [e] at hx
    rw [Nat.zero_add]
    by_cases hj : j = i
    · subst hj
      have hl : j < (obsC o).length := _hi
      rw [List.getElem?_set_self hl] at hx
      have := inn 0 (by show 0 < 1; omega)
      rw [Nat.add_zero] at this
      rw [this]; exact hx
    · rw [List.getElem?_set_ne (fun h => hj h.symm)] at hx
      rw [out _ (fun _ _ => by show j < i ∨ i + 1 ≤ j; omega)]
      have := h.row j x hx
      rwa [Nat.zero_add] at this
  · intro j hj
    refine ⟨?_, by rw [fz]; exact (h.th j hj).2⟩
    rw [Nat.zero_add]
    by_cases hj2 : j = i
    · subst hj2
      have := inn 0 (by show 0 < 1; omega)
      rw [Nat.add_zero] at this
      rw [this]; rfl
    · rw [out _ (fun _ _ => by show j < i ∨ i + 1 ≤ j; omega)]
      have := (h.th j hj).1
      rwa [Nat.zero_add] at this
theorem Box.apart {w : World} {b c : Nat} {o : Ob} (h : Box b o w) (hc : b ≠ c) (i : Nat) (v : Value) : Box b o (w.setCell ⟨c, i, none⟩ v) := by
  have out := World.cell?_setCells_out c [v] i w
  have ew : w.setCells c i [v] = w.setCell ⟨c, i, none⟩ v := rfl
  have fz : ∀ p, (w.setCell ⟨c, i, none⟩ v).frozen? p = w.frozen? p := fun p => by rw [← ew, World.frozen?_setCells]
  rw [ew] at out
  refine ⟨?_, ?_, ?_⟩
  · have := sets_size c [v] i w
    rw [ew] at this
    rw [this]; exact h.lt
  · intro j x hx
    rw [out _ (fun e => absurd e hc)]
    exact h.row j x hx
  · intro j hj
    rw [fz, out _ (fun e => absurd e hc)]
    exact h.th j hj
theorem OX.apart {w0 w : World} {b c : Nat} {o : Ob} (h : OX w0 b o w) (hc : b ≠ c) (h0 : w0.heap.size ≤ c) (i : Nat) (v : Value) : OX w0 b o (w.setCell ⟨c, i, none⟩ v) := by
  have out := World.cell?_setCells_out c [v] i w
  have ew : w.setCells c i [v] = w.setCell ⟨c, i, none⟩ v := rfl
  rw [ew] at out
  refine ⟨h.below.setCell (p := ⟨c, i, none⟩) h0 v, ?_, ?_⟩
  · have := sets_size c [v] i w
    rw [ew] at this
    rw [this]; exact h.lt
  · intro j x hx
    rw [out _ (fun e => absurd e hc)]
    exact h.row j x hx
end Ow
end Go.Proofs.YtaghilgfldaaiaaGreatDoor
/-
  The walk of Check of the reference of observations.
-/
namespace Go.Proofs.YtaghilgfldaaiaaGreatDoor
namespace Ow
open Go.RowKit Lw Go.Proofs.YtaghilgfldaaiaaGreatDoor.Ap Go.Proofs.YtaghilgfldaaiaaGreatDoor.Op Go.Proofs.YtaghilgfldaaiaaGreatDoor.Mp Go.Proofs.YtaghilgfldaaiaaGreatDoor.Mw

set_option maxRecDepth 100000 in
set_option maxHeartbeats 16000000 in
theorem rcheck_any (o : Ob) (w : World) (h0 : -9223372036854775808 ≤ o.t) (h1 : o.t ≤ 9223372036854775807) (b0 : 0 ≤ o.band) (b1 : o.band ≤ 255) (n1 : o.name.size ≤ maxLen) (n2 : o.site.size ≤ maxLen) :
    Calls Tryz.prog 17 #[obsV o] w fun e w' => e = .returned (.int .i64 (checkC o)) ∧ Below w.heap.size w w' := by
  have K1 := Lib.hid (fun (a : preB o = true) (b : magP o.mag o.band) => check_ok a b)
  have K2 := Lib.hid (fun (b : ¬ magP o.mag o.band) => check_m b)
  have K3 := Lib.hid (fun (b : preB o = false) => check_p b)
  have PD := Lib.hid (show preA o = decide (timeP o.t ∧ nameP o.name ∧ o.site.size = 3 ∧ wordP o.site.data.toList) from rfl)
  have PB := Lib.hid (preB_of o)
  have X0 := OX.new w o
  obtain ⟨nm, st, tt, ra, dec, sg, mg, bd⟩ := o
  simp only at h0 h1 b0 b1 n1 n2 K1 K2 PD PB
  generalize checkC ⟨nm, st, tt, ra, dec, sg, mg, bd⟩ = cc at *
  generalize preB ⟨nm, st, tt, ra, dec, sg, mg, bd⟩ = pb at *
  generalize preA ⟨nm, st, tt, ra, dec, sg, mg, bd⟩ = pa at *
  have C1 := Lib.hid (fun w' => rtime_any tt w' h0 h1)
  have C2 := Lib.hid (fun w' => rname_any nm w' n1)
  have C3 := Lib.hid (fun w' => rword_any st w' n2)
  have q0 := X0.row 0 _ rfl
  have q1 := X0.row 1 _ rfl
  have q2 := X0.row 2 _ rfl
  have q3 := X0.row 3 _ rfl
  have q4 := X0.row 4 _ rfl
  have q5 := X0.row 5 _ rfl
  have q6 := X0.row 6 _ rfl
  have q7 := X0.row 7 _ rfl
  simp only [Nat.zero_add] at q0 q1 q2 q3 q4 q5 q6 q7
  have XX := Lib.hid X0
  have NB := Lib.hid (show nameB nm = true ↔ nameP nm from decide_eq_true_iff)
  have WB := Lib.hid (show wordB st.data.toList = true ↔ wordP st.data.toList from decide_eq_true_iff)
  clear X0 h0 h1 n1
  unfold maxLen at n2
  generalize nameB nm = nb at *
  generalize wordB st.data.toList = wb at *
  go_enter Tryz.func17, Tryz.ntmps17
  go_wp2_with fail
  refine (C1.out _).mono ?_
  rintro e w1 ⟨y, m, d, h, i, s, u, c, rfl, hc, hb⟩
  have bb := below_then hb ((Below.refl _ w1).alloc (Nat.le_refl _) (.cells (dateC y m d h i s u).toArray 75))
  have X1 := XX.out.call bb
  have lt1 : w.heap.size < w1.heap.size := by have := hb.size; simp at this; omega
  clear q0 q1 q2 q3 q4 q5 q6 q7
  have q0 := (XX.out.call hb).row 0 _ rfl
  have q1 := (XX.out.call hb).row 1 _ rfl
  have q2 := (XX.out.call hb).row 2 _ rfl
  have q3 := (XX.out.call hb).row 3 _ rfl
  have q4 := (XX.out.call hb).row 4 _ rfl
  have q5 := (XX.out.call hb).row 5 _ rfl
  have q6 := (XX.out.call hb).row 6 _ rfl
  have q7 := (XX.out.call hb).row 7 _ rfl
  simp only [Nat.zero_add] at q0 q1 q2 q3 q4 q5 q6 q7
  have XX1 := Lib.hid X1
  have HC := Lib.hid hc
  clear hb bb X1 XX C1 hc
  go_upto_region 2 with (refine wpList_store_new rfl _ (.tmp 3) (.tmp 9) rfl _ _ rfl rfl info7 rfl ?_ ?_; simp [Value.oneCell'])
  go_cut [60] (fun q wx => q = .bool (!pb) ∧ OX w w.heap.size ⟨nm, st, tt, ra, dec, sg, mg, bd⟩ wx)
  case first =>
    clear K1 K2 K3
    cases nb
    · have P := Lib.hid (PD.out.trans (decide_eq_false fun g => by have := NB.out.2 g.2.1; cases this))
      have P2 := Lib.hid (PB.out.trans (by rw [P.out]; rfl : _ = false))
      clear PD PB P
      go_wp2_with (first | (refine (C2.out _).mono ?_; rintro e w2 ⟨rfl, rfl⟩) | (refine wpList_store_new rfl _ (.tmp 3) (.tmp 9) rfl _ _ rfl rfl info7 rfl ?_ ?_; simp [Value.oneCell']))
      go_meet
      exact ⟨by rw [P2.out]; rfl, XX1.out⟩
    · by_cases h3 : st.size = 3
      · have k3 : (st.size : Int) = 3 := by omega
        cases wb
        · have P := Lib.hid (PD.out.trans (decide_eq_false fun g => by have := WB.out.2 g.2.2.2; cases this))
          have P2 := Lib.hid (PB.out.trans (by rw [P.out]; rfl : _ = false))
          clear PD PB P
          go_wp2_with (first | (refine (C2.out _).mono ?_; rintro e w2 ⟨rfl, rfl⟩) | (refine (C3.out _).mono ?_; rintro e w3 ⟨rfl, rfl⟩) | (refine wpList_store_new rfl _ (.tmp 3) (.tmp 9) rfl _ _ rfl rfl info7 rfl ?_ ?_; simp [Value.oneCell']))
          go_meet
          exact ⟨by rw [P2.out]; rfl, XX1.out⟩
        · rcases HC.out with ⟨ht, rfl⟩ | ⟨ht, rfl⟩
          · have P := Lib.hid (PD.out.trans (decide_eq_true ⟨ht, NB.out.1 (by first | rfl | trivial), h3, WB.out.1 (by first | rfl | trivial)⟩))
            have P1 := Lib.hid (PB.out.trans (by rw [P.out, Bool.true_and] : _ = decide (rngP ra dec sg)))
            clear PD PB P ht HC
            rcases rng_cases ra dec sg with g | ⟨g, g'⟩
            · have P2 := Lib.hid (P1.out.trans (decide_eq_true g))
              obtain ⟨r1, r2, r3, r4, r5, r6⟩ := g
              clear P1
              go_wp2_with (first | (refine (C2.out _).mono ?_; rintro e w2 ⟨rfl, rfl⟩) | (refine (C3.out _).mono ?_; rintro e w3 ⟨rfl, rfl⟩) | (refine wpList_store_new rfl _ (.tmp 3) (.tmp 9) rfl _ _ rfl rfl info7 rfl ?_ ?_; simp [Value.oneCell']))
              go_meet
              exact ⟨by first | (rw [P2.out]; rfl) | (rw [P2.out]; congr 1; simp; omega), XX1.out⟩
            · have P2 := Lib.hid (P1.out.trans (decide_eq_false g))
              clear P1 g
              rcases g' with r1 | ⟨r1, r2⟩ | ⟨r1, r2, r3⟩ | ⟨r1, r2, r3, r4⟩ | ⟨r1, r2, r3, r4, r5⟩ | ⟨r1, r2, r3, r4, r5, r6⟩
              all_goals
                go_wp2_with (first | (refine (C2.out _).mono ?_; rintro e w2 ⟨rfl, rfl⟩) | (refine (C3.out _).mono ?_; rintro e w3 ⟨rfl, rfl⟩) | (refine wpList_store_new rfl _ (.tmp 3) (.tmp 9) rfl _ _ rfl rfl info7 rfl ?_ ?_; simp [Value.oneCell']))
                go_meet
                exact ⟨by first | (rw [P2.out]; rfl) | (rw [P2.out]; congr 1; simp; omega), XX1.out⟩
          · have P := Lib.hid (PD.out.trans (decide_eq_false fun g => ht g.1))
            have P2 := Lib.hid (PB.out.trans (by rw [P.out]; rfl : _ = false))
            clear PD PB P ht HC
            go_wp2_with (first | (refine (C2.out _).mono ?_; rintro e w2 ⟨rfl, rfl⟩) | (refine (C3.out _).mono ?_; rintro e w3 ⟨rfl, rfl⟩) | (refine wpList_store_new rfl _ (.tmp 3) (.tmp 9) rfl _ _ rfl rfl info7 rfl ?_ ?_; simp [Value.oneCell']))
            go_meet
            exact ⟨by rw [P2.out]; rfl, XX1.out⟩
      · have P := Lib.hid (PD.out.trans (decide_eq_false fun g => h3 g.2.2.1))
        have P2 := Lib.hid (PB.out.trans (by rw [P.out]; rfl : _ = false))
        have k3 : ¬ (st.size : Int) = 3 := by omega
        clear PD PB P
        go_wp2_with (first | (refine (C2.out _).mono ?_; rintro e w2 ⟨rfl, rfl⟩) | (refine wpList_store_new rfl _ (.tmp 3) (.tmp 9) rfl _ _ rfl rfl info7 rfl ?_ ?_; simp [Value.oneCell']))
        go_meet
        exact ⟨by rw [P2.out]; rfl, XX1.out⟩
  case rest =>
    obtain ⟨rfl, X4⟩ := hcut
    clear q0 q1 q2 q3 q4 q5 q6 q7
    have q0 := X4.row 0 _ rfl
    have q1 := X4.row 1 _ rfl
    have q2 := X4.row 2 _ rfl
    have q3 := X4.row 3 _ rfl
    have q4 := X4.row 4 _ rfl
    have q5 := X4.row 5 _ rfl
    have q6 := X4.row 6 _ rfl
    have q7 := X4.row 7 _ rfl
    simp only [Nat.zero_add] at q0 q1 q2 q3 q4 q5 q6 q7
    have XX4 := Lib.hid X4
    clear X4 XX1 HC PD PB C2 C3 NB WB lt1
    cases pb
    · have E := Lib.hid (K3.out rfl)
      clear K1 K2 K3
      go_wp2_with fail
      go_ret
      exact ⟨by rw [E.out]; rfl, XX4.out.below⟩
    · have L1 := Lib.hid (fun w' => rletter_any bd w')
      rcases mag_cases mg bd with ⟨rfl, rfl, g⟩ | ⟨h9, rfl, h1, g⟩ | ⟨h9, rfl, h1, h2, g⟩ | ⟨h9, rfl, h1, h2, g⟩ | ⟨hb, h1, g⟩ | ⟨hb, h1, h2, h9, g⟩ | ⟨hb, rfl, g⟩ | ⟨hb, h1, h2, h9, g⟩
      · have E := Lib.hid (K1.out rfl g)
        clear K1 K2 K3 g
        go_wp2_with fail
        go_ret
        exact ⟨by rw [E.out]; rfl, XX4.out.below⟩
      · have E := Lib.hid (K2.out g)
        clear K1 K2 K3 g
        have hm2 : (mg == 9999) = false := beq_eq_false_iff_ne.2 h9
        go_wp2_with fail
        go_ret
        exact ⟨by rw [E.out]; rfl, XX4.out.below⟩
      · have E := Lib.hid (K2.out g)
        clear K1 K2 K3 g
        have hm2 : (mg == 9999) = false := beq_eq_false_iff_ne.2 h9
        go_wp2_with fail
        go_ret
        exact ⟨by rw [E.out]; rfl, XX4.out.below⟩
      · have E := Lib.hid (K1.out rfl g)
        have el : ltB 32 = false := by decide
        rw [el] at L1
        clear K1 K2 K3 g el
        have hm2 : (mg == 9999) = false := beq_eq_false_iff_ne.2 h9
        go_wp2_with (refine (L1.out _).mono ?_; rintro e w5 ⟨rfl, rfl⟩)
        go_ret
        exact ⟨by rw [E.out]; rfl, XX4.out.below⟩
      · have E := Lib.hid (K2.out g)
        clear K1 K2 K3 g
        have h9 : mg ≠ 9999 := by omega
        have hb2 : (bd == 32) = false := beq_eq_false_iff_ne.2 hb
        have hb3 : (bd != 32) = true := by simpa using hb
        have hm2 : (mg == 9999) = false := beq_eq_false_iff_ne.2 h9
        go_wp2_with fail
        go_ret
        exact ⟨by rw [E.out]; rfl, XX4.out.below⟩
      · have E := Lib.hid (K2.out g)
        clear K1 K2 K3 g
        have hb2 : (bd == 32) = false := beq_eq_false_iff_ne.2 hb
        have hb3 : (bd != 32) = true := by simpa using hb
        have hm2 : (mg == 9999) = false := beq_eq_false_iff_ne.2 h9
        go_wp2_with fail
        go_ret
        exact ⟨by rw [E.out]; rfl, XX4.out.below⟩
      · have E := Lib.hid (K2.out g)
        clear K1 K2 K3 g
        have hb2 : (bd == 32) = false := beq_eq_false_iff_ne.2 hb
        have hb3 : (bd != 32) = true := by simpa using hb
        go_wp2_with fail
        go_ret
        exact ⟨by rw [E.out]; rfl, XX4.out.below⟩
      · rcases lt_cases bd with ⟨hl, el⟩ | ⟨hl, el⟩
        · have E := Lib.hid (K1.out rfl (g.2 hl))
          rw [el] at L1
          clear K1 K2 K3 g hl el
          have hb2 : (bd == 32) = false := beq_eq_false_iff_ne.2 hb
          have hb3 : (bd != 32) = true := by simpa using hb
          have hm2 : (mg == 9999) = false := beq_eq_false_iff_ne.2 h9
          go_wp2_with (refine (L1.out _).mono ?_; rintro e w5 ⟨rfl, rfl⟩)
          go_ret
          exact ⟨by rw [E.out]; rfl, XX4.out.below⟩
        · have E := Lib.hid (K2.out (fun x => hl (g.1 x)))
          rw [el] at L1
          clear K1 K2 K3 g hl el
          have hb2 : (bd == 32) = false := beq_eq_false_iff_ne.2 hb
          have hb3 : (bd != 32) = true := by simpa using hb
          have hm2 : (mg == 9999) = false := beq_eq_false_iff_ne.2 h9
          go_wp2_with (refine (L1.out _).mono ?_; rintro e w5 ⟨rfl, rfl⟩)
          go_ret
          exact ⟨by rw [E.out]; rfl, XX4.out.below⟩
end Ow
end Go.Proofs.YtaghilgfldaaiaaGreatDoor
/-
  Slices of observations; the walks of checkAll of obs, and of All, Same of the reference.
-/
namespace Go.Proofs.YtaghilgfldaaiaaGreatDoor
namespace Ow
open Go.RowKit Lw Go.Proofs.YtaghilgfldaaiaaGreatDoor.Ap Go.Proofs.YtaghilgfldaaiaaGreatDoor.Op Go.Proofs.YtaghilgfldaaiaaGreatDoor.Mp Go.Proofs.YtaghilgfldaaiaaGreatDoor.Mw Go.Proofs.YtaghilgfldaaiaaGreatDoor.At

/-- A slice's address, and the observations that it holds. -/
def SlA (w : World) (x : Option Addr) (l : List Ob) : Prop := l = [] ∨ ∃ b off, x = some ⟨b, off, none⟩ ∧ b < w.heap.size ∧ ObsAt w b off l
theorem SlA.below {w w' : World} {x : Option Addr} {l : List Ob} (h : SlA w x l) (hb : Below w.heap.size w w') : SlA w' x l := by
  rcases h with h | ⟨b, off, h1, h2, h3⟩
  · exact Or.inl h
  · exact Or.inr ⟨b, off, h1, Nat.lt_of_lt_of_le h2 hb.size, h3.below hb h2⟩
theorem SlA.get {w : World} {x : Option Addr} {l : List Ob} (h : SlA w x l) {i : Nat} (hi : i < l.length) : ∃ b off, x = some ⟨b, off, none⟩ ∧ b < w.heap.size ∧ ObsAt w b off l := by
  rcases h with rfl | h
  · simp at hi
  · exact h
/-- The bounds of a list. -/
def OBs (l : List Ob) : Prop := ∀ i (h : i < l.length), OB (l[i]'h)
set_option maxRecDepth 100000 in
set_option maxHeartbeats 8000000 in
theorem checkall_any (x : Option Addr) (cap : Nat) (l : List Ob) (w : World) (hE : ES w) (hl : SlA w x l) (hm : l.length ≤ 1000000) (hb : OBs l) :
    Calls Tryz.prog 65 #[.slice x l.length cap] w fun e w' => e = .returned (.int .i64 (allC l)) ∧ Below w.heap.size w w' := by
  have HL := Lib.hid (fun w' (h : Below w.heap.size w w') => hl.below h)
  have HE := Lib.hid (fun w' (h : Below w.heap.size w w') => hE.below h)
  have CK := Lib.hid (fun i (h : i < l.length) w' (g : ES w') => check_any (l[i]'h) w' g (hb i h).t0 (hb i h).t1 (hb i h).b0 (hb i h).b1 (hb i h).n1 (hb i h).n2)
  obtain ⟨n, hnl⟩ : ∃ n, l.length = n := ⟨_, rfl⟩
  have GM : Hid (500 < n → allC l = 4) := Lib.hid (fun h => allC_many (by omega))
  have GB : Hid (n ≤ 500 → ∀ i (h : i < l.length), ¬ okO (l[i]'h) → allC l = 8) := Lib.hid (fun a i h g => allC_bad (by omega) h g)
  have GZ : Hid (n ≤ 500 → (∀ i (h : i < l.length), okO (l[i]'h)) → allC l = 0) := Lib.hid (fun a g => allC_zero (by omega) (fun o ho => by
    obtain ⟨i, hi, rfl⟩ := List.getElem_of_mem ho
    exact g i hi))
  generalize allC l = K at *
  rw [hnl] at hm ⊢
  have NL := Lib.hid hnl
  clear hl hE hb hnl
  by_cases h5 : 500 < n
  · have h5' : (500 : Int) < (n : Int) := by omega
    obtain rfl := GM.out h5
    clear CK GM GB GZ HL HE NL
    go_enter Tryz.func65, Tryz.ntmps65
    go_wp2_with fail
    go_ret
    exact ⟨rfl, Below.refl _ _⟩
  · have h5' : ¬ (500 : Int) < (n : Int) := by omega
    clear GM
    go_enter Tryz.func65, Tryz.ntmps65
    go_wp2_with fail
    go_loopw [11] (fun i wr => ∃ k : Nat, k ≤ n ∧ i = .int .i64 k ∧ Hid (∀ j (h : j < l.length), j < k → okO (l[j]'h)) ∧ Hid (Below w.heap.size w wr)) (fun i _ => n - (intOf i).toNat)
    case atStart => exact ⟨0, Nat.zero_le _, rfl, Lib.hid (fun j _ h => by omega), Lib.hid (Below.refl _ _)⟩
    case round =>
      obtain ⟨k, hk, rfl, D, B⟩ := hrel
      by_cases hlt : k < n
      · have hkl : k < l.length := by rw [NL.out]; exact hlt
        obtain ⟨b, off, rfl, lt, row⟩ := (HL.out _ B.out).get hkl
        have R := Lib.hid (row k hkl)
        have CKk := Lib.hid (CK.out k hkl)
        have GBk := Lib.hid (fun (g : ¬ okO (l[k]'hkl)) => GB.out (by omega) k hkl g)
        have DK := Lib.hid (fun (g : okO (l[k]'hkl)) => (show ∀ j (h : j < l.length), j < k + 1 → okO (l[j]'h) from fun j h hj => by
          by_cases e : j = k
          · subst e; exact g
          · exact D.out j h (by omega)))
        have i1 : (k : Int) < (n : Int) := by omega
        clear D GB GZ row lt CK
        generalize l[k]'hkl = o at *
        have X0 := Lib.hid (Box.new wr o)
        have B1 := Lib.hid (B.out.alloc B.out.size (.cells (obsC o).toArray 33))
        have E1 := Lib.hid (HE.out _ B1.out)
        clear B
        go_wp2_with (first | (refine wpList_store_new rfl _ (.tmp 4) (.tmp 14) rfl _ _ rfl rfl info8 rfl ?_ ?_; simp [Value.oneCell']) | (refine wpList_load_mid rfl _ (.tmp 13) rfl b (off + k * 8) rfl (obsC o) _ R.out Tryz.underlying33 rfl info8 ?_) | (refine wpList_load_mid rfl _ (.tmp 4) rfl wr.heap.size 0 rfl (obsC o) _ X0.out.row Tryz.underlying33 rfl info8 ?_))
        refine (CKk.out _ E1.out).mono ?_
        rintro e w2 ⟨rfl, hb2⟩
        have B2 := Lib.hid (below_then B1.out hb2)
        clear hb2 B1 E1 CKk X0 R
        by_cases ok : okO o
        · rw [show checkC o = 0 from if_pos ok]
          have D2 := Lib.hid (DK.out ok)
          clear DK GBk
          go_wp2_with fail
          go_roundw
          case rel => exact ⟨k + 1, by omega, by go_num, D2, B2⟩
          case measure => simp [intOf]; omega
        · rw [show checkC o = 8 from if_neg ok]
          obtain rfl := GBk.out ok
          clear DK
          go_wp2_with fail
          go_ret
          exact ⟨rfl, B2.out⟩
      · obtain rfl : k = n := by omega
        obtain rfl := GZ.out (by omega) (fun i hi => D.out i hi (by have := NL.out; omega))
        clear GZ D GB HL CK
        go_wp2_with fail
        go_ret
        exact ⟨rfl, B.out⟩
set_option maxRecDepth 100000 in
set_option maxHeartbeats 8000000 in
theorem rall_any (x : Option Addr) (cap : Nat) (l : List Ob) (w : World) (hl : SlA w x l) (hm : l.length ≤ 1000000) (hb : OBs l) :
    Calls Tryz.prog 21 #[.slice x l.length cap] w fun e w' => e = .returned (.int .i64 (allC l)) ∧ Below w.heap.size w w' := by
  have HL := Lib.hid (fun w' (h : Below w.heap.size w w') => hl.below h)
  have CK := Lib.hid (fun i (h : i < l.length) w' => rcheck_any (l[i]'h) w' (hb i h).t0 (hb i h).t1 (hb i h).b0 (hb i h).b1 (hb i h).n1 (hb i h).n2)
  obtain ⟨n, hnl⟩ : ∃ n, l.length = n := ⟨_, rfl⟩
  have GM : Hid (500 < n → allC l = 4) := Lib.hid (fun h => allC_many (by omega))
  have GB : Hid (n ≤ 500 → ∀ i (h : i < l.length), ¬ okO (l[i]'h) → allC l = 8) := Lib.hid (fun a i h g => allC_bad (by omega) h g)
  have GZ : Hid (n ≤ 500 → (∀ i (h : i < l.length), okO (l[i]'h)) → allC l = 0) := Lib.hid (fun a g => allC_zero (by omega) (fun o ho => by
    obtain ⟨i, hi, rfl⟩ := List.getElem_of_mem ho
    exact g i hi))
  generalize allC l = K at *
  rw [hnl] at hm ⊢
  have NL := Lib.hid hnl
  clear hl hb hnl
  by_cases h5 : 500 < n
  · have h5' : (500 : Int) < (n : Int) := by omega
    obtain rfl := GM.out h5
    clear CK GM GB GZ HL NL
    go_enter Tryz.func21, Tryz.ntmps21
    go_wp2_with fail
    go_ret
    exact ⟨rfl, Below.refl _ _⟩
  · have h5' : ¬ (500 : Int) < (n : Int) := by omega
    clear GM
    go_enter Tryz.func21, Tryz.ntmps21
    go_wp2_with fail
    go_loopw [3] (fun i wr => ∃ k : Nat, k ≤ n ∧ i = .int .i64 k ∧ Hid (∀ j (h : j < l.length), j < k → okO (l[j]'h)) ∧ Hid (Below w.heap.size w wr)) (fun i _ => n - (intOf i).toNat)
    case atStart => exact ⟨0, Nat.zero_le _, rfl, Lib.hid (fun j _ h => by omega), Lib.hid (Below.refl _ _)⟩
    case round =>
      obtain ⟨k, hk, rfl, D, B⟩ := hrel
      by_cases hlt : k < n
      · have hkl : k < l.length := by rw [NL.out]; exact hlt
        obtain ⟨b, off, rfl, lt, row⟩ := (HL.out _ B.out).get hkl
        have R := Lib.hid (row k hkl)
        have CKk := Lib.hid (CK.out k hkl)
        have GBk := Lib.hid (fun (g : ¬ okO (l[k]'hkl)) => GB.out (by omega) k hkl g)
        have DK := Lib.hid (fun (g : okO (l[k]'hkl)) => (show ∀ j (h : j < l.length), j < k + 1 → okO (l[j]'h) from fun j h hj => by
          by_cases e : j = k
          · subst e; exact g
          · exact D.out j h (by omega)))
        have i1 : (k : Int) < (n : Int) := by omega
        clear D GB GZ row lt CK
        generalize l[k]'hkl = o at *
        go_wp2_with (refine wpList_load_mid rfl _ (.tmp 15) rfl b (off + k * 8) rfl (obsC o) _ R.out Tryz.underlying33 rfl info8 ?_)
        refine (CKk.out _).mono ?_
        rintro e w2 ⟨rfl, hb2⟩
        have B2 := Lib.hid (below_then B.out hb2)
        clear hb2 B CKk R
        by_cases ok : okO o
        · rw [show checkC o = 0 from if_pos ok]
          have D2 := Lib.hid (DK.out ok)
          clear DK GBk
          go_wp2_with fail
          go_roundw
          case rel => exact ⟨k + 1, by omega, by go_num, D2, B2⟩
          case measure => simp [intOf]; omega
        · rw [show checkC o = 8 from if_neg ok]
          obtain rfl := GBk.out ok
          clear DK
          go_wp2_with fail
          go_ret
          exact ⟨rfl, B2.out⟩
      · obtain rfl : k = n := by omega
        obtain rfl := GZ.out (by omega) (fun i hi => D.out i hi (by have := NL.out; omega))
        clear GZ D GB HL CK
        go_wp2_with fail
        go_ret
        exact ⟨rfl, B.out⟩
end Ow
end Go.Proofs.YtaghilgfldaaiaaGreatDoor
/-
  The library contracts of a builder, laid at this program.
-/
namespace Go.Proofs
open Go.Shelf
end Go.Proofs
/-
  The walks of the reference's texts of angles at the digits of a line: digitsOf, sexagesimal, RaText, DecText.
-/
namespace Go.Proofs.YtaghilgfldaaiaaGreatDoor
namespace Ow
open Go.RowKit Lw Go.Proofs.YtaghilgfldaaiaaGreatDoor.Ap Go.Proofs.YtaghilgfldaaiaaGreatDoor.Op Go.Proofs.YtaghilgfldaaiaaGreatDoor.Mp Go.Proofs.YtaghilgfldaaiaaGreatDoor.Mw Go.Proofs.YtaghilgfldaaiaaGreatDoor.At

theorem ten_mono {k : Nat} (h : k ≤ 12) : 10 ^ k ≤ 1000000000000 := Nat.pow_le_pow_right (n := 10) (by omega) h
set_option maxRecDepth 100000 in
set_option maxHeartbeats 2000000 in
theorem digs15_any (n k : Nat) (w : World) (hn : n < 10 ^ k) (hk : k ≤ 12) :
    Calls Tryz.prog 92 #[.int .i64 n, .int .i64 k] w fun e w' => e = .returned (.string ⟨(decL n k).toArray⟩) ∧ w = w' := by
  have n9 : n ≤ 1000000000000 := by have := ten_mono hk; omega
  go_enter Tryz.func92, Tryz.ntmps92
  go_wp2
  go_loop [0, 6] (fun v s => ∃ j u : Nat, ∃ S : ByteArray, j ≤ k ∧ s = .string S ∧ v = .int .i64 u ∧ u ≤ 1000000000000 ∧ Hid (u = n / 10 ^ j ∧ S = ⟨(decL n j).toArray⟩) ∧ S.size = j ∧ (0 < u → j < k)) (fun _ s => k - lenOfV s)
  case atStart => exact ⟨0, n, ⟨#[]⟩, Nat.zero_le _, rfl, rfl, n9, Lib.hid ⟨by simp, rfl⟩, rfl, fun h => by
    rcases Nat.eq_zero_or_pos k with g | g
    · subst g; simp at hn; omega
    · exact g⟩
  case round =>
    obtain ⟨j, u, S, hj, rfl, rfl, hu, D, hS, hlt⟩ := hrel
    by_cases lt : j < k
    · by_cases hz : (0 : Int) < (u : Int)
      · obtain ⟨m, hm⟩ : ∃ m, m = u % 10 := ⟨_, rfl⟩
        obtain ⟨u', hu'⟩ : ∃ u', u' = u / 10 := ⟨_, rfl⟩
        have r1 : (u : Int) % 10 = (m : Int) := by omega
        have r2 : (u : Int) / 10 = (u' : Int) := by omega
        have m0 : m < 10 := by omega
        have de := dig_ext m m0
        have D2 := Lib.hid (show u' = n / 10 ^ (j + 1) ∧ (⟨#[dg m]⟩ ++ S : ByteArray) = ⟨(decL n (j + 1)).toArray⟩ from ⟨by rw [hu', D.out.1, Nat.div_div_eq_div_mul, Nat.pow_succ], by rw [D.out.2, str_cons, dec_cons, hm, D.out.1]⟩)
        have sz : (⟨#[dg m]⟩ ++ S : ByteArray).size = j + 1 := by rw [ByteArray.size_append, hS]; show 1 + j = _; omega
        have u0 : u' ≤ 1000000000000 := by omega
        have L2 : 0 < u' → j + 1 < k := fun h => by
          rcases Nat.lt_or_ge (j + 1) k with g | g
          · exact g
          · have e : j + 1 = k := by omega
            have := D2.out.1
            rw [e, Nat.div_eq_of_lt hn] at this
            omega
        have i1 : (m : Int) ≤ 9 := by omega
        have i0 : 0 ≤ (m : Int) := by omega
        clear hm hu' m0 hlt
        go_wp2
        go_round
        case rel => exact ⟨j + 1, u', _, by omega, rfl, by go_num, u0, D2, sz, L2⟩
        case measure => simp only [lenOfV, sz, hS]; omega
      · obtain rfl : u = 0 := by omega
        have de := dig_ext 0 (by omega)
        have de2 : (⟨#[48, 49, 50, 51, 52, 53, 54, 55, 56, 57]⟩ : ByteArray).extract 0 1 = ⟨#[dg 0]⟩ := de
        have D2 := Lib.hid (show 0 = n / 10 ^ (j + 1) ∧ (⟨#[dg 0]⟩ ++ S : ByteArray) = ⟨(decL n (j + 1)).toArray⟩ from ⟨by rw [Nat.pow_succ, ← Nat.div_div_eq_div_mul, ← D.out.1], by rw [D.out.2, str_cons, dec_cons, ← D.out.1]⟩)
        have sz : (⟨#[dg 0]⟩ ++ S : ByteArray).size = j + 1 := by rw [ByteArray.size_append, hS]; show 1 + j = _; omega
        have sj : (S.size : Int) < (k : Int) := by omega
        clear hlt hz
        go_wp2
        go_round
        case rel => exact ⟨j + 1, 0, _, by omega, rfl, by first | rfl | go_num, by omega, D2, sz, fun h => absurd h (Nat.lt_irrefl 0)⟩
        case measure => simp only [lenOfV, sz, hS]; omega
    · obtain rfl : j = k := by omega
      have u0 : u = 0 := by
        rcases Nat.eq_zero_or_pos u with g | g
        · exact g
        · have := hlt g; omega
      subst u0
      have E := Lib.hid D.out.2
      clear D hlt
      go_wp2
      go_ret
      exact ⟨by rw [E.out]; rfl, rfl⟩
end Ow
end Go.Proofs.YtaghilgfldaaiaaGreatDoor
/-
  The walk of line of the reference of observations.
-/
namespace Go.Proofs.YtaghilgfldaaiaaGreatDoor
namespace Ow
open Go.RowKit Lw Go.Proofs.YtaghilgfldaaiaaGreatDoor.Ap Go.Proofs.YtaghilgfldaaiaaGreatDoor.Op Go.Proofs.YtaghilgfldaaiaaGreatDoor.Mp Go.Proofs.YtaghilgfldaaiaaGreatDoor.Mw Go.Proofs.YtaghilgfldaaiaaGreatDoor.At

/-- The same with the cells that are read. -/
abbrev LS (w0 : World) (b : Nat) (o : Ob) (w : World) : Prop := w.cell? ⟨b, 6, none⟩ = some (.int .i64 o.mag) ∧ w.cell? ⟨b, 7, none⟩ = some (.int .u8 o.band) ∧ OX w0 b o w
theorem OX.ls {w0 w : World} {b : Nat} {o : Ob} (h : OX w0 b o w) : LS w0 b o w := by
  have a := h.row 6 _ rfl
  have c := h.row 7 _ rfl
  rw [Nat.zero_add] at a c
  exact ⟨a, c, h⟩
theorem one_u8 (u : UInt8) (W : World) (b : Nat) (h : W.cell? ⟨b, 0, none⟩ = some (.int .u8 (u.toNat : Int))) : (convert 82 9 (.slice (some ⟨b, 0, none⟩) 1 1)).run Tryz.prog W = .ok (.string ⟨#[u]⟩) W :=
  run_convert_bytes_back (P := Tryz.prog) W 82 9 5 ⟨b, 0, none⟩ 1 [u] Tryz.underlying82 Tryz.underlying5 Tryz.underlying9 (fun j hj => by
    have hj : j < 1 := hj
    obtain rfl : j = 0 := by omega
    rw [Addr.add_mid, h]
    rfl)
end Ow
end Go.Proofs.YtaghilgfldaaiaaGreatDoor
/-
  The walks of cut, blank, decimals of the reference of observations.
-/
namespace Go.Proofs.YtaghilgfldaaiaaGreatDoor
namespace Ow
open Go.RowKit Lw Go.Proofs.YtaghilgfldaaiaaGreatDoor.Ap Go.Proofs.YtaghilgfldaaiaaGreatDoor.Op Go.Proofs.YtaghilgfldaaiaaGreatDoor.Mp Go.Proofs.YtaghilgfldaaiaaGreatDoor.Mw Go.Proofs.YtaghilgfldaaiaaGreatDoor.At

theorem cutL_sp (l : List UInt8) : cutL (l ++ [32]) = cutL l := by
  unfold cutL
  rw [List.reverse_append, List.reverse_singleton, List.singleton_append, List.dropWhile_cons_of_pos (by rfl)]
theorem last_of {S : ByteArray} {m : Nat} (h : S.size = m + 1) (hm : m < S.size) : S.data.toList = (S.extract 0 m).data.toList ++ [S[m]'hm] := by
  rw [ext_L S 0 m (by omega), List.drop_zero, Nat.sub_zero]
  have := take_snoc S m hm
  rw [← this, List.take_of_length_le (by rw [← size_L]; omega)]
end Ow
end Go.Proofs.YtaghilgfldaaiaaGreatDoor
/-
  The walks of valid and FromUtc of the reference.
-/
namespace Go.Proofs.YtaghilgfldaaiaaGreatDoor
namespace Mw
open Go.RowKit Go.Proofs.YtaghilgfldaaiaaGreatDoor.Mp Lw


def ValidPost (y m d h i s u : Int) (w : World) (e : Ending) (w' : World) : Prop := ∃ b : Bool, e = .returned (.bool b) ∧ (b = true ↔ fromOk y m d h i s u) ∧ Below w.heap.size w w'

theorem valid_no {y m d h i s u : Int} {w w' : World} (hB : Below w.heap.size w w') (hn : ¬ fromOk y m d h i s u) : ValidPost y m d h i s u w (.returned (.bool false)) w' :=
  ⟨false, rfl, ⟨fun e => (by cases e), fun e => absurd e hn⟩, hB⟩
theorem valid_lt {y m d h i s u : Int} {w w' : World} (hB : Below w.heap.size w w') (hw : wholeP y m d) (h1 : 0 ≤ h) (h2 : h ≤ 23) (h3 : 0 ≤ i) (h4 : i ≤ 59) (h5 : 0 ≤ s) (h7 : 0 ≤ u) (h8 : u ≤ 999999) (hs : ¬ s = 60) : ValidPost y m d h i s u w (.returned (.bool (decide (s < 60)))) w' :=
  ⟨_, rfl, ⟨fun e => ⟨hw, h1, h2, h3, h4, h5, h7, by omega, Or.inl (of_decide_eq_true e)⟩, fun ⟨_, _, _, _, _, _, _, _, e⟩ => decide_eq_true (by rcases e with e | ⟨e, _⟩ <;> omega)⟩, hB⟩
theorem valid_60 {y m d h i s u : Int} {w w' : World} (hB : Below w.heap.size w w') (hw : wholeP y m d) (h1 : h = 23) (h3 : i = 59) (h7 : 0 ≤ u) (h8 : u ≤ 999999) (hs : s = 60) : ValidPost y m d h i s u w (.returned (.bool (secs y m d == 86401))) w' :=
  ⟨_, rfl, ⟨fun e => ⟨hw, by omega, by omega, by omega, by omega, by omega, h7, by omega, Or.inr ⟨hs, h1, h3, by
      unfold leapday
      have e := beq_iff_eq.1 e
      unfold secs at e
      by_cases c : d = mo y (m + 1) - mo y m ∧ lps (12 * y + m) = lps (12 * y + m - 1) + 1
      · exact c
      · rw [if_neg c] at e; omega⟩⟩, fun ⟨_, _, _, _, _, _, _, _, e⟩ => beq_iff_eq.2 (by
      rcases e with e | ⟨_, _, _, e⟩
      · omega
      · unfold leapday at e; rw [secs, if_pos e])⟩, hB⟩
set_option maxRecDepth 100000 in
set_option maxHeartbeats 1000000 in
theorem valid_any (y m d h i s u : Int) (w : World) :
    Calls Tryz.prog 184 #[rdateV y m d h i s u] w (ValidPost y m d h i s u w) := by
  by_cases c1 : y < 1972
  · have d1 : decide (y < 1972) = true := by simpa using c1
    go_enter Tryz.func184, Tryz.ntmps184
    go_wp2
    go_quiet (fail)
    go_wp2
    go_ret
    exact valid_no (drewN_below2 ((Below.refl w.heap.size w).alloc (Nat.le_refl _) _) _) (fun ⟨⟨b1, b2, b3, b4, b5, b6⟩, _⟩ => by omega)
  · have d1 : decide (y < 1972) = false := by simpa using c1
    by_cases c2 : 2099 < y
    · have d2 : decide (2099 < y) = true := by simpa using c2
      go_enter Tryz.func184, Tryz.ntmps184
      go_wp2
      go_quiet (fail)
      go_wp2
      go_ret
      exact valid_no (drewN_below2 ((Below.refl w.heap.size w).alloc (Nat.le_refl _) _) _) (fun ⟨⟨b1, b2, b3, b4, b5, b6⟩, _⟩ => by omega)
    · have d2 : decide (2099 < y) = false := by simpa using c2
      by_cases c3 : m < 1
      · have d3 : decide (m < 1) = true := by simpa using c3
        go_enter Tryz.func184, Tryz.ntmps184
        go_wp2
        go_quiet (fail)
        go_wp2
        go_ret
        exact valid_no (drewN_below2 ((Below.refl w.heap.size w).alloc (Nat.le_refl _) _) _) (fun ⟨⟨b1, b2, b3, b4, b5, b6⟩, _⟩ => by omega)
      · have d3 : decide (m < 1) = false := by simpa using c3
        by_cases c4 : 12 < m
        · have d4 : decide (12 < m) = true := by simpa using c4
          go_enter Tryz.func184, Tryz.ntmps184
          go_wp2
          go_quiet (fail)
          go_wp2
          go_ret
          exact valid_no (drewN_below2 ((Below.refl w.heap.size w).alloc (Nat.le_refl _) _) _) (fun ⟨⟨b1, b2, b3, b4, b5, b6⟩, _⟩ => by omega)
        · have d4 : decide (12 < m) = false := by simpa using c4
          by_cases c5 : d < 1
          · have d5 : decide (d < 1) = true := by simpa using c5
            go_enter Tryz.func184, Tryz.ntmps184
            go_wp2
            go_quiet (fail)
            go_wp2
            go_ret
            exact valid_no (drewN_below2 ((Below.refl w.heap.size w).alloc (Nat.le_refl _) _) _) (fun ⟨⟨b1, b2, b3, b4, b5, b6⟩, _⟩ => by omega)
          · have d5 : decide (d < 1) = false := by simpa using c5
            go_enter Tryz.func184, Tryz.ntmps184
            go_wp2
            have hn : w.heap.size < (w.alloc (.cells #[.int .i64 y, .int .i64 m, .int .i64 d, .int .i64 h, .int .i64 i, .int .i64 s, .int .i64 u] 75)).heap.size := by simp
            go_region_held3 (fun w' => w'.cell? ⟨w.heap.size, 0, none⟩ = some (.int .i64 y) ∧ w'.cell? ⟨w.heap.size, 1, none⟩ = some (.int .i64 m) ∧ w'.cell? ⟨w.heap.size, 2, none⟩ = some (.int .i64 d) ∧ w'.cell? ⟨w.heap.size, 3, none⟩ = some (.int .i64 h) ∧ w'.cell? ⟨w.heap.size, 4, none⟩ = some (.int .i64 i) ∧ w'.cell? ⟨w.heap.size, 5, none⟩ = some (.int .i64 s) ∧ w'.cell? ⟨w.heap.size, 6, none⟩ = some (.int .i64 u)) (go_keep) (first | (go_at_call 140; refine (length_any _ _ _ (by omega) (by omega) (by omega)).mono ?_; rintro e w1 ⟨rfl, hb⟩; obtain ⟨hc, hf⟩ := bcell hb))
            rename_i hS
            obtain ⟨k0, k1, k2, k3, k4, k5, k6⟩ := hS
            have hB := below_then ((Below.refl w.heap.size w).alloc (Nat.le_refl _) _).drew hb
            clear hc hf
            go_wp2_with (go_at_call 208; refine (seconds_any _ _ _ _ ⟨by omega, by omega, by omega, by omega, by omega, by omega⟩).mono ?_; rintro e w2 ⟨rfl, hb2⟩)
            all_goals go_ret
            all_goals first
              | exact valid_no hB (fun ⟨⟨b1, b2, b3, b4, b5, b6⟩, g1, g2, g3, g4, g5, g6, g7, g8⟩ => by omega)
              | (have hs := beq_iff_eq.1 (by assumption : (s == 60) = true); exact valid_no hB (fun ⟨⟨b1, b2, b3, b4, b5, b6⟩, g1, g2, g3, g4, g5, g6, g7, g8⟩ => by omega))
              | (have hs := beq_eq_false_iff_ne.1 (by assumption : (s == 60) = false); exact valid_lt hB ⟨by omega, by omega, by omega, by omega, by omega, by omega⟩ (by omega) (by omega) (by omega) (by omega) (by omega) (by omega) (by omega) hs)
              | (have hs := beq_iff_eq.1 (by assumption : (s == 60) = true); exact valid_60 (below_then hB hb2) ⟨by omega, by omega, by omega, by omega, by omega, by omega⟩ (by omega) (by omega) (by omega) (by omega) hs)
end Mw
end Go.Proofs.YtaghilgfldaaiaaGreatDoor
/-
  The walk of FromUtc of the reference.
-/
namespace Go.Proofs.YtaghilgfldaaiaaGreatDoor
namespace Mw
open Go.RowKit Go.Proofs.YtaghilgfldaaiaaGreatDoor.Mp Lw

/-- What FromUtc does. -/
def RFromPost (y m d h i s u : Int) (w : World) (e : Ending) (w' : World) : Prop := ∃ t c : Int, e = .returned (.tuple #[.int .i64 t, .int .i64 c]) ∧ FromIs y m d h i s u t c ∧ Below w.heap.size w w'

set_option maxRecDepth 100000 in
set_option maxHeartbeats 2000000 in
theorem rfrom_any (y m d h i s u : Int) (w : World) :
    Calls Tryz.prog 136 #[rdateV y m d h i s u] w (RFromPost y m d h i s u w) := by
  by_cases hok : fromOk y m d h i s u
  · have Hok := Lib.hid hok
    obtain ⟨hw, g1, g2, g3, g4, g5, g6, g7, g8⟩ := hok
    have g8 : s ≤ 60 := by rcases g8 with g | ⟨g, _⟩ <;> omega
    have hI := wholeP_ym hw
    obtain ⟨n1, n2⟩ := wholeP_range hw
    have bd := bgv_bd (dn y m d) y m (by omega) (by omega)
    have Fin := Lib.hid (show bgv (dn y m d) y m + (h * 3600 + i * 60 + s) * 1000000 + u = timeOf y m d h i s u by unfold timeOf; omega)
    rw [dn_mo] at bd
    obtain ⟨a1, a2, a3, a4, a5, a6⟩ := hw
    have HI := Lib.hid hI
    clear hI
    go_enter Tryz.func136, Tryz.ntmps136
    go_wp2_with fail
    refine (valid_any _ _ _ _ _ _ _ _).mono ?_
    rintro e w1 ⟨b, rfl, hb, hB⟩
    obtain rfl : b = true := hb.2 Hok.out
    clear hb
    obtain ⟨hc, hf⟩ := bcell hB
    have k0 : w1.cell? ⟨w.heap.size, 0, none⟩ = some (.int .i64 y) := by rw [hc _ _ (by simp), World.cell?_alloc_at _ _ _ _ rfl]; rfl
    have k1 : w1.cell? ⟨w.heap.size, 1, none⟩ = some (.int .i64 m) := by rw [hc _ _ (by simp), World.cell?_alloc_at _ _ _ _ rfl]; rfl
    have k2 : w1.cell? ⟨w.heap.size, 2, none⟩ = some (.int .i64 d) := by rw [hc _ _ (by simp), World.cell?_alloc_at _ _ _ _ rfl]; rfl
    have k3 : w1.cell? ⟨w.heap.size, 3, none⟩ = some (.int .i64 h) := by rw [hc _ _ (by simp), World.cell?_alloc_at _ _ _ _ rfl]; rfl
    have k4 : w1.cell? ⟨w.heap.size, 4, none⟩ = some (.int .i64 i) := by rw [hc _ _ (by simp), World.cell?_alloc_at _ _ _ _ rfl]; rfl
    have k5 : w1.cell? ⟨w.heap.size, 5, none⟩ = some (.int .i64 s) := by rw [hc _ _ (by simp), World.cell?_alloc_at _ _ _ _ rfl]; rfl
    have k6 : w1.cell? ⟨w.heap.size, 6, none⟩ = some (.int .i64 u) := by rw [hc _ _ (by simp), World.cell?_alloc_at _ _ _ _ rfl]; rfl
    have hB1 := below_then ((Below.refl w.heap.size w).alloc (Nat.le_refl _) _) hB
    have hz : w.heap.size < w1.heap.size := by have := hB.size; simp at this; omega
    clear hc hf hB
    go_wp2_with fail
    go_region_held3 (fun w' => w'.cell? ⟨w.heap.size, 0, none⟩ = some (.int .i64 y) ∧ w'.cell? ⟨w.heap.size, 1, none⟩ = some (.int .i64 m) ∧ w'.cell? ⟨w.heap.size, 2, none⟩ = some (.int .i64 d) ∧ w'.cell? ⟨w.heap.size, 6, none⟩ = some (.int .i64 u)) (go_keep) (first | (go_at_call 139; refine (begins_in _ _ _ _ (by omega) (by omega) (by omega) (by omega) (by omega) (by omega)).mono ?_; rintro e w2 ⟨rfl, hb2⟩; have q0 := (hb2.cell (p := ⟨w.heap.size, 0, none⟩) hz).trans k0; have q1 := (hb2.cell (p := ⟨w.heap.size, 1, none⟩) hz).trans k1; have q2 := (hb2.cell (p := ⟨w.heap.size, 2, none⟩) hz).trans k2; have q6 := (hb2.cell (p := ⟨w.heap.size, 6, none⟩) hz).trans k6))
    go_wp2
    go_ret2
    exact ⟨_, 0, rfl, Or.inl ⟨Hok.out, by rw [← Fin.out, dn_mo, IntWalk.i64_in ((h * 3600 + i * 60 + s) * 1000000) (by omega), IntWalk.i64_in (bgv (mo y m + d - 1) y m + (h * 3600 + i * 60 + s) * 1000000) (by omega), IntWalk.i64_in _ (by omega)], rfl⟩, below_then hB1.drew hb2⟩
  · go_enter Tryz.func136, Tryz.ntmps136
    go_wp2_with fail
    refine (valid_any _ _ _ _ _ _ _ _).mono ?_
    rintro e w1 ⟨b, rfl, hb, hB⟩
    obtain rfl : b = false := by cases b with
      | false => rfl
      | true => exact absurd (hb.1 rfl) hok
    clear hb
    go_wp2_with fail
    go_ret2
    exact ⟨0, 2, rfl, Or.inr ⟨hok, rfl, rfl⟩, below_then ((Below.refl _ _).alloc (Nat.le_refl _) _) hB⟩
end Mw
end Go.Proofs.YtaghilgfldaaiaaGreatDoor
/-
  The walk of number of the reference.
-/
namespace Go.Proofs.YtaghilgfldaaiaaGreatDoor
namespace Ap
open Go.RowKit Lw

set_option maxHeartbeats 1000000 in
theorem number_any (s : ByteArray) (w : World) (hs : s.size ≤ 18) :
    Calls Tryz.prog 134 #[.string s] w fun e w' => e = .returned (.int .i64 (numV s.data.toList)) ∧ w = w' := by
  go_enter Tryz.func134, Tryz.ntmps134
  go_wp2
  go_loop [3, 4] (fun n i => ∃ k : Nat, k ≤ s.size ∧ i = .int .i64 k ∧ n = .int .i64 (numL (s.data.toList.take k)) ∧ Hid (allD (s.data.toList.take k))) (fun _ i => s.size - (intOf i).toNat)
  case atStart => exact ⟨0, Nat.zero_le _, rfl, rfl, Lib.hid (by intro c hc; simp at hc)⟩
  case round =>
    obtain ⟨k, hk, rfl, rfl, D⟩ := hrel
    by_cases hlt : k < s.size
    · have nb := numL_17 s k hk (by omega) D.out
      have bb := byte_bd s[k]
      by_cases d : 48 ≤ (s[k].toNat : Int) ∧ (s[k].toNat : Int) ≤ 57
      · have HS := Lib.hid (show numL (s.data.toList.take (k + 1)) = 10 * numL (s.data.toList.take k) + ((s[k].toNat : Int) - 48) by rw [take_snoc s k hlt, numL_snoc])
        have D2 := Lib.hid (show allD (s.data.toList.take (k + 1)) by rw [take_snoc s k hlt]; exact allD_snoc D.out d.1 d.2)
        obtain ⟨d1, d2⟩ := d
        go_wp2
        go_round
        case rel => exact ⟨k + 1, by omega, by go_num, val_i HS.out.symm, D2⟩
        case measure => simp [intOf]; omega
      · have N := Lib.hid (numV_not s k hlt d)
        have d' : (s[k].toNat : Int) < 48 ∨ 57 < (s[k].toNat : Int) := by omega
        clear d
        go_wp2
        all_goals first | (exfalso; omega) | (go_ret; exact ⟨ret_i N.out.symm, rfl⟩)
    · have N := Lib.hid (numV_all s k hlt D.out)
      go_wp2
      go_ret
      exact ⟨ret_i N.out, rfl⟩
end Ap
end Go.Proofs.YtaghilgfldaaiaaGreatDoor
/-
  The walk of like of the reference.
-/
namespace Go.Proofs.YtaghilgfldaaiaaGreatDoor
namespace Ap
open Go.RowKit Lw

set_option maxHeartbeats 1000000 in
theorem like_any (s p : ByteArray) (w : World) (hs : s.size ≤ 100) :
    Calls Tryz.prog 133 #[.string s, .string p] w fun e w' => e = .returned (.bool (decide (likeP s p))) ∧ Below w.heap.size w w' := by
  by_cases hn : s.size = p.size
  · have i0 : ((s.size : Int) == (p.size : Int)) = true := beq_iff_eq.2 (by omega)
    go_enter Tryz.func133, Tryz.ntmps133
    go_wp2
    go_loopw [5] (fun i wr => ∃ k : Nat, k ≤ s.size ∧ i = .int .i64 k ∧ Hid (likeTo s p k) ∧ Below w.heap.size w wr) (fun i _ => s.size - (intOf i).toNat)
    case atStart => exact ⟨0, Nat.zero_le _, rfl, Lib.hid fun k hk => absurd hk (by omega), Below.refl _ _⟩
    case round =>
      obtain ⟨k, hk, rfl, D, hB⟩ := hrel
      by_cases hlt : k < s.size
      · have hlp : k < p.size := by omega
        have bs := bt_of s k hlt
        have bp := bt_of p k hlp
        have O := Lib.hid (show okAt s p k ↔ (((p[k].toNat : Nat) : Int) = 48 → 48 ≤ ((s[k].toNat : Nat) : Int) ∧ ((s[k].toNat : Nat) : Int) ≤ 57) ∧ (¬ ((p[k].toNat : Nat) : Int) = 48 → ((s[k].toNat : Nat) : Int) = ((p[k].toNat : Nat) : Int)) by unfold okAt; rw [bs, bp])
        clear bs bp
        have bb := byte_bd s[k]
        have bb2 := byte_bd p[k]
        by_cases c1 : (p[k].toNat : Int) = 48
        · have d1 : ((p[k].toNat : Int) == 48) = true := beq_iff_eq.2 c1
          by_cases c2 : (s[k].toNat : Int) < 48
          · have N := Lib.hid (like_no hlt fun g => by have := (O.out.1 g).1 c1; omega)
            have d2 : decide ((s[k].toNat : Int) < 48) = true := decide_eq_true c2
            clear c1 c2 bb bb2
            go_wp2
            go_quiet (fail)
            go_wp2
            go_ret
            exact ⟨ret_b N.out.symm, drewN_below2 hB _⟩
          · have d2 : decide ((s[k].toNat : Int) < 48) = false := decide_eq_false c2
            by_cases c3 : 57 < (s[k].toNat : Int)
            · have N := Lib.hid (like_no hlt fun g => by have := (O.out.1 g).1 c1; omega)
              have d3 : decide (57 < (s[k].toNat : Int)) = true := decide_eq_true c3
              clear c1 c2 c3 bb bb2
              go_wp2
              go_quiet (fail)
              go_wp2
              go_ret
              exact ⟨ret_b N.out.symm, drewN_below2 hB _⟩
            · have d3 : decide (57 < (s[k].toNat : Int)) = false := decide_eq_false c3
              have D2 := Lib.hid (likeTo_s D.out (O.out.2 ⟨fun _ => by omega, fun g => absurd c1 g⟩))
              have d4 : ((p[k].toNat : Int) != 48) = false := by simp [c1]
              clear c1 c2 c3 bb bb2
              go_wp2
              go_quiet (fail)
              go_wp2
              go_roundw
              case rel => exact ⟨k + 1, by omega, by go_num, D2, drewN_below2 hB _⟩
              case measure => simp [intOf]; omega
        · have d1 : ((p[k].toNat : Int) == 48) = false := beq_eq_false_iff_ne.2 c1
          have d4 : ((p[k].toNat : Int) != 48) = true := by simp [c1]
          by_cases c2 : (s[k].toNat : Int) = (p[k].toNat : Int)
          · have D2 := Lib.hid (likeTo_s D.out (O.out.2 ⟨fun g => absurd g c1, fun _ => c2⟩))
            have d5 : ((s[k].toNat : Int) != (p[k].toNat : Int)) = false := by simp [c2]
            clear c1 c2 bb bb2
            go_wp2
            go_quiet (fail)
            go_wp2
            go_roundw
            case rel => exact ⟨k + 1, by omega, by go_num, D2, drewN_below2 hB _⟩
            case measure => simp [intOf]; omega
          · have N := Lib.hid (like_no hlt fun g => c2 ((O.out.1 g).2 c1))
            have d5 : ((s[k].toNat : Int) != (p[k].toNat : Int)) = true := by simp [c2]
            clear c1 c2 bb bb2
            go_wp2
            go_quiet (fail)
            go_wp2
            go_ret
            exact ⟨ret_b N.out.symm, drewN_below2 hB _⟩
      · have N := Lib.hid (like_yes hn hlt D.out)
        go_wp2
        go_ret
        exact ⟨ret_b N.out.symm, hB⟩
  · have i0 : ((s.size : Int) == (p.size : Int)) = false := beq_eq_false_iff_ne.2 (by omega)
    have N := Lib.hid (show decide (likeP s p) = false from decide_eq_false fun g => hn g.1)
    go_enter Tryz.func133, Tryz.ntmps133
    go_wp2
    go_ret
    exact ⟨ret_b N.out.symm, Below.refl _ _⟩
end Ap
end Go.Proofs.YtaghilgfldaaiaaGreatDoor
/-
  The walk of Parse of the reference.
-/
namespace Go.Proofs.YtaghilgfldaaiaaGreatDoor
namespace Ap
open Go.RowKit Lw Go.Proofs.YtaghilgfldaaiaaGreatDoor.Mp

theorem via {p q : Prop} (hp : p) (h : Hid p → q) : q := h (Lib.hid hp)
theorem rinfo7 : (Tryz.prog.info? 75).map (·.size) = some 7 := by kernel_rfl
theorem nm_any (s : ByteArray) (i j : Nat) (hj : j ≤ s.size) (h : j ≤ i + 18) (w : World) : Calls Tryz.prog 134 #[.string (s.extract i j)] w fun e w' => e = .returned (.int .i64 (nm s i j)) ∧ w' = w :=
  (number_any (s.extract i j) w (by rw [size_ext s _ _ hj]; omega)).mono fun _ _ g => ⟨g.1, g.2.symm⟩
theorem nm_bd (s : ByteArray) (i j : Nat) (hj : j ≤ s.size) (h : j ≤ i + 9) : -1 ≤ nm s i j ∧ nm s i j < 1000000000 := by
  unfold nm
  by_cases g : allD (s.extract i j).data.toList
  · rw [numV_yes g]
    have e : (s.extract i j).data.toList.take (s.extract i j).data.toList.length = (s.extract i j).data.toList := List.take_length
    have := numL_bd _ _ (Nat.le_refl _) (by rw [e]; exact g)
    rw [e] at this
    have hl : (s.extract i j).data.toList.length ≤ 9 := by
      have : (s.extract i j).data.toList.length = (s.extract i j).size := rfl
      rw [this, size_ext s _ _ hj]; omega
    have h9 : ∀ r : Nat, r ≤ 9 → (10 : Int) ^ r ≤ 1000000000 := by decide
    have := h9 _ hl
    omega
  · have : numV (s.extract i j).data.toList = -1 := if_neg g
    omega
theorem rparse_not {s : ByteArray} (h : ¬ textP s) : ParseIs s 0 12 := Or.inr ⟨fun g => h g.1, rfl, rfl⟩
set_option maxRecDepth 100000 in
set_option maxHeartbeats 4000000 in
theorem rparse_short (s : ByteArray) (w : World) (hs : s.size ≤ 100) (h : s.size < 20 ∨ s.size = 21 ∨ 27 < s.size) :
    Calls Tryz.prog 81 #[.string s] w (ParsePost s w) := by
  have N := Lib.hid (rparse_not (s := s) fun g => by have := g.1; have := g.2.1; have := g.2.2.1; omega)
  rcases h with h | h | h
  · have i0 : (s.size : Int) < 20 := by omega
    go_enter Tryz.func81, Tryz.ntmps81
    go_wp2_with fail
    go_ret2
    exact ⟨0, 12, rfl, N.out, Below.refl _ _⟩
  · have i0 : (s.size : Int) = 21 := by omega
    go_enter Tryz.func81, Tryz.ntmps81
    go_wp2_with fail
    go_ret2
    exact ⟨0, 12, rfl, N.out, Below.refl _ _⟩
  · have i0 : 27 < (s.size : Int) := by omega
    go_enter Tryz.func81, Tryz.ntmps81
    go_wp2_with fail
    go_ret2
    exact ⟨0, 12, rfl, N.out, Below.refl _ _⟩
/-- The end of the walk: the date is made and taken. -/
theorem parse_end {s : ByteArray} (tp : textP s) : ∀ a c, FromIs (nm s 0 4) (nm s 5 7) (nm s 8 10) (nm s 11 13) (nm s 14 16) (nm s 17 19) (microV s) a c → (c = 0 ∧ ParseIs s a 0) ∨ (c = 2 ∧ ParseIs s 0 12) := fun a c hf => by
  rcases hf with ⟨f1, f2, f3⟩ | ⟨f1, f2, f3⟩
  · exact Or.inl ⟨f3, Or.inl ⟨⟨tp, f1⟩, f2, rfl⟩⟩
  · exact Or.inr ⟨f3, Or.inr ⟨fun k => f1 k.2, rfl, rfl⟩⟩
set_option maxRecDepth 100000 in
set_option maxHeartbeats 8000000 in
theorem rparse_long (s : ByteArray) (w : World) (h20 : 20 ≤ s.size) (h21 : s.size ≠ 21) (h27 : s.size ≤ 27) :
    Calls Tryz.prog 81 #[.string s] w (ParsePost s w) := by
  have i0 : ¬ (s.size : Int) < 20 := by omega
  have i1 : ((s.size : Int) == 21) = false := beq_eq_false_iff_ne.2 (by omega)
  have i2 : ¬ 27 < (s.size : Int) := by omega
  have i3 : (20 : Int) ≤ (s.size : Int) := by omega
  have LK := fun w' => like_any (s.extract 0 19) P19 w' (by rw [size_ext s _ _ (by omega)]; omega)
  have hx := bt_of s (s.size - 1) (by omega)
  have hx19 := bt_of s 19 (by omega)
  by_cases h90 : bt s (s.size - 1) = 90
  · rw [h90] at hx
    by_cases lk : likeP (s.extract 0 19) P19
    · rw [decide_eq_true lk] at LK
      replace LK := Lib.hid LK
      by_cases hz : s.size = 20
      · have i4 : ¬ (20 : Int) < (s.size : Int) := by omega
        have mv : microV s = 0 := if_pos hz
        have PE := Lib.hid (parse_end (s := s) ⟨h20, h21, h27, h90, lk, fun h => absurd h (by omega)⟩)
        rw [mv] at PE
        clear hx19 h90 lk mv
        go_enter Tryz.func81, Tryz.ntmps81
        go_wp2_with fail
        refine (LK.out _).mono ?_
        rintro e w1 ⟨rfl, hb1⟩
        have B1 := Lib.hid hb1
        clear hb1 LK
        go_wp2_with fail
        refine' via ?hp (fun key => ?hq)
        case hq =>
          go_region_held3 (fun _ => True) (trivial) (first | (go_at_call 134; refine (nm_any s _ _ (by omega) (by omega) _).mono ?_; rintro e w' ⟨rfl, rfl⟩))
          all_goals exact key.out
        case hp =>
          go_wp2_with fail
          refine (Mw.rfrom_any _ _ _ _ _ _ _ _).mono ?_
          rintro e w4 ⟨ti, c, rfl, hfi, hb4⟩
          have B4 := Lib.hid (below_then (B1.out.alloc B1.out.size _).drew hb4)
          rcases PE.out ti c hfi with ⟨rfl, hpi⟩ | ⟨rfl, hpi⟩
          · go_wp2_with fail
            go_ret2
            exact ⟨ti, 0, rfl, hpi, B4.out⟩
          · go_wp2_with fail
            go_ret2
            exact ⟨0, 12, rfl, hpi, B4.out⟩
      · have h22 : 22 ≤ s.size := by omega
        have i4 : (20 : Int) < (s.size : Int) := by omega
        have i5 : (19 : Int) < (s.size : Int) := by omega
        have j4 : (4 : Int) ≤ (s.size : Int) := by omega
        have j7 : (7 : Int) ≤ (s.size : Int) := by omega
        have j10 : (10 : Int) ≤ (s.size : Int) := by omega
        have j13 : (13 : Int) ≤ (s.size : Int) := by omega
        have j16 : (16 : Int) ≤ (s.size : Int) := by omega
        have j19 : (19 : Int) ≤ (s.size : Int) := by omega
        have NN := Lib.hid (nm_any s 20 (s.size - 1) (by omega) (by omega))
        have nb := nm_bd s 20 (s.size - 1) (by omega) (by omega)
        by_cases e46 : bt s 19 = 46
        · rw [e46] at hx19
          by_cases nn : 0 ≤ nm s 20 (s.size - 1)
          · have mv : microV s = nm s 20 (s.size - 1) * tenI (27 - s.size) := if_neg hz
            have PE := Lib.hid (parse_end (s := s) ⟨h20, h21, h27, h90, lk, fun _ => ⟨e46, nn⟩⟩)
            rw [mv] at PE
            have TN := fun w' => rten_any (27 - s.size) w' (by omega)
            rw [show (((27 - s.size : Nat)) : Int) = 27 - (s.size : Int) by omega] at TN
            replace TN := Lib.hid TN
            have tb : 1 ≤ tenI (27 - s.size) ∧ tenI (27 - s.size) ≤ 100000 := by
              have : ∀ r : Nat, r ≤ 5 → 1 ≤ tenI r ∧ tenI r ≤ 100000 := by decide
              exact this _ (by omega)
            have mb : 0 ≤ nm s 20 (s.size - 1) * tenI (27 - s.size) ∧ nm s 20 (s.size - 1) * tenI (27 - s.size) ≤ 1000000000 * 100000 :=
              ⟨Int.mul_nonneg nn (by omega), Int.mul_le_mul (by omega) tb.2 (by omega) (by omega)⟩
            have wm : IntKind.i64.wrap (nm s 20 (s.size - 1) * tenI (27 - s.size)) = nm s 20 (s.size - 1) * tenI (27 - s.size) := IntWalk.i64_in _ (by omega)
            clear h90 lk mv e46
            generalize nm s 20 (s.size - 1) = a6 at *
            generalize tenI (27 - s.size) = T at *
            go_enter Tryz.func81, Tryz.ntmps81
            go_wp2_with fail
            refine (LK.out _).mono ?_
            rintro e w1 ⟨rfl, hb1⟩
            have B1 := Lib.hid hb1
            clear hb1 LK
            go_wp2_with fail
            refine (NN.out _).mono ?_
            rintro e w' ⟨rfl, rfl⟩
            go_wp2_with fail
            refine (NN.out _).mono ?_
            rintro e w' ⟨rfl, rfl⟩
            go_wp2_with fail
            refine (TN.out _).mono ?_
            rintro e w' ⟨rfl, rfl⟩
            go_wp2_with fail
            refine' via ?hp (fun key => ?hq)
            case hq =>
              go_region_held3 (fun _ => True) (trivial) (first | (go_at_call 134; refine (nm_any s _ _ (by omega) (by omega) _).mono ?_; rintro e w' ⟨rfl, rfl⟩))
              all_goals exact key.out
            case hp =>
              go_wp2_with fail
              refine (Mw.rfrom_any _ _ _ _ _ _ _ _).mono ?_
              rintro e w4 ⟨ti, c, rfl, hfi, hb4⟩
              have B4 := Lib.hid (below_then (B1.out.alloc B1.out.size _).drew hb4)
              rcases PE.out ti c hfi with ⟨rfl, hpi⟩ | ⟨rfl, hpi⟩
              · go_wp2_with fail
                go_ret2
                exact ⟨ti, 0, rfl, hpi, B4.out⟩
              · go_wp2_with fail
                go_ret2
                exact ⟨0, 12, rfl, hpi, B4.out⟩
          · have N := Lib.hid (rparse_not (s := s) fun g => nn (g.2.2.2.2.2 (by omega)).2)
            have n0 : nm s 20 (s.size - 1) < 0 := by omega
            clear nn e46 h90 lk
            generalize nm s 20 (s.size - 1) = a6 at *
            go_enter Tryz.func81, Tryz.ntmps81
            go_wp2_with fail
            refine (LK.out _).mono ?_
            rintro e w1 ⟨rfl, hb1⟩
            go_wp2_with fail
            refine (NN.out _).mono ?_
            rintro e w' ⟨rfl, rfl⟩
            go_wp2_with fail
            go_ret2
            exact ⟨0, 12, rfl, N.out, hb1⟩
        · have N := Lib.hid (rparse_not (s := s) fun g => e46 (g.2.2.2.2.2 (by omega)).1)
          clear h90 lk nb
          go_enter Tryz.func81, Tryz.ntmps81
          go_wp2_with fail
          refine (LK.out _).mono ?_
          rintro e w1 ⟨rfl, hb1⟩
          go_wp2_with fail
          go_ret2
          exact ⟨0, 12, rfl, N.out, hb1⟩
    · have N := Lib.hid (rparse_not (s := s) fun g => lk g.2.2.2.2.1)
      rw [decide_eq_false lk] at LK
      clear hx19 lk
      go_enter Tryz.func81, Tryz.ntmps81
      go_wp2_with fail
      refine (LK _).mono ?_
      rintro e w1 ⟨rfl, hb1⟩
      go_wp2_with fail
      go_ret2
      exact ⟨0, 12, rfl, N.out, hb1⟩
  · have N := Lib.hid (rparse_not (s := s) fun g => h90 g.2.2.2.1)
    clear hx19
    go_enter Tryz.func81, Tryz.ntmps81
    go_wp2_with fail
    go_ret2
    exact ⟨0, 12, rfl, N.out, Below.refl _ _⟩
end Ap
end Go.Proofs.YtaghilgfldaaiaaGreatDoor
/-
  The walk of ParseDay of the reference.
-/
namespace Go.Proofs.YtaghilgfldaaiaaGreatDoor
namespace Ap
open Go.RowKit Lw Go.Proofs.YtaghilgfldaaiaaGreatDoor.Mp

end Ap
end Go.Proofs.YtaghilgfldaaiaaGreatDoor
/-
  The walk of read of the reference of observations.
-/
namespace Go.Proofs.YtaghilgfldaaiaaGreatDoor
namespace Ow
open Go.RowKit Lw Go.Proofs.YtaghilgfldaaiaaGreatDoor.Ap Go.Proofs.YtaghilgfldaaiaaGreatDoor.Op Go.Proofs.YtaghilgfldaaiaaGreatDoor.Mp Go.Proofs.YtaghilgfldaaiaaGreatDoor.Mw Go.Proofs.YtaghilgfldaaiaaGreatDoor.At

/-- What read answers: the part of a line that every line has. -/
structure ReadIs (s : ByteArray) (o : Ob) : Prop where
  p : 3 ≤ decs (cutS (s.extract 15 32)) ∧ decs (cutS (s.extract 15 32)) ≤ 6
  q : 1 ≤ decs (cutS (s.extract 32 44)) ∧ decs (cutS (s.extract 32 44)) ≤ 3
  r : decs (cutS (s.extract 44 56)) ≤ 2
  day : PDayIs (cutS (s.extract 15 32)) o.t 0
  ra : Gp.RaIs (cutS (s.extract 32 44)) o.ra 0
  dec : Gp.DecIs (cutS (s.extract 44 56)) o.dec 0
  all : o = ⟨⟨#[]⟩, s.extract 77 80, o.t, o.ra, o.dec, sgOf (decs (cutS (s.extract 44 56))), 9999, 32⟩
def ReadA (s : ByteArray) (o : Ob) (b : Bool) : Prop := (b = true ∧ ReadIs s o) ∨ (b = false ∧ o = zeroO ∧ NoO s)
def ReadPost (s : ByteArray) (w : World) (e : Ending) (w' : World) : Prop := ∃ (o : Ob) (b : Bool), e = .returned (.tuple #[obsV o, .bool b]) ∧ ReadA s o b ∧ Below w.heap.size w w'
/-- The condition of read. -/
def badP (c1 c2 c3 : Int) (d1 d2 d3 : Nat) : Prop := c1 ≠ 0 ∨ c2 ≠ 0 ∨ c3 ≠ 0 ∨ d1 < 3 ∨ 6 < d1 ∨ d2 < 1 ∨ 3 < d2 ∨ 2 < d3
instance (c1 c2 c3 : Int) (d1 d2 d3 : Nat) : Decidable (badP c1 c2 c3 d1 d2 d3) := by unfold badP; infer_instance
end Ow
end Go.Proofs.YtaghilgfldaaiaaGreatDoor
/-
  The walk of magnitude of the reference of observations.
-/
namespace Go.Proofs.YtaghilgfldaaiaaGreatDoor
namespace Ow
open Go.RowKit Lw Go.Proofs.YtaghilgfldaaiaaGreatDoor.Ap Go.Proofs.YtaghilgfldaaiaaGreatDoor.Op Go.Proofs.YtaghilgfldaaiaaGreatDoor.Mp Go.Proofs.YtaghilgfldaaiaaGreatDoor.Mw Go.Proofs.YtaghilgfldaaiaaGreatDoor.At

end Ow
end Go.Proofs.YtaghilgfldaaiaaGreatDoor
/-
  The walk of Parse of the reference of observations.
-/
namespace Go.Proofs.YtaghilgfldaaiaaGreatDoor
namespace Ow
open Go.RowKit Lw Go.Proofs.YtaghilgfldaaiaaGreatDoor.Ap Go.Proofs.YtaghilgfldaaiaaGreatDoor.Op Go.Proofs.YtaghilgfldaaiaaGreatDoor.Mp Go.Proofs.YtaghilgfldaaiaaGreatDoor.Mw Go.Proofs.YtaghilgfldaaiaaGreatDoor.At

end Ow
end Go.Proofs.YtaghilgfldaaiaaGreatDoor
/-
  The walks of Print, Round of the reference of observations.
-/
namespace Go.Proofs.YtaghilgfldaaiaaGreatDoor
namespace Ow
open Go.RowKit Lw Go.Proofs.YtaghilgfldaaiaaGreatDoor.Ap Go.Proofs.YtaghilgfldaaiaaGreatDoor.Op Go.Proofs.YtaghilgfldaaiaaGreatDoor.Mp Go.Proofs.YtaghilgfldaaiaaGreatDoor.Mw Go.Proofs.YtaghilgfldaaiaaGreatDoor.At

end Ow
end Go.Proofs.YtaghilgfldaaiaaGreatDoor
/-
  The walks of PrintAll of obs and of the reference.
-/
namespace Go.Proofs.YtaghilgfldaaiaaGreatDoor
namespace Ow
open Go.RowKit Lw Go.Proofs.YtaghilgfldaaiaaGreatDoor.Ap Go.Proofs.YtaghilgfldaaiaaGreatDoor.Op Go.Proofs.YtaghilgfldaaiaaGreatDoor.Mp Go.Proofs.YtaghilgfldaaiaaGreatDoor.Mw Go.Proofs.YtaghilgfldaaiaaGreatDoor.At

theorem ownsRow_below {w w' : World} {base : Nat} {e : TypeId} {size : Nat} {v : Value} {n : Nat} {xs : List Value} (h : w.ownsRow base e size v n xs) (hb : Below w.heap.size w w') : w'.ownsRow base e size v n xs := by
  obtain ⟨h1, h2⟩ := h
  refine ⟨h1, ?_⟩
  rcases h2 with h2 | ⟨g, cap, cur, hv, hg, hh, r⟩
  · exact Or.inl h2
  · refine Or.inr ⟨g, cap, cur, hv, hg, ?_, r⟩
    have lt : g < w.heap.size := by
      rcases Nat.lt_or_ge g w.heap.size with h | h
      · exact h
      · rw [Array.getElem?_eq_none h] at hh; cases hh
    rw [hb.block g lt]; exact hh
theorem builder_below {w w' : World} {T e : TypeId} {B b : Nat} {bs : List Value} (h : Lib.IsBuilder T e B b bs w) (hb : Below w.heap.size w w') : Lib.IsBuilder T e B b bs w' := by
  have key : ∀ p, Lib.BuilderAt T e B b p bs w → Lib.BuilderAt T e B b p bs w' := fun p ⟨h0, v, hh, ho, hn⟩ => by
    have lt : b < w.heap.size := by
      rcases Nat.lt_or_ge b w.heap.size with h | h
      · exact h
      · rw [Array.getElem?_eq_none h] at hh; cases hh
    exact ⟨h0, v, by rw [hb.block b lt]; exact hh, ownsRow_below ho hb, hn⟩
  exact h.elim (fun x => Or.inl (key _ x)) (fun x => Or.inr (key _ x))
/-- A builder that holds a string. -/
def Bd (B : Nat) (s : ByteArray) (w : World) : Prop := Lib.IsBuilder 95 5 B B (Lib.byteCells s.data.toList) w ∧ B ≤ w.heap.size
theorem Bd.below {B : Nat} {s : ByteArray} {w w' : World} (h : Bd B s w) (hb : Below w.heap.size w w') : Bd B s w' := ⟨builder_below h.1 hb, Nat.le_trans h.2 hb.size⟩
theorem Bd.new (w : World) : Bd w.heap.size ByteArray.empty (w.alloc (.cells #[.pointer none, .slice none 0 0] 95)) :=
  ⟨Or.inl ⟨Nat.le_refl _, .slice none 0 0, heap_alloc_new w _, World.ownsRow_nil _ _ _ _, by simp [Value.ownBlock]⟩, by simp⟩
end Ow
end Go.Proofs.YtaghilgfldaaiaaGreatDoor
/-
  append of an observation to a slice that the call owns.
-/
namespace Go.Proofs.YtaghilgfldaaiaaGreatDoor
namespace Ow
open Go.RowKit Lw Go.Proofs.YtaghilgfldaaiaaGreatDoor.Ap Go.Proofs.YtaghilgfldaaiaaGreatDoor.Op Go.Proofs.YtaghilgfldaaiaaGreatDoor.Mp Go.Proofs.YtaghilgfldaaiaaGreatDoor.Mw Go.Proofs.YtaghilgfldaaiaaGreatDoor.At

theorem infoO : (Tryz.prog.info? 33).map (fun i => (i.zero, i.size, i.bytes)) = some (some (.agg #[.string .empty, .string .empty, .int .i64 0, .int .i64 0, .int .i64 0, .int .i64 0, .int .i64 0, .int .u8 0]), 8, 80) := by kernel_rfl
theorem infoR : (Tryz.prog.info? 108).map (fun i => (i.zero, i.size, i.bytes)) = some (some (.agg #[.string .empty, .string .empty, .int .i64 0, .int .i64 0, .int .i64 0, .int .i64 0, .int .i64 0, .int .u8 0]), 8, 80) := by kernel_rfl
/-- The cells of a list. -/
def flatO (l : List Ob) : List Value := l.flatMap obsC
theorem flatO_len (l : List Ob) : (flatO l).length = l.length * 8 := by
  induction l with
  | nil => rfl
  | cons a l ih => simp only [flatO, List.flatMap_cons, List.length_append, List.length_cons] at ih ⊢; rw [ih]; simp only [obsC, List.length_cons, List.length_nil]; omega
theorem flatO_snoc (l : List Ob) (o : Ob) : flatO (l ++ [o]) = flatO l ++ obsC o := by simp [flatO]
theorem flatO_get {l : List Ob} {i : Nat} (hi : i < l.length) {j : Nat} {v : Value} (h : (obsC l[i])[j]? = some v) : (flatO l)[i * 8 + j]? = some v := by
  have hj : j < 8 := by
    have := (List.getElem?_eq_some_iff.1 h).1
    exact this
  induction l generalizing i with
  | nil => simp at hi
  | cons a l ih =>
    have e : flatO (a :: l) = obsC a ++ flatO l := rfl
    have la : (obsC a).length = 8 := rfl
    match i, hi, h with
    | 0, _, h =>
      rw [e, Nat.zero_mul, Nat.zero_add, List.getElem?_append_left (by omega)]
      exact h
    | i + 1, hi, h =>
      have hi' : i < l.length := by simpa using hi
      rw [e, List.getElem?_append_right (by omega), la, show (i + 1) * 8 + j - 8 = i * 8 + j by omega]
      exact ih hi' (by simpa using h)
/-- A slice of the call's own. -/
def OwnO (w : World) (B : Nat) (v : Value) (l : List Ob) : Prop := w.ownsRow B 33 8 v l.length (flatO l) ∧ B ≤ w.heap.size
def OwnR (w : World) (B : Nat) (v : Value) (l : List Ob) : Prop := w.ownsRow B 108 8 v l.length (flatO l) ∧ B ≤ w.heap.size
theorem OwnO.nil (w : World) (B : Nat) (h : B ≤ w.heap.size) : OwnO w B (.slice none 0 0) [] := ⟨World.ownsRow_nil _ _ _ _, h⟩
theorem OwnR.nil (w : World) (B : Nat) (h : B ≤ w.heap.size) : OwnR w B (.slice none 0 0) [] := ⟨World.ownsRow_nil _ _ _ _, h⟩
theorem OwnO.below {w w' : World} {B : Nat} {v : Value} {l : List Ob} (h : OwnO w B v l) (hb : Below w.heap.size w w') : OwnO w' B v l := ⟨ownsRow_below h.1 hb, Nat.le_trans h.2 hb.size⟩
theorem OwnR.below {w w' : World} {B : Nat} {v : Value} {l : List Ob} (h : OwnR w B v l) (hb : Below w.heap.size w w') : OwnR w' B v l := ⟨ownsRow_below h.1 hb, Nat.le_trans h.2 hb.size⟩
theorem owns_form {w : World} {B : Nat} {t : TypeId} {v : Value} {l : List Ob} (h : w.ownsRow B t 8 v l.length (flatO l)) : (l = [] ∧ v = .slice none 0 0) ∨ ∃ g cap, v = .slice (some ⟨g, 0, none⟩) l.length cap ∧ B ≤ g ∧ g < w.heap.size ∧ ObsAt w g 0 l := by
  have hc := fun (g : Nat) (hg : v.ownBlock = some g) => h.cells hg
  rcases h.2 with ⟨hv, hn⟩ | ⟨g, cap, cur, hv, hb, hh, r⟩
  · exact Or.inl ⟨List.length_eq_zero_iff.1 hn, hv⟩
  · have lt : g < w.heap.size := by
      rcases Nat.lt_or_ge g w.heap.size with h | h
      · exact h
      · rw [Array.getElem?_eq_none h] at hh; cases hh
    refine Or.inr ⟨g, cap, hv, hb, lt, fun i hi j x hx => ?_⟩
    have e := hc g (by rw [hv]; rfl) (i * 8 + j) x (flatO_get hi hx)
    rw [Addr.add_mid] at e
    rw [Nat.zero_add] at e
    rw [Nat.zero_add]
    exact e
/-- A value that is a slice of observations. -/
def SlV (w : World) (v : Value) (l : List Ob) : Prop := ∃ x cap, v = .slice x l.length cap ∧ SlA w x l
theorem slV_of {w : World} {B : Nat} {t : TypeId} {v : Value} {l : List Ob} (h : w.ownsRow B t 8 v l.length (flatO l)) : SlV w v l := by
  rcases owns_form h with ⟨rfl, rfl⟩ | ⟨g, cap, rfl, _, lt, hg⟩
  · exact ⟨none, 0, rfl, Or.inl rfl⟩
  · exact ⟨_, cap, rfl, Or.inr ⟨g, 0, rfl, lt, hg⟩⟩
theorem SlV.below {w w' : World} {v : Value} {l : List Ob} (h : SlV w v l) (hb : Below w.heap.size w w') : SlV w' v l := by
  obtain ⟨x, cap, e, h⟩ := h
  exact ⟨x, cap, e, h.below hb⟩
theorem SlV.nil (w : World) : SlV w (.slice none 0 0) [] := ⟨none, 0, rfl, Or.inl rfl⟩
theorem news_of {w : World} {b : Nat} {o : Ob} (h : w.rangeAt b 0 (obsC o)) : ∀ j u, (obsC o)[j]? = some u → w.cell? ((⟨b, 0, none⟩ : Addr).add j) = some u := fun j u hj => by
  rw [Addr.add_mid]; exact h j u hj
theorem obsC_one (o : Ob) : ∀ u ∈ obsC o, u.oneCell' = true := fun u hu => by
  simp only [List.mem_cons, List.not_mem_nil, or_false] at hu
  rcases hu with rfl | rfl | rfl | rfl | rfl | rfl | rfl | rfl <;> rfl
/-- append, as the walk meets it: the element lies in a block of its own. -/
theorem wp_app {ops : Array Oper} {rest : List Oper} {o : Oper} {a : Act} {Q : Exit → Act → World → Prop} (w : World) (hgd : o.guard = none) (s x : Operand)
    (ho : o.op = .call { callee := .builtin .append, args := #[s, x], argTypes := #[22, 22] })
    (B : Nat) (v : Value) (l : List Ob) (q : Ob) (hs : a.eval s = v) (hx : a.eval x = .slice (some ⟨w.heap.size, 0, none⟩) 1 1) (hown : OwnO w B v l) (hl : l.length ≤ 1000000)
    (h : ∀ v' w', OwnO w' B v' (l ++ [q]) → Below B w w' → wpList Tryz.prog ops Q rest (a.put o.dst v') w') : wpList Tryz.prog ops Q (o :: rest) a (w.alloc (.cells (obsC q).toArray 33)) := by
  obtain ⟨i0, hi, hz0, hz1, hz2⟩ := info_parts infoO
  have ho' := hown.1.alloc (.cells (obsC q).toArray 33)
  have nw := news_of (rangeAt_new w (obsC q) 33)
  have b1 : Below B w (w.alloc (.cells (obsC q).toArray 33)) := (Below.refl _ _).alloc hown.2 _
  refine wpList_append_own _ hgd s x 22 ho B 33 i0 _ 8 80 Tryz.underlying22 hi hz0 hz1 hz2 rfl (by decide) v l.length (flatO l) hs ho' ⟨w.heap.size, 0, none⟩ 1 1 (obsC q) hx rfl nw (obsC_one q) (by unfold maxLen; omega) (by omega) (Nat.le_trans hown.2 b1.size) ?_
  intro v' w' h1 h2 _
  have e := flatO_snoc l q
  have hb : Below B w w' := b1.trans ((Below.refl B _).grown h2 (Nat.le_trans hown.2 b1.size) (fun k hk => (hown.1.lt k hk).1))
  refine h v' w' ⟨?_, Nat.le_trans hown.2 hb.size⟩ hb
  rw [e, List.length_append]
  exact h1
theorem wp_appR {ops : Array Oper} {rest : List Oper} {o : Oper} {a : Act} {Q : Exit → Act → World → Prop} (w : World) (hgd : o.guard = none) (s x : Operand)
    (ho : o.op = .call { callee := .builtin .append, args := #[s, x], argTypes := #[107, 107] })
    (B : Nat) (v : Value) (l : List Ob) (q : Ob) (hs : a.eval s = v) (hx : a.eval x = .slice (some ⟨w.heap.size, 0, none⟩) 1 1) (hown : OwnR w B v l) (hl : l.length ≤ 1000000)
    (h : ∀ v' w', OwnR w' B v' (l ++ [q]) → Below B w w' → wpList Tryz.prog ops Q rest (a.put o.dst v') w') : wpList Tryz.prog ops Q (o :: rest) a (w.alloc (.cells (obsC q).toArray 108)) := by
  obtain ⟨i0, hi, hz0, hz1, hz2⟩ := info_parts infoR
  have ho' := hown.1.alloc (.cells (obsC q).toArray 108)
  have nw := news_of (rangeAt_new w (obsC q) 108)
  have b1 : Below B w (w.alloc (.cells (obsC q).toArray 108)) := (Below.refl _ _).alloc hown.2 _
  refine wpList_append_own _ hgd s x 107 ho B 108 i0 _ 8 80 Tryz.underlying107 hi hz0 hz1 hz2 rfl (by decide) v l.length (flatO l) hs ho' ⟨w.heap.size, 0, none⟩ 1 1 (obsC q) hx rfl nw (obsC_one q) (by unfold maxLen; omega) (by omega) (Nat.le_trans hown.2 b1.size) ?_
  intro v' w' h1 h2 _
  have e := flatO_snoc l q
  have hb : Below B w w' := b1.trans ((Below.refl B _).grown h2 (Nat.le_trans hown.2 b1.size) (fun k hk => (hown.1.lt k hk).1))
  refine h v' w' ⟨?_, Nat.le_trans hown.2 hb.size⟩ hb
  rw [e, List.length_append]
  exact h1
end Ow
end Go.Proofs.YtaghilgfldaaiaaGreatDoor
/-
  The walks of comparisons: number, text of the reference; cmp.Compare, cmp.Or.
-/
namespace Go.Proofs.YtaghilgfldaaiaaGreatDoor
namespace Ow
open Go.RowKit Lw Go.Proofs.YtaghilgfldaaiaaGreatDoor.Ap Go.Proofs.YtaghilgfldaaiaaGreatDoor.Op Go.Proofs.YtaghilgfldaaiaaGreatDoor.Mp Go.Proofs.YtaghilgfldaaiaaGreatDoor.Mw Go.Proofs.YtaghilgfldaaiaaGreatDoor.At

theorem bl_eq : ∀ (x y : List UInt8), Go.Op.bytesLess x y = decide (x < y)
  | [], [] => by simp [Go.Op.bytesLess]
  | _ :: _, [] => by simp [Go.Op.bytesLess]
  | [], _ :: _ => by simp [Go.Op.bytesLess]
  | a :: x, b :: y => by
    rw [Go.Op.bytesLess, bl_eq x y]
    by_cases h : a < b
    · simp [h, List.cons_lt_cons_iff]
    · by_cases g : a = b
      · subst g; simp [List.cons_lt_cons_iff]
      · simp [h, g, List.cons_lt_cons_iff]
theorem bl_t {x y : ByteArray} (h : x.data.toList < y.data.toList) : Go.Op.bytesLess x.toList y.toList = true := by rw [bl_eq, Lib.toList_data, Lib.toList_data]; exact decide_eq_true h
theorem bl_f {x y : ByteArray} (h : ¬ x.data.toList < y.data.toList) : Go.Op.bytesLess x.toList y.toList = false := by rw [bl_eq, Lib.toList_data, Lib.toList_data]; exact decide_eq_false h
theorem be_t {x y : ByteArray} (h : ¬ x.data.toList < y.data.toList) (g : ¬ y.data.toList < x.data.toList) : (x.toList == y.toList) = true := by
  rw [Lib.toList_data, Lib.toList_data, List.le_antisymm (List.not_lt.1 g) (List.not_lt.1 h)]; simp
theorem be_f {x y : ByteArray} (g : y.data.toList < x.data.toList) : (x.toList == y.toList) = false := by
  rw [Lib.toList_data, Lib.toList_data]
  exact beq_eq_false_iff_ne.2 fun e => by rw [e] at g; exact List.lt_irrefl _ g
theorem cI_m {x y : Int} (h : x < y) : cI x y = -1 := if_pos h
theorem cI_p {x y : Int} (h : ¬ x < y) (g : y < x) : cI x y = 1 := by unfold cI; rw [if_neg h, if_pos g]
theorem cI_z {x y : Int} (h : ¬ x < y) (g : ¬ y < x) : cI x y = 0 := by unfold cI; rw [if_neg h, if_neg g]
theorem cS_m {x y : ByteArray} (h : x.data.toList < y.data.toList) : cS x y = -1 := if_pos h
theorem cS_p {x y : ByteArray} (h : ¬ x.data.toList < y.data.toList) (g : y.data.toList < x.data.toList) : cS x y = 1 := by unfold cS; rw [if_neg h, if_pos g]
theorem cS_z {x y : ByteArray} (h : ¬ x.data.toList < y.data.toList) (g : ¬ y.data.toList < x.data.toList) : cS x y = 0 := by unfold cS; rw [if_neg h, if_neg g]
set_option maxRecDepth 100000 in
set_option maxHeartbeats 1000000 in
theorem number_any (x y : Int) (w : World) : Calls Tryz.prog 62 #[.int .i64 x, .int .i64 y] w fun e w' => e = .returned (.int .i64 (cI x y)) ∧ w = w' := by
  by_cases h : x < y
  · rw [cI_m h]
    go_enter Tryz.func62, Tryz.ntmps62
    go_wp2_with go_in
    go_ret
    exact ⟨rfl, rfl⟩
  · by_cases g : y < x
    · rw [cI_p h g]
      go_enter Tryz.func62, Tryz.ntmps62
      go_wp2_with go_in
      go_ret
      exact ⟨rfl, rfl⟩
    · rw [cI_z h g]
      go_enter Tryz.func62, Tryz.ntmps62
      go_wp2_with go_in
      go_ret
      exact ⟨rfl, rfl⟩
set_option maxRecDepth 100000 in
set_option maxHeartbeats 1000000 in
theorem text_any (x y : ByteArray) (w : World) : Calls Tryz.prog 63 #[.string x, .string y] w fun e w' => e = .returned (.int .i64 (cS x y)) ∧ w = w' := by
  by_cases h : x.data.toList < y.data.toList
  · rw [cS_m h]
    have f1 := bl_t h
    clear h
    go_enter Tryz.func63, Tryz.ntmps63
    go_wp2_with go_in
    go_ret
    exact ⟨rfl, rfl⟩
  · by_cases g : y.data.toList < x.data.toList
    · rw [cS_p h g]
      have f1 := bl_f h
      have f2 := be_f g
      clear h g
      go_enter Tryz.func63, Tryz.ntmps63
      go_wp2_with go_in
      go_ret
      exact ⟨rfl, rfl⟩
    · rw [cS_z h g]
      have f1 := bl_f h
      have f2 := be_t h g
      clear h g
      go_enter Tryz.func63, Tryz.ntmps63
      go_wp2_with go_in
      go_ret
      exact ⟨rfl, rfl⟩
set_option maxRecDepth 100000 in
set_option maxHeartbeats 1000000 in
theorem cmp64_any (x y : Int) (w : World) : Calls Tryz.prog 114 #[.int .i64 x, .int .i64 y] w fun e w' => e = .returned (.int .i64 (cI x y)) ∧ w = w' := by
  by_cases h : x < y
  · rw [cI_m h]
    go_enter Tryz.func114, Tryz.ntmps114
    go_wp2_with go_in
    go_ret
    exact ⟨rfl, rfl⟩
  · by_cases g : y < x
    · rw [cI_p h g]
      go_enter Tryz.func114, Tryz.ntmps114
      go_wp2_with go_in
      go_ret
      exact ⟨rfl, rfl⟩
    · rw [cI_z h g]
      go_enter Tryz.func114, Tryz.ntmps114
      go_wp2_with go_in
      go_ret
      exact ⟨rfl, rfl⟩
set_option maxRecDepth 100000 in
set_option maxHeartbeats 1000000 in
theorem cmpint_any (x y : Int) (w : World) : Calls Tryz.prog 116 #[.int .i64 x, .int .i64 y] w fun e w' => e = .returned (.int .i64 (cI x y)) ∧ w = w' := by
  by_cases h : x < y
  · rw [cI_m h]
    go_enter Tryz.func116, Tryz.ntmps116
    go_wp2_with go_in
    go_ret
    exact ⟨rfl, rfl⟩
  · by_cases g : y < x
    · rw [cI_p h g]
      go_enter Tryz.func116, Tryz.ntmps116
      go_wp2_with go_in
      go_ret
      exact ⟨rfl, rfl⟩
    · rw [cI_z h g]
      go_enter Tryz.func116, Tryz.ntmps116
      go_wp2_with go_in
      go_ret
      exact ⟨rfl, rfl⟩
set_option maxRecDepth 100000 in
set_option maxHeartbeats 1000000 in
theorem cmpbyte_any (x y : Int) (w : World) : Calls Tryz.prog 117 #[.int .u8 x, .int .u8 y] w fun e w' => e = .returned (.int .i64 (cI x y)) ∧ w = w' := by
  by_cases h : x < y
  · rw [cI_m h]
    go_enter Tryz.func117, Tryz.ntmps117
    go_wp2_with go_in
    go_ret
    exact ⟨rfl, rfl⟩
  · by_cases g : y < x
    · rw [cI_p h g]
      go_enter Tryz.func117, Tryz.ntmps117
      go_wp2_with go_in
      go_ret
      exact ⟨rfl, rfl⟩
    · rw [cI_z h g]
      go_enter Tryz.func117, Tryz.ntmps117
      go_wp2_with go_in
      go_ret
      exact ⟨rfl, rfl⟩
set_option maxRecDepth 100000 in
set_option maxHeartbeats 1000000 in
theorem cmpstr_any (x y : ByteArray) (w : World) : Calls Tryz.prog 115 #[.string x, .string y] w fun e w' => e = .returned (.int .i64 (cS x y)) ∧ w = w' := by
  by_cases h : x.data.toList < y.data.toList
  · rw [cS_m h]
    have f1 := bl_t h
    clear h
    go_enter Tryz.func115, Tryz.ntmps115
    go_wp2_with go_in
    go_ret
    exact ⟨rfl, rfl⟩
  · by_cases g : y.data.toList < x.data.toList
    · rw [cS_p h g]
      have f1 := bl_f h
      have f2 := be_f g
      clear h g
      go_enter Tryz.func115, Tryz.ntmps115
      go_wp2_with go_in
      go_ret
      exact ⟨rfl, rfl⟩
    · rw [cS_z h g]
      have f1 := bl_f h
      have f2 := be_t h g
      clear h g
      go_enter Tryz.func115, Tryz.ntmps115
      go_wp2_with go_in
      go_ret
      exact ⟨rfl, rfl⟩
set_option maxRecDepth 100000 in
set_option maxHeartbeats 4000000 in
theorem or_any (b cap : Nat) (l : List Int) (w : World) (hl : ∀ i (h : i < l.length), w.cell? ⟨b, i, none⟩ = some (.int .i64 (l[i]'h))) (hm : l.length ≤ 1000) :
    Calls Tryz.prog 113 #[.slice (some ⟨b, 0, none⟩) l.length cap] w fun e w' => e = .returned (.int .i64 (orL l)) ∧ w = w' := by
  have OA := Lib.hid (fun k (hk : k < l.length) (h : ∀ i (hi : i < l.length), i < k → l[i] = 0) (g : l[k] ≠ 0) => orL_at hk h g)
  have OZ := Lib.hid (fun (h : ∀ i (hi : i < l.length), l[i] = 0) => orL_zero h)
  have HL := Lib.hid hl
  generalize orL l = K at *
  obtain ⟨n, hnl⟩ : ∃ n, l.length = n := ⟨_, rfl⟩
  rw [hnl] at hm ⊢
  have NL := Lib.hid hnl
  clear hl hnl
  go_enter Tryz.func113, Tryz.ntmps113
  go_wp2_with fail
  go_loop [8] (fun i => ∃ k : Nat, k ≤ n ∧ i = .int .i64 k ∧ Hid (∀ j (h : j < l.length), j < k → l[j] = 0)) (fun i => n - (intOf i).toNat)
  case atStart => exact ⟨0, Nat.zero_le _, rfl, Lib.hid (fun j _ h => by omega)⟩
  case round =>
    obtain ⟨k, hk, rfl, D⟩ := hrel
    by_cases hlt : k < n
    · have hkl : k < l.length := by rw [NL.out]; exact hlt
      have c0 := HL.out k hkl
      have i1 : (k : Int) < (n : Int) := by omega
      by_cases hz : l[k] = 0
      · have DK := Lib.hid (show ∀ j (h : j < l.length), j < k + 1 → l[j] = 0 from fun j h hj => by
          by_cases e : j = k
          · subst e; exact hz
          · exact D.out j h (by omega))
        rw [hz] at c0
        clear D OA OZ hz
        go_wp2_with fail
        go_round
        case rel => exact ⟨k + 1, by omega, by go_num, DK⟩
        case measure => simp [intOf]; omega
      · have E := Lib.hid (OA.out k hkl D.out hz)
        generalize l[k]'hkl = v at *
        have hz2 : (v != 0) = true := by rw [bne, beq_eq_false_iff_ne.2 hz]; rfl
        clear D OA OZ
        go_wp2_with fail
        go_ret
        exact ⟨by rw [E.out]; rfl, rfl⟩
    · obtain rfl : k = n := by omega
      have E := Lib.hid (OZ.out (fun i hi => D.out i hi (by have := NL.out; omega)))
      clear OA OZ D
      go_wp2_with fail
      go_ret
      exact ⟨by rw [E.out]; rfl, rfl⟩
end Ow
end Go.Proofs.YtaghilgfldaaiaaGreatDoor
/-
  The walks of compare of obs, and of Compare of the reference.
-/
namespace Go.Proofs.YtaghilgfldaaiaaGreatDoor
namespace Ow
open Go.RowKit Lw Go.Proofs.YtaghilgfldaaiaaGreatDoor.Ap Go.Proofs.YtaghilgfldaaiaaGreatDoor.Op Go.Proofs.YtaghilgfldaaiaaGreatDoor.Mp Go.Proofs.YtaghilgfldaaiaaGreatDoor.Mw Go.Proofs.YtaghilgfldaaiaaGreatDoor.At Go.Sort

/-- The two boxes of a comparison. -/
structure CX (W0 : World) (b : Nat) (x y : Ob) (w : World) : Prop where
  at_ : ∃ m os, w = grow (W0.drewN m) os
  lt : b + 1 < w.heap.size
  rx : w.rangeAt b 0 (obsC x)
  ry : w.rangeAt (b + 1) 0 (obsC y)
theorem CX.drew {W0 w : World} {b : Nat} {x y : Ob} (h : CX W0 b x y w) : CX W0 b x y w.drew := by
  obtain ⟨m, os, e⟩ := h.at_
  have bl : Below w.heap.size w w.drew := (Below.refl _ _).drew
  exact ⟨⟨m + 1, os, by rw [e]; rfl⟩, h.lt, rangeAt_below h.rx bl (by have := h.lt; omega), rangeAt_below h.ry bl h.lt⟩
theorem CX.alloc {W0 w : World} {b : Nat} {x y : Ob} (h : CX W0 b x y w) (o : Obj) : CX W0 b x y (w.alloc o) := by
  obtain ⟨m, os, e⟩ := h.at_
  have bl : Below w.heap.size w (w.alloc o) := (Below.refl _ _).alloc (Nat.le_refl _) o
  exact ⟨⟨m, os ++ #[o], by rw [alloc_eq_grow, e, grow_grow]⟩, Nat.lt_of_lt_of_le h.lt bl.size, rangeAt_below h.rx bl (by have := h.lt; omega), rangeAt_below h.ry bl h.lt⟩
theorem CX.new (W : World) (x y : Ob) (t : TypeId) : CX W W.heap.size x y ((W.alloc (.cells (obsC x).toArray t)).alloc (.cells (obsC y).toArray t)) := by
  have b1 := (Below.refl (W.alloc (.cells (obsC x).toArray t)).heap.size (W.alloc (.cells (obsC x).toArray t))).alloc (Nat.le_refl _) (.cells (obsC y).toArray t)
  have e : (W.alloc (.cells (obsC x).toArray t)).heap.size = W.heap.size + 1 := by simp
  refine ⟨⟨0, #[.cells (obsC x).toArray t, .cells (obsC y).toArray t], ?_⟩, by simp, rangeAt_below (rangeAt_new W (obsC x) t) b1 (by simp), ?_⟩
  · rw [alloc_eq_grow, alloc_eq_grow, grow_grow]; rfl
  · have := rangeAt_new (W.alloc (.cells (obsC x).toArray t)) (obsC y) t
    rwa [e] at this
/-- The numbers of a comparison, as cells. -/
abbrev cmpC (x y : Ob) : List Value := [.int .i64 (cI x.t y.t), .int .i64 (cS x.site y.site), .int .i64 (cS x.name y.name), .int .i64 (cI x.ra y.ra), .int .i64 (cI x.dec y.dec), .int .i64 (cI x.sg y.sg), .int .i64 (cI x.mag y.mag), .int .i64 (cI x.band y.band)]
theorem cmpC_cell {b : Nat} {x y : Ob} {w : World} (h : w.rangeAt b 0 (cmpC x y)) : ∀ i (hi : i < (cmpL x y).length), w.cell? ⟨b, i, none⟩ = some (.int .i64 ((cmpL x y)[i]'hi)) := fun i hi => by
  have e : (cmpC x y)[i]? = some (.int .i64 ((cmpL x y)[i]'hi)) := by
    have : cmpC x y = (cmpL x y).map (Value.int .i64) := rfl
    rw [this, List.getElem?_map, List.getElem?_eq_getElem hi]; rfl
  have := h i _ e
  rwa [Nat.zero_add] at this
theorem row3 (w : World) (a b : Obj) (cs : List Value) (t : TypeId) : (((w.alloc a).alloc b).alloc (.cells cs.toArray t)).drew.rangeAt (w.heap.size + 1 + 1) 0 cs := by
  have h := rangeAt_new ((w.alloc a).alloc b) cs t
  have e : ((w.alloc a).alloc b).heap.size = w.heap.size + 1 + 1 := by simp
  rw [e] at h
  exact rangeAt_below h (Below.refl _ _).drew (by simp)
theorem or8 (b : Nat) (x y : Ob) (w : World) (h : w.rangeAt b 0 (cmpC x y)) : Calls Tryz.prog 113 #[.slice (some ⟨b, 0, none⟩) 8 8] w fun e w' => e = .returned (.int .i64 (cmpO x y)) ∧ w = w' := or_any b 8 (cmpL x y) w (cmpC_cell h) (by show 8 ≤ 1000; omega)
set_option maxRecDepth 100000 in
set_option maxHeartbeats 40000000 in
theorem compare_any (x y : Ob) (w : World) : Calls Tryz.prog 67 #[obsV x, obsV y] w fun e w' => e = .returned (.int .i64 (cmpO x y)) ∧ ∃ q os', w' = grow (w.drewN q) os' := by
  have L := Lib.hid (CX.new w x y 108)
  obtain ⟨n0, s0, t0, r0, d0, g0, m0, b0⟩ := x
  obtain ⟨n1, s1, t1, r1, d1, g1, m1, b1⟩ := y
  have OR := Lib.hid (fun b w' h => or8 b ⟨n0, s0, t0, r0, d0, g0, m0, b0⟩ ⟨n1, s1, t1, r1, d1, g1, m1, b1⟩ w' h)
  generalize cmpO ⟨n0, s0, t0, r0, d0, g0, m0, b0⟩ ⟨n1, s1, t1, r1, d1, g1, m1, b1⟩ = K at *
  go_enter Tryz.func67, Tryz.ntmps67
  go_wp2_with fail
  refine wp_region_held_drew (S := CX w w.heap.size ⟨n0, s0, t0, r0, d0, g0, m0, b0⟩ ⟨n1, s1, t1, r1, d1, g1, m1, b1⟩) (by kernel_rfl) L.out.drew (fun hHeld => ?_)
  clear L
  refine wpAnyH_take (i := 0) (oi := ?oi0x1) (v := ?v0x1) ?hi0x1 (by kernel_rfl) (by kernel_rfl) (by kernel_rfl) ?hq0x1 ?hy0x1 hHeld ?rest0x1
  case hi0x1 => ((try simp only [List.getElem?_toArray, List.getElem?_cons_succ, List.getElem?_cons_zero]); (try rfl))
  case hq0x1 => exact fun _ _ _ h => h
  case hy0x1 => exact Or.inl ⟨by rfl, by intro w hSw; clear hSw; go_simp; try with_reducible rfl⟩
  try simp only [Act.put, List.setIfInBounds_toArray, List.set_cons_zero, List.set_cons_succ]
  refine wpAnyH_take (i := 1) (oi := ?oi1x2) (v := ?v1x2) ?hi1x2 (by kernel_rfl) (by kernel_rfl) (by kernel_rfl) ?hq1x2 ?hy1x2 hHeld ?rest1x2
  case hi1x2 => ((try simp only [List.getElem?_toArray, List.getElem?_cons_succ, List.getElem?_cons_zero]); (try rfl))
  case hq1x2 => exact fun _ _ _ h => h
  case hy1x2 => exact Or.inl ⟨by rfl, by intro w hSw; have q := (CX.rx hSw) 2 _ rfl; clear hSw; simp only [Nat.zero_add] at q; go_simp; try with_reducible rfl⟩
  try simp only [Act.put, List.setIfInBounds_toArray, List.set_cons_zero, List.set_cons_succ]
  refine wpAnyH_take (i := 2) (oi := ?oi2x3) (v := ?v2x3) ?hi2x3 (by kernel_rfl) (by kernel_rfl) (by kernel_rfl) ?hq2x3 ?hy2x3 hHeld ?rest2x3
  case hi2x3 => ((try simp only [List.getElem?_toArray, List.getElem?_cons_succ, List.getElem?_cons_zero]); (try rfl))
  case hq2x3 => exact fun _ _ _ h => h
  case hy2x3 => exact Or.inl ⟨by rfl, by intro w hSw; clear hSw; go_simp; try with_reducible rfl⟩
  try simp only [Act.put, List.setIfInBounds_toArray, List.set_cons_zero, List.set_cons_succ]
  refine wpAnyH_take (i := 3) (oi := ?oi3x4) (v := ?v3x4) ?hi3x4 (by kernel_rfl) (by kernel_rfl) (by kernel_rfl) ?hq3x4 ?hy3x4 hHeld ?rest3x4
  case hi3x4 => ((try simp only [List.getElem?_toArray, List.getElem?_cons_succ, List.getElem?_cons_zero]); (try rfl))
  case hq3x4 => exact fun _ _ _ h => h
  case hy3x4 => exact Or.inl ⟨by rfl, by intro w hSw; have q := (CX.ry hSw) 2 _ rfl; clear hSw; simp only [Nat.zero_add] at q; go_simp; try with_reducible rfl⟩
  try simp only [Act.put, List.setIfInBounds_toArray, List.set_cons_zero, List.set_cons_succ]
  refine wpAnyH_take (i := 5) (oi := ?oi5x5) (v := ?v5x5) ?hi5x5 (by kernel_rfl) (by kernel_rfl) (by kernel_rfl) ?hq5x5 ?hy5x5 hHeld ?rest5x5
  case hi5x5 => ((try simp only [List.getElem?_toArray, List.getElem?_cons_succ, List.getElem?_cons_zero]); (try rfl))
  case hq5x5 => exact fun _ _ _ h => h
  case hy5x5 => exact Or.inl ⟨by rfl, by intro w hSw; clear hSw; go_simp; try with_reducible rfl⟩
  try simp only [Act.put, List.setIfInBounds_toArray, List.set_cons_zero, List.set_cons_succ]
  refine wpAnyH_take (i := 6) (oi := ?oi6x6) (v := ?v6x6) ?hi6x6 (by kernel_rfl) (by kernel_rfl) (by kernel_rfl) ?hq6x6 ?hy6x6 hHeld ?rest6x6
  case hi6x6 => ((try simp only [List.getElem?_toArray, List.getElem?_cons_succ, List.getElem?_cons_zero]); (try rfl))
  case hq6x6 => exact fun _ _ _ h => h
  case hy6x6 => exact Or.inl ⟨by rfl, by intro w hSw; have q := (CX.rx hSw) 1 _ rfl; clear hSw; simp only [Nat.zero_add] at q; go_simp; try with_reducible rfl⟩
  try simp only [Act.put, List.setIfInBounds_toArray, List.set_cons_zero, List.set_cons_succ]
  refine wpAnyH_take (i := 7) (oi := ?oi7x7) (v := ?v7x7) ?hi7x7 (by kernel_rfl) (by kernel_rfl) (by kernel_rfl) ?hq7x7 ?hy7x7 hHeld ?rest7x7
  case hi7x7 => ((try simp only [List.getElem?_toArray, List.getElem?_cons_succ, List.getElem?_cons_zero]); (try rfl))
  case hq7x7 => exact fun _ _ _ h => h
  case hy7x7 => exact Or.inl ⟨by rfl, by intro w hSw; clear hSw; go_simp; try with_reducible rfl⟩
  try simp only [Act.put, List.setIfInBounds_toArray, List.set_cons_zero, List.set_cons_succ]
  refine wpAnyH_take (i := 8) (oi := ?oi8x8) (v := ?v8x8) ?hi8x8 (by kernel_rfl) (by kernel_rfl) (by kernel_rfl) ?hq8x8 ?hy8x8 hHeld ?rest8x8
  case hi8x8 => ((try simp only [List.getElem?_toArray, List.getElem?_cons_succ, List.getElem?_cons_zero]); (try rfl))
  case hq8x8 => exact fun _ _ _ h => h
  case hy8x8 => exact Or.inl ⟨by rfl, by intro w hSw; have q := (CX.ry hSw) 1 _ rfl; clear hSw; simp only [Nat.zero_add] at q; go_simp; try with_reducible rfl⟩
  try simp only [Act.put, List.setIfInBounds_toArray, List.set_cons_zero, List.set_cons_succ]
  refine wpAnyH_take (i := 10) (oi := ?oi10x9) (v := ?v10x9) ?hi10x9 (by kernel_rfl) (by kernel_rfl) (by kernel_rfl) ?hq10x9 ?hy10x9 hHeld ?rest10x9
  case hi10x9 => ((try simp only [List.getElem?_toArray, List.getElem?_cons_succ, List.getElem?_cons_zero]); (try rfl))
  case hq10x9 => exact fun _ _ _ h => h
  case hy10x9 => exact Or.inl ⟨by rfl, by intro w hSw; clear hSw; go_simp; try with_reducible rfl⟩
  try simp only [Act.put, List.setIfInBounds_toArray, List.set_cons_zero, List.set_cons_succ]
  refine wpAnyH_take (i := 11) (oi := ?oi11x10) (v := ?v11x10) ?hi11x10 (by kernel_rfl) (by kernel_rfl) (by kernel_rfl) ?hq11x10 ?hy11x10 hHeld ?rest11x10
  case hi11x10 => ((try simp only [List.getElem?_toArray, List.getElem?_cons_succ, List.getElem?_cons_zero]); (try rfl))
  case hq11x10 => exact fun _ _ _ h => h
  case hy11x10 => exact Or.inl ⟨by rfl, by intro w hSw; have q := (CX.rx hSw) 0 _ rfl; clear hSw; simp only [Nat.zero_add] at q; go_simp; try with_reducible rfl⟩
  try simp only [Act.put, List.setIfInBounds_toArray, List.set_cons_zero, List.set_cons_succ]
  refine wpAnyH_take (i := 12) (oi := ?oi12x11) (v := ?v12x11) ?hi12x11 (by kernel_rfl) (by kernel_rfl) (by kernel_rfl) ?hq12x11 ?hy12x11 hHeld ?rest12x11
  case hi12x11 => ((try simp only [List.getElem?_toArray, List.getElem?_cons_succ, List.getElem?_cons_zero]); (try rfl))
  case hq12x11 => exact fun _ _ _ h => h
  case hy12x11 => exact Or.inl ⟨by rfl, by intro w hSw; clear hSw; go_simp; try with_reducible rfl⟩
  try simp only [Act.put, List.setIfInBounds_toArray, List.set_cons_zero, List.set_cons_succ]
  refine wpAnyH_take (i := 13) (oi := ?oi13x12) (v := ?v13x12) ?hi13x12 (by kernel_rfl) (by kernel_rfl) (by kernel_rfl) ?hq13x12 ?hy13x12 hHeld ?rest13x12
  case hi13x12 => ((try simp only [List.getElem?_toArray, List.getElem?_cons_succ, List.getElem?_cons_zero]); (try rfl))
  case hq13x12 => exact fun _ _ _ h => h
  case hy13x12 => exact Or.inl ⟨by rfl, by intro w hSw; have q := (CX.ry hSw) 0 _ rfl; clear hSw; simp only [Nat.zero_add] at q; go_simp; try with_reducible rfl⟩
  try simp only [Act.put, List.setIfInBounds_toArray, List.set_cons_zero, List.set_cons_succ]
  refine wpAnyH_take (i := 15) (oi := ?oi15x13) (v := ?v15x13) ?hi15x13 (by kernel_rfl) (by kernel_rfl) (by kernel_rfl) ?hq15x13 ?hy15x13 hHeld ?rest15x13
  case hi15x13 => ((try simp only [List.getElem?_toArray, List.getElem?_cons_succ, List.getElem?_cons_zero]); (try rfl))
  case hq15x13 => exact fun _ _ _ h => h
  case hy15x13 => exact Or.inl ⟨by rfl, by intro w hSw; clear hSw; go_simp; try with_reducible rfl⟩
  try simp only [Act.put, List.setIfInBounds_toArray, List.set_cons_zero, List.set_cons_succ]
  refine wpAnyH_take (i := 16) (oi := ?oi16x14) (v := ?v16x14) ?hi16x14 (by kernel_rfl) (by kernel_rfl) (by kernel_rfl) ?hq16x14 ?hy16x14 hHeld ?rest16x14
  case hi16x14 => ((try simp only [List.getElem?_toArray, List.getElem?_cons_succ, List.getElem?_cons_zero]); (try rfl))
  case hq16x14 => exact fun _ _ _ h => h
  case hy16x14 => exact Or.inl ⟨by rfl, by intro w hSw; have q := (CX.rx hSw) 3 _ rfl; clear hSw; simp only [Nat.zero_add] at q; go_simp; try with_reducible rfl⟩
  try simp only [Act.put, List.setIfInBounds_toArray, List.set_cons_zero, List.set_cons_succ]
  refine wpAnyH_take (i := 17) (oi := ?oi17x15) (v := ?v17x15) ?hi17x15 (by kernel_rfl) (by kernel_rfl) (by kernel_rfl) ?hq17x15 ?hy17x15 hHeld ?rest17x15
  case hi17x15 => ((try simp only [List.getElem?_toArray, List.getElem?_cons_succ, List.getElem?_cons_zero]); (try rfl))
  case hq17x15 => exact fun _ _ _ h => h
  case hy17x15 => exact Or.inl ⟨by rfl, by intro w hSw; clear hSw; go_simp; try with_reducible rfl⟩
  try simp only [Act.put, List.setIfInBounds_toArray, List.set_cons_zero, List.set_cons_succ]
  refine wpAnyH_take (i := 18) (oi := ?oi18x16) (v := ?v18x16) ?hi18x16 (by kernel_rfl) (by kernel_rfl) (by kernel_rfl) ?hq18x16 ?hy18x16 hHeld ?rest18x16
  case hi18x16 => ((try simp only [List.getElem?_toArray, List.getElem?_cons_succ, List.getElem?_cons_zero]); (try rfl))
  case hq18x16 => exact fun _ _ _ h => h
  case hy18x16 => exact Or.inl ⟨by rfl, by intro w hSw; have q := (CX.ry hSw) 3 _ rfl; clear hSw; simp only [Nat.zero_add] at q; go_simp; try with_reducible rfl⟩
  try simp only [Act.put, List.setIfInBounds_toArray, List.set_cons_zero, List.set_cons_succ]
  refine wpAnyH_take (i := 20) (oi := ?oi20x17) (v := ?v20x17) ?hi20x17 (by kernel_rfl) (by kernel_rfl) (by kernel_rfl) ?hq20x17 ?hy20x17 hHeld ?rest20x17
  case hi20x17 => ((try simp only [List.getElem?_toArray, List.getElem?_cons_succ, List.getElem?_cons_zero]); (try rfl))
  case hq20x17 => exact fun _ _ _ h => h
  case hy20x17 => exact Or.inl ⟨by rfl, by intro w hSw; clear hSw; go_simp; try with_reducible rfl⟩
  try simp only [Act.put, List.setIfInBounds_toArray, List.set_cons_zero, List.set_cons_succ]
  refine wpAnyH_take (i := 21) (oi := ?oi21x18) (v := ?v21x18) ?hi21x18 (by kernel_rfl) (by kernel_rfl) (by kernel_rfl) ?hq21x18 ?hy21x18 hHeld ?rest21x18
  case hi21x18 => ((try simp only [List.getElem?_toArray, List.getElem?_cons_succ, List.getElem?_cons_zero]); (try rfl))
  case hq21x18 => exact fun _ _ _ h => h
  case hy21x18 => exact Or.inl ⟨by rfl, by intro w hSw; have q := (CX.rx hSw) 4 _ rfl; clear hSw; simp only [Nat.zero_add] at q; go_simp; try with_reducible rfl⟩
  try simp only [Act.put, List.setIfInBounds_toArray, List.set_cons_zero, List.set_cons_succ]
  refine wpAnyH_take (i := 22) (oi := ?oi22x19) (v := ?v22x19) ?hi22x19 (by kernel_rfl) (by kernel_rfl) (by kernel_rfl) ?hq22x19 ?hy22x19 hHeld ?rest22x19
  case hi22x19 => ((try simp only [List.getElem?_toArray, List.getElem?_cons_succ, List.getElem?_cons_zero]); (try rfl))
  case hq22x19 => exact fun _ _ _ h => h
  case hy22x19 => exact Or.inl ⟨by rfl, by intro w hSw; clear hSw; go_simp; try with_reducible rfl⟩
  try simp only [Act.put, List.setIfInBounds_toArray, List.set_cons_zero, List.set_cons_succ]
  refine wpAnyH_take (i := 23) (oi := ?oi23x20) (v := ?v23x20) ?hi23x20 (by kernel_rfl) (by kernel_rfl) (by kernel_rfl) ?hq23x20 ?hy23x20 hHeld ?rest23x20
  case hi23x20 => ((try simp only [List.getElem?_toArray, List.getElem?_cons_succ, List.getElem?_cons_zero]); (try rfl))
  case hq23x20 => exact fun _ _ _ h => h
  case hy23x20 => exact Or.inl ⟨by rfl, by intro w hSw; have q := (CX.ry hSw) 4 _ rfl; clear hSw; simp only [Nat.zero_add] at q; go_simp; try with_reducible rfl⟩
  try simp only [Act.put, List.setIfInBounds_toArray, List.set_cons_zero, List.set_cons_succ]
  refine wpAnyH_take (i := 25) (oi := ?oi25x21) (v := ?v25x21) ?hi25x21 (by kernel_rfl) (by kernel_rfl) (by kernel_rfl) ?hq25x21 ?hy25x21 hHeld ?rest25x21
  case hi25x21 => ((try simp only [List.getElem?_toArray, List.getElem?_cons_succ, List.getElem?_cons_zero]); (try rfl))
  case hq25x21 => exact fun _ _ _ h => h
  case hy25x21 => exact Or.inl ⟨by rfl, by intro w hSw; clear hSw; go_simp; try with_reducible rfl⟩
  try simp only [Act.put, List.setIfInBounds_toArray, List.set_cons_zero, List.set_cons_succ]
  refine wpAnyH_take (i := 26) (oi := ?oi26x22) (v := ?v26x22) ?hi26x22 (by kernel_rfl) (by kernel_rfl) (by kernel_rfl) ?hq26x22 ?hy26x22 hHeld ?rest26x22
  case hi26x22 => ((try simp only [List.getElem?_toArray, List.getElem?_cons_succ, List.getElem?_cons_zero]); (try rfl))
  case hq26x22 => exact fun _ _ _ h => h
  case hy26x22 => exact Or.inl ⟨by rfl, by intro w hSw; have q := (CX.rx hSw) 5 _ rfl; clear hSw; simp only [Nat.zero_add] at q; go_simp; try with_reducible rfl⟩
  try simp only [Act.put, List.setIfInBounds_toArray, List.set_cons_zero, List.set_cons_succ]
  refine wpAnyH_take (i := 27) (oi := ?oi27x23) (v := ?v27x23) ?hi27x23 (by kernel_rfl) (by kernel_rfl) (by kernel_rfl) ?hq27x23 ?hy27x23 hHeld ?rest27x23
  case hi27x23 => ((try simp only [List.getElem?_toArray, List.getElem?_cons_succ, List.getElem?_cons_zero]); (try rfl))
  case hq27x23 => exact fun _ _ _ h => h
  case hy27x23 => exact Or.inl ⟨by rfl, by intro w hSw; clear hSw; go_simp; try with_reducible rfl⟩
  try simp only [Act.put, List.setIfInBounds_toArray, List.set_cons_zero, List.set_cons_succ]
  refine wpAnyH_take (i := 28) (oi := ?oi28x24) (v := ?v28x24) ?hi28x24 (by kernel_rfl) (by kernel_rfl) (by kernel_rfl) ?hq28x24 ?hy28x24 hHeld ?rest28x24
  case hi28x24 => ((try simp only [List.getElem?_toArray, List.getElem?_cons_succ, List.getElem?_cons_zero]); (try rfl))
  case hq28x24 => exact fun _ _ _ h => h
  case hy28x24 => exact Or.inl ⟨by rfl, by intro w hSw; have q := (CX.ry hSw) 5 _ rfl; clear hSw; simp only [Nat.zero_add] at q; go_simp; try with_reducible rfl⟩
  try simp only [Act.put, List.setIfInBounds_toArray, List.set_cons_zero, List.set_cons_succ]
  refine wpAnyH_take (i := 30) (oi := ?oi30x25) (v := ?v30x25) ?hi30x25 (by kernel_rfl) (by kernel_rfl) (by kernel_rfl) ?hq30x25 ?hy30x25 hHeld ?rest30x25
  case hi30x25 => ((try simp only [List.getElem?_toArray, List.getElem?_cons_succ, List.getElem?_cons_zero]); (try rfl))
  case hq30x25 => exact fun _ _ _ h => h
  case hy30x25 => exact Or.inl ⟨by rfl, by intro w hSw; clear hSw; go_simp; try with_reducible rfl⟩
  try simp only [Act.put, List.setIfInBounds_toArray, List.set_cons_zero, List.set_cons_succ]
  refine wpAnyH_take (i := 31) (oi := ?oi31x26) (v := ?v31x26) ?hi31x26 (by kernel_rfl) (by kernel_rfl) (by kernel_rfl) ?hq31x26 ?hy31x26 hHeld ?rest31x26
  case hi31x26 => ((try simp only [List.getElem?_toArray, List.getElem?_cons_succ, List.getElem?_cons_zero]); (try rfl))
  case hq31x26 => exact fun _ _ _ h => h
  case hy31x26 => exact Or.inl ⟨by rfl, by intro w hSw; have q := (CX.rx hSw) 6 _ rfl; clear hSw; simp only [Nat.zero_add] at q; go_simp; try with_reducible rfl⟩
  try simp only [Act.put, List.setIfInBounds_toArray, List.set_cons_zero, List.set_cons_succ]
  refine wpAnyH_take (i := 32) (oi := ?oi32x27) (v := ?v32x27) ?hi32x27 (by kernel_rfl) (by kernel_rfl) (by kernel_rfl) ?hq32x27 ?hy32x27 hHeld ?rest32x27
  case hi32x27 => ((try simp only [List.getElem?_toArray, List.getElem?_cons_succ, List.getElem?_cons_zero]); (try rfl))
  case hq32x27 => exact fun _ _ _ h => h
  case hy32x27 => exact Or.inl ⟨by rfl, by intro w hSw; clear hSw; go_simp; try with_reducible rfl⟩
  try simp only [Act.put, List.setIfInBounds_toArray, List.set_cons_zero, List.set_cons_succ]
  refine wpAnyH_take (i := 33) (oi := ?oi33x28) (v := ?v33x28) ?hi33x28 (by kernel_rfl) (by kernel_rfl) (by kernel_rfl) ?hq33x28 ?hy33x28 hHeld ?rest33x28
  case hi33x28 => ((try simp only [List.getElem?_toArray, List.getElem?_cons_succ, List.getElem?_cons_zero]); (try rfl))
  case hq33x28 => exact fun _ _ _ h => h
  case hy33x28 => exact Or.inl ⟨by rfl, by intro w hSw; have q := (CX.ry hSw) 6 _ rfl; clear hSw; simp only [Nat.zero_add] at q; go_simp; try with_reducible rfl⟩
  try simp only [Act.put, List.setIfInBounds_toArray, List.set_cons_zero, List.set_cons_succ]
  refine wpAnyH_take (i := 35) (oi := ?oi35x29) (v := ?v35x29) ?hi35x29 (by kernel_rfl) (by kernel_rfl) (by kernel_rfl) ?hq35x29 ?hy35x29 hHeld ?rest35x29
  case hi35x29 => ((try simp only [List.getElem?_toArray, List.getElem?_cons_succ, List.getElem?_cons_zero]); (try rfl))
  case hq35x29 => exact fun _ _ _ h => h
  case hy35x29 => exact Or.inl ⟨by rfl, by intro w hSw; clear hSw; go_simp; try with_reducible rfl⟩
  try simp only [Act.put, List.setIfInBounds_toArray, List.set_cons_zero, List.set_cons_succ]
  refine wpAnyH_take (i := 36) (oi := ?oi36x30) (v := ?v36x30) ?hi36x30 (by kernel_rfl) (by kernel_rfl) (by kernel_rfl) ?hq36x30 ?hy36x30 hHeld ?rest36x30
  case hi36x30 => ((try simp only [List.getElem?_toArray, List.getElem?_cons_succ, List.getElem?_cons_zero]); (try rfl))
  case hq36x30 => exact fun _ _ _ h => h
  case hy36x30 => exact Or.inl ⟨by rfl, by intro w hSw; have q := (CX.rx hSw) 7 _ rfl; clear hSw; simp only [Nat.zero_add] at q; go_simp; try with_reducible rfl⟩
  try simp only [Act.put, List.setIfInBounds_toArray, List.set_cons_zero, List.set_cons_succ]
  refine wpAnyH_take (i := 37) (oi := ?oi37x31) (v := ?v37x31) ?hi37x31 (by kernel_rfl) (by kernel_rfl) (by kernel_rfl) ?hq37x31 ?hy37x31 hHeld ?rest37x31
  case hi37x31 => ((try simp only [List.getElem?_toArray, List.getElem?_cons_succ, List.getElem?_cons_zero]); (try rfl))
  case hq37x31 => exact fun _ _ _ h => h
  case hy37x31 => exact Or.inl ⟨by rfl, by intro w hSw; clear hSw; go_simp; try with_reducible rfl⟩
  try simp only [Act.put, List.setIfInBounds_toArray, List.set_cons_zero, List.set_cons_succ]
  refine wpAnyH_take (i := 38) (oi := ?oi38x32) (v := ?v38x32) ?hi38x32 (by kernel_rfl) (by kernel_rfl) (by kernel_rfl) ?hq38x32 ?hy38x32 hHeld ?rest38x32
  case hi38x32 => ((try simp only [List.getElem?_toArray, List.getElem?_cons_succ, List.getElem?_cons_zero]); (try rfl))
  case hq38x32 => exact fun _ _ _ h => h
  case hy38x32 => exact Or.inl ⟨by rfl, by intro w hSw; have q := (CX.ry hSw) 7 _ rfl; clear hSw; simp only [Nat.zero_add] at q; go_simp; try with_reducible rfl⟩
  try simp only [Act.put, List.setIfInBounds_toArray, List.set_cons_zero, List.set_cons_succ]
  refine wpAnyH_ready (rs := [4]) (by kernel_rfl) (by simp) ?_
  refine AllReadyH.cons rfl (fun K' hK => ?_) AllReadyH.nil
  have H1 := Lib.hid hHeld
  clear hHeld
  go_simp
  refine (cmp64_any _ _ _).mono ?_
  rintro e w9 ⟨rfl, rfl⟩
  refine hK.out _ _ H1.out (fun hHeld => ?_)
  clear hK H1
  try simp only [Act.put, List.setIfInBounds_toArray, List.set_cons_zero, List.set_cons_succ]
  refine wpAnyH_ready (rs := [9]) (by kernel_rfl) (by simp) ?_
  refine AllReadyH.cons rfl (fun K' hK => ?_) AllReadyH.nil
  have H1 := Lib.hid hHeld
  clear hHeld
  go_simp
  refine (cmpstr_any _ _ _).mono ?_
  rintro e w9 ⟨rfl, rfl⟩
  refine hK.out _ _ H1.out (fun hHeld => ?_)
  clear hK H1
  try simp only [Act.put, List.setIfInBounds_toArray, List.set_cons_zero, List.set_cons_succ]
  refine wpAnyH_ready (rs := [14]) (by kernel_rfl) (by simp) ?_
  refine AllReadyH.cons rfl (fun K' hK => ?_) AllReadyH.nil
  have H1 := Lib.hid hHeld
  clear hHeld
  go_simp
  refine (cmpstr_any _ _ _).mono ?_
  rintro e w9 ⟨rfl, rfl⟩
  refine hK.out _ _ H1.out (fun hHeld => ?_)
  clear hK H1
  try simp only [Act.put, List.setIfInBounds_toArray, List.set_cons_zero, List.set_cons_succ]
  refine wpAnyH_ready (rs := [19]) (by kernel_rfl) (by simp) ?_
  refine AllReadyH.cons rfl (fun K' hK => ?_) AllReadyH.nil
  have H1 := Lib.hid hHeld
  clear hHeld
  go_simp
  refine (cmp64_any _ _ _).mono ?_
  rintro e w9 ⟨rfl, rfl⟩
  refine hK.out _ _ H1.out (fun hHeld => ?_)
  clear hK H1
  try simp only [Act.put, List.setIfInBounds_toArray, List.set_cons_zero, List.set_cons_succ]
  refine wpAnyH_ready (rs := [24]) (by kernel_rfl) (by simp) ?_
  refine AllReadyH.cons rfl (fun K' hK => ?_) AllReadyH.nil
  have H1 := Lib.hid hHeld
  clear hHeld
  go_simp
  refine (cmp64_any _ _ _).mono ?_
  rintro e w9 ⟨rfl, rfl⟩
  refine hK.out _ _ H1.out (fun hHeld => ?_)
  clear hK H1
  try simp only [Act.put, List.setIfInBounds_toArray, List.set_cons_zero, List.set_cons_succ]
  refine wpAnyH_ready (rs := [29]) (by kernel_rfl) (by simp) ?_
  refine AllReadyH.cons rfl (fun K' hK => ?_) AllReadyH.nil
  have H1 := Lib.hid hHeld
  clear hHeld
  go_simp
  refine (cmp64_any _ _ _).mono ?_
  rintro e w9 ⟨rfl, rfl⟩
  refine hK.out _ _ H1.out (fun hHeld => ?_)
  clear hK H1
  try simp only [Act.put, List.setIfInBounds_toArray, List.set_cons_zero, List.set_cons_succ]
  refine wpAnyH_ready (rs := [34]) (by kernel_rfl) (by simp) ?_
  refine AllReadyH.cons rfl (fun K' hK => ?_) AllReadyH.nil
  have H1 := Lib.hid hHeld
  clear hHeld
  go_simp
  refine (cmpint_any _ _ _).mono ?_
  rintro e w9 ⟨rfl, rfl⟩
  refine hK.out _ _ H1.out (fun hHeld => ?_)
  clear hK H1
  try simp only [Act.put, List.setIfInBounds_toArray, List.set_cons_zero, List.set_cons_succ]
  refine wpAnyH_ready (rs := [39]) (by kernel_rfl) (by simp) ?_
  refine AllReadyH.cons rfl (fun K' hK => ?_) AllReadyH.nil
  have H1 := Lib.hid hHeld
  clear hHeld
  go_simp
  refine (cmpbyte_any _ _ _).mono ?_
  rintro e w9 ⟨rfl, rfl⟩
  refine hK.out _ _ H1.out (fun hHeld => ?_)
  clear hK H1
  try simp only [Act.put, List.setIfInBounds_toArray, List.set_cons_zero, List.set_cons_succ]
  refine wpAnyH_ready (rs := [40]) (by kernel_rfl) (by simp) ?_
  refine AllReadyH.cons rfl (fun K' hK => ?_) AllReadyH.nil
  have H1 := Lib.hid hHeld
  clear hHeld
  go_simp
  refine hK.out _ _ (H1.out.alloc _) (fun hHeld => ?_)
  clear hK H1
  try simp only [Act.put, List.setIfInBounds_toArray, List.set_cons_zero, List.set_cons_succ]
  refine wpAnyH_ready (rs := [41]) (by kernel_rfl) (by simp) ?_
  refine AllReadyH.cons rfl (fun K' hK => ?_) AllReadyH.nil
  have H1 := Lib.hid hHeld
  clear hHeld
  go_simp
  refine (OR.out _ _ ?ro).mono ?_
  case ro => exact row3 _ _ _ (cmpC ⟨n0, s0, t0, r0, d0, g0, m0, b0⟩ ⟨n1, s1, t1, r1, d1, g1, m1, b1⟩) _
  rintro e w9 ⟨rfl, rfl⟩
  refine hK.out _ _ H1.out (fun hHeld => ?_)
  clear hK H1 OR
  try simp only [Act.put, List.setIfInBounds_toArray, List.set_cons_zero, List.set_cons_succ]
  refine wpAnyH_take (i := 42) (oi := ?oi42x33) (v := ?v42x33) ?hi42x33 (by kernel_rfl) (by kernel_rfl) (by kernel_rfl) ?hq42x33 ?hy42x33 hHeld ?rest42x33
  case hi42x33 => ((try simp only [List.getElem?_toArray, List.getElem?_cons_succ, List.getElem?_cons_zero]); (try rfl))
  case hq42x33 => exact fun _ _ _ h => h
  case hy42x33 => exact Or.inl ⟨by rfl, by intro w hSw; clear hSw; go_simp; try with_reducible rfl⟩
  try simp only [Act.put, List.setIfInBounds_toArray, List.set_cons_zero, List.set_cons_succ]
  refine wpAnyH_done (by kernel_rfl) ?_ _
  have XF := Lib.hid hHeld.at_
  clear hHeld
  go_wp2_with fail
  go_ret
  exact ⟨rfl, XF.out⟩
end Ow
end Go.Proofs.YtaghilgfldaaiaaGreatDoor
