/-
  Lemmas and walks, texts joined: ORCheck, OAllW, Shelf3, OR15, ORLine, ORCut, MRef4, MRef5, MNumW, MLikeW, MRParse, MRPDay, ORRead, ORMagn, ORParse, ORRound, OPrAll, DIdx, DIdx2, DWhole, DWalk1, DPad, DNext.
-/
import Derived.Deep.RegionHeld3
import Derived.Deep.MidRow
import Derived.Shelf.Strings.BuilderF
import Derived.RegionTactic
import Derived.BigRegion
import Derived.BigQuiet
import Derived.Deep.DeepCutAuto
import Derived.StillTailTactics
import Derived.IntWalk
import Derived.ProofKit
import Derived.Outline
import Derived.Lib.Hide
import Derived.Laws.RangeAny
import Derived.Laws.Runes
import Derived.LoopTactic
import Derived.Deep.QuietTactic
import Derived.Lib.Bytealg
import Derived.WalkMore
import Derived.Lib.Strings
import Derived.WalkKit
import Derived.Lib.LaidTab
import Derived.Lib.SmallJoins
import Derived.WalkLawsBesides
import Derived.WalkSpells
import Derived.Laws.Concat
import Derived.Laws.IdiomStrings
import Derived.Lib.Join
import Derived.Lib.Repeat
import Derived.Lib.ItoaLen
import Derived.Sort.Grow
import Derived.Deep.OwnRows
import Derived.Test.YtafeigpmldgifaaGreatDoorKa04
import Derived.Test.YtafeigpmldgifaaGreatDoorKa06
import Derived.Test.YtafeigpmldgifaaGreatDoorKa02
import Derived.Test.YtafeigpmldgifaaGreatDoorKa05
import Derived.Test.YtafeigpmldgifaaGreatDoorKa01
import Derived.Test.YtafeigpmldgifaaGreatDoorKa03
import Derived.Test.YtafeigpmldgifaaGreatDoorRows
set_option linter.unusedSimpArgs false
set_option linter.unusedVariables false
/-
  The walk of Check of the reference of observations.
-/
namespace Go.Proofs.YtafeigpmldgifaaGreatDoor
namespace Ow
open Go.RowKit Lw Go.Proofs.YtafeigpmldgifaaGreatDoor.Ap Go.Proofs.YtafeigpmldgifaaGreatDoor.Op Go.Proofs.YtafeigpmldgifaaGreatDoor.Mp Go.Proofs.YtafeigpmldgifaaGreatDoor.Mw

set_option maxRecDepth 100000 in
set_option maxHeartbeats 16000000 in
theorem rcheck_any (o : Ob) (w : World) (h0 : -9223372036854775808 ≤ o.t) (h1 : o.t ≤ 9223372036854775807) (b0 : 0 ≤ o.band) (b1 : o.band ≤ 255) (n1 : o.name.size ≤ maxLen) (n2 : o.site.size ≤ maxLen) :
    Calls Tryz.prog 40 #[obsV o] w fun e w' => e = .returned (.int .i64 (checkC o)) ∧ Below w.heap.size w w' := by
  have K1 := Lib.hid (fun (a : preB o = true) (b : magP o.mag o.band) => check_ok a b)
  have K2 := Lib.hid (fun (b : ¬ magP o.mag o.band) => check_m b)
  have K3 := Lib.hid (fun (b : preB o = false) => check_p b)
  have PD := Lib.hid (show preA o = decide (timeP o.t ∧ nameP o.name ∧ o.site.size = 3 ∧ wordP o.site.data.toList) from rfl)
  have PB := Lib.hid (preB_of o)
  have X0 := OX.new w o
  obtain ⟨nm, st, tt, ra, dec, sg, mg, bd⟩ := o
  simp only at h0 h1 b0 b1 n1 n2 K1 K2 PD PB
  generalize checkC ⟨nm, st, tt, ra, dec, sg, mg, bd⟩ = cc at *
  generalize preB ⟨nm, st, tt, ra, dec, sg, mg, bd⟩ = pb at *
  generalize preA ⟨nm, st, tt, ra, dec, sg, mg, bd⟩ = pa at *
  have C1 := Lib.hid (fun w' => rtime_any tt w' h0 h1)
  have C2 := Lib.hid (fun w' => rname_any nm w' n1)
  have C3 := Lib.hid (fun w' => rword_any st w' n2)
  have q0 := X0.row 0 _ rfl
  have q1 := X0.row 1 _ rfl
  have q2 := X0.row 2 _ rfl
  have q3 := X0.row 3 _ rfl
  have q4 := X0.row 4 _ rfl
  have q5 := X0.row 5 _ rfl
  have q6 := X0.row 6 _ rfl
  have q7 := X0.row 7 _ rfl
  simp only [Nat.zero_add] at q0 q1 q2 q3 q4 q5 q6 q7
  have XX := Lib.hid X0
  have NB := Lib.hid (show nameB nm = true ↔ nameP nm from decide_eq_true_iff)
  have WB := Lib.hid (show wordB st.data.toList = true ↔ wordP st.data.toList from decide_eq_true_iff)
  clear X0 h0 h1 n1
  unfold maxLen at n2
  generalize nameB nm = nb at *
  generalize wordB st.data.toList = wb at *
  go_enter Tryz.func40, Tryz.ntmps40
  go_wp2_with fail
  refine (C1.out _).mono ?_
  rintro e w1 ⟨y, m, d, h, i, s, u, c, rfl, hc, hb⟩
  have bb := below_then hb ((Below.refl _ w1).alloc (Nat.le_refl _) (.cells (dateC y m d h i s u).toArray 85))
  have X1 := XX.out.call bb
  have lt1 : w.heap.size < w1.heap.size := by have := hb.size; simp at this; omega
  clear q0 q1 q2 q3 q4 q5 q6 q7
  have q0 := (XX.out.call hb).row 0 _ rfl
  have q1 := (XX.out.call hb).row 1 _ rfl
  have q2 := (XX.out.call hb).row 2 _ rfl
  have q3 := (XX.out.call hb).row 3 _ rfl
  have q4 := (XX.out.call hb).row 4 _ rfl
  have q5 := (XX.out.call hb).row 5 _ rfl
  have q6 := (XX.out.call hb).row 6 _ rfl
  have q7 := (XX.out.call hb).row 7 _ rfl
  simp only [Nat.zero_add] at q0 q1 q2 q3 q4 q5 q6 q7
  have XX1 := Lib.hid X1
  have HC := Lib.hid hc
  clear hb bb X1 XX C1 hc
  go_upto_region 2 with (refine wpList_store_new rfl _ (.tmp 3) (.tmp 9) rfl _ _ rfl rfl info7 rfl ?_ ?_; simp [Value.oneCell'])
  go_cut [60] (fun q wx => q = .bool (!pb) ∧ OX w w.heap.size ⟨nm, st, tt, ra, dec, sg, mg, bd⟩ wx)
  case first =>
    clear K1 K2 K3
    cases nb
    · have P := Lib.hid (PD.out.trans (decide_eq_false fun g => by have := NB.out.2 g.2.1; cases this))
      have P2 := Lib.hid (PB.out.trans (by rw [P.out]; rfl : _ = false))
      clear PD PB P
      go_wp2_with (first | (refine (C2.out _).mono ?_; rintro e w2 ⟨rfl, rfl⟩) | (refine wpList_store_new rfl _ (.tmp 3) (.tmp 9) rfl _ _ rfl rfl info7 rfl ?_ ?_; simp [Value.oneCell']))
      go_meet
      exact ⟨by rw [P2.out]; rfl, XX1.out⟩
    · by_cases h3 : st.size = 3
      · have k3 : (st.size : Int) = 3 := by omega
        cases wb
        · have P := Lib.hid (PD.out.trans (decide_eq_false fun g => by have := WB.out.2 g.2.2.2; cases this))
          have P2 := Lib.hid (PB.out.trans (by rw [P.out]; rfl : _ = false))
          clear PD PB P
          go_wp2_with (first | (refine (C2.out _).mono ?_; rintro e w2 ⟨rfl, rfl⟩) | (refine (C3.out _).mono ?_; rintro e w3 ⟨rfl, rfl⟩) | (refine wpList_store_new rfl _ (.tmp 3) (.tmp 9) rfl _ _ rfl rfl info7 rfl ?_ ?_; simp [Value.oneCell']))
          go_meet
          exact ⟨by rw [P2.out]; rfl, XX1.out⟩
        · rcases HC.out with ⟨ht, rfl⟩ | ⟨ht, rfl⟩
          · have P := Lib.hid (PD.out.trans (decide_eq_true ⟨ht, NB.out.1 (by first | rfl | trivial), h3, WB.out.1 (by first | rfl | trivial)⟩))
            have P1 := Lib.hid (PB.out.trans (by rw [P.out, Bool.true_and] : _ = decide (rngP ra dec sg)))
            clear PD PB P ht HC
            rcases rng_cases ra dec sg with g | ⟨g, g'⟩
            · have P2 := Lib.hid (P1.out.trans (decide_eq_true g))
              obtain ⟨r1, r2, r3, r4, r5, r6⟩ := g
              clear P1
              go_wp2_with (first | (refine (C2.out _).mono ?_; rintro e w2 ⟨rfl, rfl⟩) | (refine (C3.out _).mono ?_; rintro e w3 ⟨rfl, rfl⟩) | (refine wpList_store_new rfl _ (.tmp 3) (.tmp 9) rfl _ _ rfl rfl info7 rfl ?_ ?_; simp [Value.oneCell']))
              go_meet
              exact ⟨by first | (rw [P2.out]; rfl) | (rw [P2.out]; congr 1; simp; omega), XX1.out⟩
            · have P2 := Lib.hid (P1.out.trans (decide_eq_false g))
              clear P1 g
              rcases g' with r1 | ⟨r1, r2⟩ | ⟨r1, r2, r3⟩ | ⟨r1, r2, r3, r4⟩ | ⟨r1, r2, r3, r4, r5⟩ | ⟨r1, r2, r3, r4, r5, r6⟩
              all_goals
                go_wp2_with (first | (refine (C2.out _).mono ?_; rintro e w2 ⟨rfl, rfl⟩) | (refine (C3.out _).mono ?_; rintro e w3 ⟨rfl, rfl⟩) | (refine wpList_store_new rfl _ (.tmp 3) (.tmp 9) rfl _ _ rfl rfl info7 rfl ?_ ?_; simp [Value.oneCell']))
                go_meet
                exact ⟨by first | (rw [P2.out]; rfl) | (rw [P2.out]; congr 1; simp; omega), XX1.out⟩
          · have P := Lib.hid (PD.out.trans (decide_eq_false fun g => ht g.1))
            have P2 := Lib.hid (PB.out.trans (by rw [P.out]; rfl : _ = false))
            clear PD PB P ht HC
            go_wp2_with (first | (refine (C2.out _).mono ?_; rintro e w2 ⟨rfl, rfl⟩) | (refine (C3.out _).mono ?_; rintro e w3 ⟨rfl, rfl⟩) | (refine wpList_store_new rfl _ (.tmp 3) (.tmp 9) rfl _ _ rfl rfl info7 rfl ?_ ?_; simp [Value.oneCell']))
            go_meet
            exact ⟨by rw [P2.out]; rfl, XX1.out⟩
      · have P := Lib.hid (PD.out.trans (decide_eq_false fun g => h3 g.2.2.1))
        have P2 := Lib.hid (PB.out.trans (by rw [P.out]; rfl : _ = false))
        have k3 : ¬ (st.size : Int) = 3 := by omega
        clear PD PB P
        go_wp2_with (first | (refine (C2.out _).mono ?_; rintro e w2 ⟨rfl, rfl⟩) | (refine wpList_store_new rfl _ (.tmp 3) (.tmp 9) rfl _ _ rfl rfl info7 rfl ?_ ?_; simp [Value.oneCell']))
        go_meet
        exact ⟨by rw [P2.out]; rfl, XX1.out⟩
  case rest =>
    obtain ⟨rfl, X4⟩ := hcut
    clear q0 q1 q2 q3 q4 q5 q6 q7
    have q0 := X4.row 0 _ rfl
    have q1 := X4.row 1 _ rfl
    have q2 := X4.row 2 _ rfl
    have q3 := X4.row 3 _ rfl
    have q4 := X4.row 4 _ rfl
    have q5 := X4.row 5 _ rfl
    have q6 := X4.row 6 _ rfl
    have q7 := X4.row 7 _ rfl
    simp only [Nat.zero_add] at q0 q1 q2 q3 q4 q5 q6 q7
    have XX4 := Lib.hid X4
    clear X4 XX1 HC PD PB C2 C3 NB WB lt1
    cases pb
    · have E := Lib.hid (K3.out rfl)
      clear K1 K2 K3
      go_wp2_with fail
      go_ret
      exact ⟨by rw [E.out]; rfl, XX4.out.below⟩
    · have L1 := Lib.hid (fun w' => rletter_any bd w')
      rcases mag_cases mg bd with ⟨rfl, rfl, g⟩ | ⟨h9, rfl, h1, g⟩ | ⟨h9, rfl, h1, h2, g⟩ | ⟨h9, rfl, h1, h2, g⟩ | ⟨hb, h1, g⟩ | ⟨hb, h1, h2, h9, g⟩ | ⟨hb, rfl, g⟩ | ⟨hb, h1, h2, h9, g⟩
      · have E := Lib.hid (K1.out rfl g)
        clear K1 K2 K3 g
        go_wp2_with fail
        go_ret
        exact ⟨by rw [E.out]; rfl, XX4.out.below⟩
      · have E := Lib.hid (K2.out g)
        clear K1 K2 K3 g
        have hm2 : (mg == 9999) = false := beq_eq_false_iff_ne.2 h9
        go_wp2_with fail
        go_ret
        exact ⟨by rw [E.out]; rfl, XX4.out.below⟩
      · have E := Lib.hid (K2.out g)
        clear K1 K2 K3 g
        have hm2 : (mg == 9999) = false := beq_eq_false_iff_ne.2 h9
        go_wp2_with fail
        go_ret
        exact ⟨by rw [E.out]; rfl, XX4.out.below⟩
      · have E := Lib.hid (K1.out rfl g)
        have el : ltB 32 = false := by decide
        rw [el] at L1
        clear K1 K2 K3 g el
        have hm2 : (mg == 9999) = false := beq_eq_false_iff_ne.2 h9
        go_wp2_with (refine (L1.out _).mono ?_; rintro e w5 ⟨rfl, rfl⟩)
        go_ret
        exact ⟨by rw [E.out]; rfl, XX4.out.below⟩
      · have E := Lib.hid (K2.out g)
        clear K1 K2 K3 g
        have h9 : mg ≠ 9999 := by omega
        have hb2 : (bd == 32) = false := beq_eq_false_iff_ne.2 hb
        have hb3 : (bd != 32) = true := by simpa using hb
        have hm2 : (mg == 9999) = false := beq_eq_false_iff_ne.2 h9
        go_wp2_with fail
        go_ret
        exact ⟨by rw [E.out]; rfl, XX4.out.below⟩
      · have E := Lib.hid (K2.out g)
        clear K1 K2 K3 g
        have hb2 : (bd == 32) = false := beq_eq_false_iff_ne.2 hb
        have hb3 : (bd != 32) = true := by simpa using hb
        have hm2 : (mg == 9999) = false := beq_eq_false_iff_ne.2 h9
        go_wp2_with fail
        go_ret
        exact ⟨by rw [E.out]; rfl, XX4.out.below⟩
      · have E := Lib.hid (K2.out g)
        clear K1 K2 K3 g
        have hb2 : (bd == 32) = false := beq_eq_false_iff_ne.2 hb
        have hb3 : (bd != 32) = true := by simpa using hb
        go_wp2_with fail
        go_ret
        exact ⟨by rw [E.out]; rfl, XX4.out.below⟩
      · rcases lt_cases bd with ⟨hl, el⟩ | ⟨hl, el⟩
        · have E := Lib.hid (K1.out rfl (g.2 hl))
          rw [el] at L1
          clear K1 K2 K3 g hl el
          have hb2 : (bd == 32) = false := beq_eq_false_iff_ne.2 hb
          have hb3 : (bd != 32) = true := by simpa using hb
          have hm2 : (mg == 9999) = false := beq_eq_false_iff_ne.2 h9
          go_wp2_with (refine (L1.out _).mono ?_; rintro e w5 ⟨rfl, rfl⟩)
          go_ret
          exact ⟨by rw [E.out]; rfl, XX4.out.below⟩
        · have E := Lib.hid (K2.out (fun x => hl (g.1 x)))
          rw [el] at L1
          clear K1 K2 K3 g hl el
          have hb2 : (bd == 32) = false := beq_eq_false_iff_ne.2 hb
          have hb3 : (bd != 32) = true := by simpa using hb
          have hm2 : (mg == 9999) = false := beq_eq_false_iff_ne.2 h9
          go_wp2_with (refine (L1.out _).mono ?_; rintro e w5 ⟨rfl, rfl⟩)
          go_ret
          exact ⟨by rw [E.out]; rfl, XX4.out.below⟩
end Ow
end Go.Proofs.YtafeigpmldgifaaGreatDoor
/-
  Slices of observations; the walks of checkAll of obs, and of All, Same of the reference.
-/
namespace Go.Proofs.YtafeigpmldgifaaGreatDoor
namespace Ow
open Go.RowKit Lw Go.Proofs.YtafeigpmldgifaaGreatDoor.Ap Go.Proofs.YtafeigpmldgifaaGreatDoor.Op Go.Proofs.YtafeigpmldgifaaGreatDoor.Mp Go.Proofs.YtafeigpmldgifaaGreatDoor.Mw Go.Proofs.YtafeigpmldgifaaGreatDoor.At

/-- A slice's address, and the observations that it holds. -/
def SlA (w : World) (x : Option Addr) (l : List Ob) : Prop := l = [] ∨ ∃ b off, x = some ⟨b, off, none⟩ ∧ b < w.heap.size ∧ ObsAt w b off l
theorem SlA.below {w w' : World} {x : Option Addr} {l : List Ob} (h : SlA w x l) (hb : Below w.heap.size w w') : SlA w' x l := by
  rcases h with h | ⟨b, off, h1, h2, h3⟩
  · exact Or.inl h
  · exact Or.inr ⟨b, off, h1, Nat.lt_of_lt_of_le h2 hb.size, h3.below hb h2⟩
theorem SlA.get {w : World} {x : Option Addr} {l : List Ob} (h : SlA w x l) {i : Nat} (hi : i < l.length) : ∃ b off, x = some ⟨b, off, none⟩ ∧ b < w.heap.size ∧ ObsAt w b off l := by
  rcases h with rfl | h
  · simp at hi
  · exact h
/-- The bounds of a list. -/
def OBs (l : List Ob) : Prop := ∀ i (h : i < l.length), OB (l[i]'h)
end Ow
end Go.Proofs.YtafeigpmldgifaaGreatDoor
/-
  The library contracts of a builder, laid at this program.
-/
namespace Go.Proofs
open Go.Shelf
theorem Tryz.lays105b_166 : Go.Proofs.Lays.n166 Tryz.prog Tryz.lays105_ren := {
  mixed := by kernel_rfl
  f166 := Tryz.func9.trans (congrArg some (by kernel_rfl))
  f240 := Tryz.func17.trans (congrArg some (by kernel_rfl))
  f276 := Tryz.func26.trans (congrArg some (by kernel_rfl))
  t0 := Tryz.underlying0
  a0 := Tryz.isAgg0
  z0 := Tryz.sizeOf0
  v0 := Tryz.zeroValue0
  t3 := Tryz.underlying3
  a3 := Tryz.isAgg3
  z3 := Tryz.sizeOf3
  v3 := Tryz.zeroValue3
  t4 := Tryz.underlying4
  a4 := Tryz.isAgg4
  z4 := Tryz.sizeOf4
  v4 := Tryz.zeroValue4
  t9 := Tryz.underlying9
  a9 := Tryz.isAgg9
  z9 := Tryz.sizeOf9
  v9 := Tryz.zeroValue9
  t20 := Tryz.underlying20
  a20 := Tryz.isAgg20
  z20 := Tryz.sizeOf20
  v20 := Tryz.zeroValue20
  t37 := Tryz.underlying42
  a37 := Tryz.isAgg42
  z37 := Tryz.sizeOf42
  v37 := Tryz.zeroValue42
  t70 := Tryz.underlying41
  a70 := Tryz.isAgg41
  z70 := Tryz.sizeOf41
  v70 := Tryz.zeroValue41
  t72 := Tryz.underlying44
  a72 := Tryz.isAgg44
  z72 := Tryz.sizeOf44
  v72 := Tryz.zeroValue44
  t75 := Tryz.underlying47
  a75 := Tryz.isAgg47
  z75 := Tryz.sizeOf47
  v75 := Tryz.zeroValue47
  t164 := Tryz.underlying68
  a164 := Tryz.isAgg68
  z164 := Tryz.sizeOf68
  v164 := Tryz.zeroValue68 }
theorem Tryz.lays105b_169 : Go.Proofs.Lays.n169 Tryz.prog Tryz.lays105_ren := {
  mixed := by kernel_rfl
  f169 := Tryz.func12.trans (congrArg some (by kernel_rfl))
  t0 := Tryz.underlying0
  a0 := Tryz.isAgg0
  z0 := Tryz.sizeOf0
  v0 := Tryz.zeroValue0
  t3 := Tryz.underlying3
  a3 := Tryz.isAgg3
  z3 := Tryz.sizeOf3
  v3 := Tryz.zeroValue3
  t9 := Tryz.underlying9
  a9 := Tryz.isAgg9
  z9 := Tryz.sizeOf9
  v9 := Tryz.zeroValue9
  t37 := Tryz.underlying42
  a37 := Tryz.isAgg42
  z37 := Tryz.sizeOf42
  v37 := Tryz.zeroValue42
  t70 := Tryz.underlying41
  a70 := Tryz.isAgg41
  z70 := Tryz.sizeOf41
  v70 := Tryz.zeroValue41
  t72 := Tryz.underlying44
  a72 := Tryz.isAgg44
  z72 := Tryz.sizeOf44
  v72 := Tryz.zeroValue44
  t127 := Tryz.underlying62
  a127 := Tryz.isAgg62
  z127 := Tryz.sizeOf62
  v127 := Tryz.zeroValue62 }
open Go.RowKit in
theorem Tryz.Builder_WriteString (B b : Nat) (bs : List Value) (s : ByteArray) (w : World) (h : Lib.IsBuilder 44 5 B b bs w) (hlen : bs.length + s.size ≤ 140737488355328) (hBw : B ≤ w.heap.size) :
    Calls Tryz.prog 9 #[.pointer (some ⟨b, 0, none⟩), .string s] w fun e w' => e = .returned (.tuple #[.int .i64 s.size, .nilIface]) ∧ (Lib.BuilderAt 44 5 B b (.pointer (some ⟨b, 0, none⟩)) (bs ++ Lib.strCells s) w' ∧ Below B w w') := Any.Builder_WriteString Tryz.lays105b_166 Tryz.Builder_Extra_105 B b bs s w h hlen hBw
open Go.RowKit in
theorem Tryz.Builder_String_any (B b : Nat) (l : List UInt8) (w : World) (h : Lib.IsBuilder 44 5 B b (Lib.byteCells l) w) (hBw : B ≤ w.heap.size) :
    Calls Tryz.prog 12 #[.pointer (some ⟨b, 0, none⟩)] w fun e w' => e = .returned (.string ⟨l.toArray⟩) ∧ Below B w w' := (Any.Builder_String_any_f Tryz.lays105b_169 Tryz.Builder_Extra_105 B b l w (Lib.IsBuilderF.of h) hBw).mono fun e w' h => ⟨h.1, h.2.2⟩
end Go.Proofs
/-
  The walks of the reference's texts of angles at the digits of a line: digitsOf, sexagesimal, RaText, DecText.
-/
namespace Go.Proofs.YtafeigpmldgifaaGreatDoor
namespace Ow
open Go.RowKit Lw Go.Proofs.YtafeigpmldgifaaGreatDoor.Ap Go.Proofs.YtafeigpmldgifaaGreatDoor.Op Go.Proofs.YtafeigpmldgifaaGreatDoor.Mp Go.Proofs.YtafeigpmldgifaaGreatDoor.Mw Go.Proofs.YtafeigpmldgifaaGreatDoor.At

theorem ten_mono {k : Nat} (h : k ≤ 12) : 10 ^ k ≤ 1000000000000 := Nat.pow_le_pow_right (n := 10) (by omega) h
set_option maxRecDepth 100000 in
set_option maxHeartbeats 2000000 in
theorem digs15_any (n k : Nat) (w : World) (hn : n < 10 ^ k) (hk : k ≤ 12) :
    Calls Tryz.prog 115 #[.int .i64 n, .int .i64 k] w fun e w' => e = .returned (.string ⟨(decL n k).toArray⟩) ∧ w = w' := by
  have n9 : n ≤ 1000000000000 := by have := ten_mono hk; omega
  go_enter Tryz.func115, Tryz.ntmps115
  go_wp2
  go_loop [0, 6] (fun v s => ∃ j u : Nat, ∃ S : ByteArray, j ≤ k ∧ s = .string S ∧ v = .int .i64 u ∧ u ≤ 1000000000000 ∧ Hid (u = n / 10 ^ j ∧ S = ⟨(decL n j).toArray⟩) ∧ S.size = j ∧ (0 < u → j < k)) (fun _ s => k - lenOfV s)
  case atStart => exact ⟨0, n, ⟨#[]⟩, Nat.zero_le _, rfl, rfl, n9, Lib.hid ⟨by simp, rfl⟩, rfl, fun h => by
    rcases Nat.eq_zero_or_pos k with g | g
    · subst g; simp at hn; omega
    · exact g⟩
  case round =>
    obtain ⟨j, u, S, hj, rfl, rfl, hu, D, hS, hlt⟩ := hrel
    by_cases lt : j < k
    · by_cases hz : (0 : Int) < (u : Int)
      · obtain ⟨m, hm⟩ : ∃ m, m = u % 10 := ⟨_, rfl⟩
        obtain ⟨u', hu'⟩ : ∃ u', u' = u / 10 := ⟨_, rfl⟩
        have r1 : (u : Int) % 10 = (m : Int) := by omega
        have r2 : (u : Int) / 10 = (u' : Int) := by omega
        have m0 : m < 10 := by omega
        have de := dig_ext m m0
        have D2 := Lib.hid (show u' = n / 10 ^ (j + 1) ∧ (⟨#[dg m]⟩ ++ S : ByteArray) = ⟨(decL n (j + 1)).toArray⟩ from ⟨by rw [hu', D.out.1, Nat.div_div_eq_div_mul, Nat.pow_succ], by rw [D.out.2, str_cons, dec_cons, hm, D.out.1]⟩)
        have sz : (⟨#[dg m]⟩ ++ S : ByteArray).size = j + 1 := by rw [ByteArray.size_append, hS]; show 1 + j = _; omega
        have u0 : u' ≤ 1000000000000 := by omega
        have L2 : 0 < u' → j + 1 < k := fun h => by
          rcases Nat.lt_or_ge (j + 1) k with g | g
          · exact g
          · have e : j + 1 = k := by omega
            have := D2.out.1
            rw [e, Nat.div_eq_of_lt hn] at this
            omega
        have i1 : (m : Int) ≤ 9 := by omega
        have i0 : 0 ≤ (m : Int) := by omega
        clear hm hu' m0 hlt
        go_wp2
        go_round
        case rel => exact ⟨j + 1, u', _, by omega, rfl, by go_num, u0, D2, sz, L2⟩
        case measure => simp only [lenOfV, sz, hS]; omega
      · obtain rfl : u = 0 := by omega
        have de := dig_ext 0 (by omega)
        have de2 : (⟨#[48, 49, 50, 51, 52, 53, 54, 55, 56, 57]⟩ : ByteArray).extract 0 1 = ⟨#[dg 0]⟩ := de
        have D2 := Lib.hid (show 0 = n / 10 ^ (j + 1) ∧ (⟨#[dg 0]⟩ ++ S : ByteArray) = ⟨(decL n (j + 1)).toArray⟩ from ⟨by rw [Nat.pow_succ, ← Nat.div_div_eq_div_mul, ← D.out.1], by rw [D.out.2, str_cons, dec_cons, ← D.out.1]⟩)
        have sz : (⟨#[dg 0]⟩ ++ S : ByteArray).size = j + 1 := by rw [ByteArray.size_append, hS]; show 1 + j = _; omega
        have sj : (S.size : Int) < (k : Int) := by omega
        clear hlt hz
        go_wp2
        go_round
        case rel => exact ⟨j + 1, 0, _, by omega, rfl, by first | rfl | go_num, by omega, D2, sz, fun h => absurd h (Nat.lt_irrefl 0)⟩
        case measure => simp only [lenOfV, sz, hS]; omega
    · obtain rfl : j = k := by omega
      have u0 : u = 0 := by
        rcases Nat.eq_zero_or_pos u with g | g
        · exact g
        · have := hlt g; omega
      subst u0
      have E := Lib.hid D.out.2
      clear D hlt
      go_wp2
      go_ret
      exact ⟨by rw [E.out]; rfl, rfl⟩
theorem cat6 (A B C D : ByteArray) (F : List UInt8) {L : List UInt8} (h : A.data.toList ++ ([32] ++ (B.data.toList ++ ([32] ++ (C.data.toList ++ (46 :: D.data.toList))))) = L) :
    (((((A ++ (⟨#[32]⟩ : ByteArray)) ++ B) ++ (⟨#[32]⟩ : ByteArray)) ++ C) ++ (⟨#[46]⟩ : ByteArray)) ++ D = ⟨L.toArray⟩ := by
  apply toL_inj
  rw [← h]
  simp [ByteArray.data_append]
set_option maxRecDepth 100000 in
set_option maxHeartbeats 4000000 in
theorem rsexa_any (n d : Nat) (w : World) (hd1 : 1 ≤ d) (hd : d ≤ 6) (h : n / 10 ^ d < 360000) :
    Calls Tryz.prog 98 #[.int .i64 n, .int .i64 d] w fun e w' => e = .returned (.string ⟨(Gt.clockL n d).toArray⟩) ∧ Below w.heap.size w w' := by
  have K := Lib.hid (clock_dec hd1 h)
  have hp : 1 ≤ 10 ^ d := Nat.pow_pos (by omega)
  have hp2 : 10 ^ d ≤ 1000000 := Nat.pow_le_pow_right (n := 10) (by omega) hd
  have NT : Hid (∀ w : World, Calls Tryz.prog 95 #[.int .i64 d] w fun e w' => e = .returned (.int .i64 ((10 ^ d : Nat) : Int)) ∧ w = w') := Lib.hid fun w => by
    have := Gp.rten_any d w (by omega)
    rwa [show Gp.tenI d = ((10 ^ d : Nat) : Int) from rfl] at this
  have F0 := Lib.hid (fun w' => digs15_any (n % 10 ^ d) d w' (Nat.mod_lt _ hp) (by omega))
  generalize 10 ^ d = p at *
  have t1 : (n : Int).tdiv (p : Int) = ((n / p : Nat) : Int) := rfl
  have t2 : (n : Int).tmod (p : Int) = ((n % p : Nat) : Int) := rfl
  have hp0 : (p : Int) ≠ 0 := by omega
  have nb : n ≤ 1000000000000 := by
    have := Nat.div_add_mod n p
    have := Nat.mod_lt n hp
    have : p * (n / p) ≤ 1000000 * 360000 := Nat.mul_le_mul hp2 (by omega)
    omega
  have f9 : n % p ≤ 1000000 := by have := Nat.mod_lt n hp; omega
  generalize n / p = s at *
  generalize n % p = r at *
  have F1 := Lib.hid (fun w' => digs15_any (s / 3600) 2 w' (by omega) (by omega))
  have F2 := Lib.hid (fun w' => digs15_any (s / 60 % 60) 2 w' (by omega) (by omega))
  have F3 := Lib.hid (fun w' => digs15_any (s % 60) 2 w' (by omega) (by omega))
  have t3 : (s : Int).tdiv 3600 = ((s / 3600 : Nat) : Int) := rfl
  have t4 : (s : Int).tdiv 60 = ((s / 60 : Nat) : Int) := rfl
  have t5 : (s : Int).tmod 60 = ((s % 60 : Nat) : Int) := rfl
  have t6 : ((s / 60 : Nat) : Int).tmod 60 = ((s / 60 % 60 : Nat) : Int) := rfl
  have i1 : (s : Int) / 3600 = ((s / 3600 : Nat) : Int) := rfl
  have i2 : (s : Int) / 60 = ((s / 60 : Nat) : Int) := rfl
  have i3 : (s : Int) % 60 = ((s % 60 : Nat) : Int) := rfl
  have i4 : ((s / 60 : Nat) : Int) % 60 = ((s / 60 % 60 : Nat) : Int) := rfl
  have u1 : s / 3600 ≤ 1000 := by omega
  have u2 : s / 60 % 60 ≤ 60 := by omega
  have u3 : s % 60 ≤ 60 := by omega
  have u4 : s / 60 ≤ 360000 := by omega
  generalize s / 60 % 60 = y at *
  generalize s / 3600 = x at *
  generalize s % 60 = z at *
  generalize s / 60 = v at *
  obtain ⟨A, hA⟩ : ∃ A : ByteArray, A = ⟨(decL x 2).toArray⟩ := ⟨_, rfl⟩
  obtain ⟨B, hB⟩ : ∃ A : ByteArray, A = ⟨(decL y 2).toArray⟩ := ⟨_, rfl⟩
  obtain ⟨C, hC⟩ : ∃ A : ByteArray, A = ⟨(decL z 2).toArray⟩ := ⟨_, rfl⟩
  obtain ⟨D, hD⟩ : ∃ A : ByteArray, A = ⟨(decL r d).toArray⟩ := ⟨_, rfl⟩
  have zA : A.size = 2 := by rw [hA, size_mk, decL_len]
  have zB : B.size = 2 := by rw [hB, size_mk, decL_len]
  have zC : C.size = 2 := by rw [hC, size_mk, decL_len]
  have zD : D.size = d := by rw [hD, size_mk, decL_len]
  have eL := cat6 A B C D [] (L := Gt.clockL n d) (by rw [hA, hB, hC, hD, K.out])
  rw [← hA] at F1
  rw [← hB] at F2
  rw [← hC] at F3
  rw [← hD] at F0
  generalize Gt.clockL n d = G at *
  clear hA hB hC hD K
  obtain ⟨S1, x1⟩ : ∃ S, S = A ++ (⟨#[32]⟩ : ByteArray) := ⟨_, rfl⟩
  have z1 : S1.size = 3 := by rw [x1, ByteArray.size_append, zA]; rfl
  have a1 := add_fact x1 (by rw [zA]; show 2 + 1 ≤ _; omega)
  obtain ⟨S2, x2⟩ : ∃ S, S = S1 ++ B := ⟨_, rfl⟩
  have z2 : S2.size = 5 := by rw [x2, ByteArray.size_append, zB, z1]
  have a2 := add_fact x2 (by rw [zB, z1]; omega)
  obtain ⟨S3, x3⟩ : ∃ S, S = S2 ++ (⟨#[32]⟩ : ByteArray) := ⟨_, rfl⟩
  have z3 : S3.size = 6 := by rw [x3, ByteArray.size_append, z2]; rfl
  have a3 := add_fact x3 (by rw [z2]; show 5 + 1 ≤ _; omega)
  obtain ⟨S4, x4⟩ : ∃ S, S = S3 ++ C := ⟨_, rfl⟩
  have z4 : S4.size = 8 := by rw [x4, ByteArray.size_append, zC, z3]
  have a4 := add_fact x4 (by rw [zC, z3]; omega)
  obtain ⟨S5, x5⟩ : ∃ S, S = S4 ++ (⟨#[46]⟩ : ByteArray) := ⟨_, rfl⟩
  have z5 : S5.size = 9 := by rw [x5, ByteArray.size_append, z4]; rfl
  have a5 := add_fact x5 (by rw [z4]; show 8 + 1 ≤ _; omega)
  obtain ⟨S6, x6⟩ : ∃ S, S = S5 ++ D := ⟨_, rfl⟩
  have a6 := add_fact x6 (by rw [z5, zD]; omega)
  rw [← x1, ← x2, ← x3, ← x4, ← x5, ← x6] at eL
  have EL := Lib.hid eL
  have d0 : (0 : Int) < (d : Int) := by omega
  clear eL x1 x2 x3 x4 x5 x6 z1 z2 z3 z4 z5 zA zB zC zD h hd1 hd hp hp2
  go_enter Tryz.func98, Tryz.ntmps98
  go_wp2_with fail
  refine (NT.out _).mono ?_
  rintro e w1 ⟨rfl, rfl⟩
  go_wp2_with fail
  refine (F1.out _).mono ?_
  rintro e w1 ⟨rfl, rfl⟩
  go_wp2_with fail
  refine (F2.out _).mono ?_
  rintro e w1 ⟨rfl, rfl⟩
  go_wp2_with fail
  refine (F3.out _).mono ?_
  rintro e w1 ⟨rfl, rfl⟩
  go_wp2_with fail
  refine (F0.out _).mono ?_
  rintro e w1 ⟨rfl, rfl⟩
  go_wp2_with fail
  go_ret
  exact ⟨by rw [EL.out]; rfl, Below.refl _ _⟩
set_option maxRecDepth 100000 in
set_option maxHeartbeats 4000000 in
theorem rratext_any (a : Int) (w : World) (h0 : 0 ≤ a) (h1 : a < 1296000000000) :
    Calls Tryz.prog 69 #[.int .i64 a, .int .i64 3] w fun e w' => e = .returned (.tuple #[.string ⟨(Gt.raL a 3).toArray⟩, .int .i64 0]) ∧ Below w.heap.size w w' := by
  obtain ⟨m, rfl⟩ : ∃ m : Nat, a = (m : Int) := ⟨a.toNat, by omega⟩
  have em : (m : Int) % 1296000000000 = (m : Int) := Int.emod_eq_of_lt h0 h1
  have NN := Lib.hid (fun w' => Turns.rnorm_any (m : Int) w' (by omega) (by omega))
  rw [em] at NN
  have NR := Lib.hid (fun w' => Gp.rrounded_any m 15000 w' (by omega) (by omega) (by omega))
  have hr := Op.rnd_le2 m 15000
  rw [← Gt.rndN_eq] at NR
  have K : Hid (Gt.raL (m : Int) 3 = Gt.clockL (Gt.rndN m 15000 % 86400000) 3) := Lib.hid (by unfold Gt.raL; rw [em, Int.toNat_natCast])
  generalize Gt.rndN m 15000 = r at *
  have r9 : r ≤ 86400000 := by omega
  have NT : Hid (∀ w : World, Calls Tryz.prog 95 #[.int .i64 3] w fun e w' => e = .returned (.int .i64 1000) ∧ w = w') := Lib.hid fun w => Gp.rten_any 3 w (by omega)
  by_cases c : r = 86400000
  · have SX := Lib.hid (fun w' => rsexa_any 0 3 w' (by omega) (by omega) (by decide))
    rw [c] at K
    subst c
    generalize Gt.clockL 0 3 = G at *
    clear em hr h0
    go_enter Tryz.func69, Tryz.ntmps69
    go_wp2_with fail
    refine (NT.out _).mono ?_
    rintro e w1 ⟨rfl, rfl⟩
    go_wp2_with fail
    refine (NN.out _).mono ?_
    rintro e w1 ⟨rfl, rfl⟩
    go_wp2_with fail
    refine (NR.out _).mono ?_
    rintro e w1 ⟨rfl, k, rfl⟩
    go_wp2_with fail
    refine (NT.out _).mono ?_
    rintro e w1 ⟨rfl, rfl⟩
    go_wp2_with fail
    refine (SX.out _).mono ?_
    rintro e w1 ⟨rfl, hb⟩
    go_wp2_with fail
    go_ret2
    exact ⟨by rw [K.out]; rfl, (drewN_below2 (Below.refl w.heap.size w) k).trans hb⟩
  · have SX := Lib.hid (fun w' => rsexa_any r 3 w' (by omega) (by omega) (by omega))
    rw [Nat.mod_eq_of_lt (show r < 86400000 by omega)] at K
    have c2 : ((r : Int) == 86400000) = false := beq_eq_false_iff_ne.2 (by omega)
    generalize Gt.clockL r 3 = G at *
    clear em hr h0 c
    go_enter Tryz.func69, Tryz.ntmps69
    go_wp2_with fail
    refine (NT.out _).mono ?_
    rintro e w1 ⟨rfl, rfl⟩
    go_wp2_with fail
    refine (NN.out _).mono ?_
    rintro e w1 ⟨rfl, rfl⟩
    go_wp2_with fail
    refine (NR.out _).mono ?_
    rintro e w1 ⟨rfl, k, rfl⟩
    go_wp2_with fail
    refine (NT.out _).mono ?_
    rintro e w1 ⟨rfl, rfl⟩
    go_wp2_with fail
    refine (SX.out _).mono ?_
    rintro e w1 ⟨rfl, hb⟩
    go_wp2_with fail
    go_ret2
    exact ⟨by rw [K.out]; rfl, (drewN_below2 (Below.refl w.heap.size w) k).trans hb⟩
set_option maxRecDepth 100000 in
set_option maxHeartbeats 4000000 in
theorem rdectext_any (a : Int) (w : World) (h0 : -324000000000 ≤ a) (h1 : a ≤ 324000000000) :
    Calls Tryz.prog 70 #[.int .i64 a, .int .i64 2] w fun e w' => e = .returned (.tuple #[.string ⟨(Gt.decL a 2).toArray⟩, .int .i64 0]) ∧ Below w.heap.size w w' := by
  obtain ⟨m, em⟩ : ∃ m : Nat, a.natAbs = m := ⟨_, rfl⟩
  have NR := Lib.hid (fun w' => Gp.rrounded_any m 10000 w' (by omega) (by omega) (by omega))
  have hr := Op.rnd_le2 m 10000
  rw [← Gt.rndN_eq] at NR
  have K : Hid (Gt.decL a 2 = (if a < 0 then 45 else 43) :: Gt.clockL (Gt.rndN m 10000) 2) := Lib.hid (by unfold Gt.decL; rw [em])
  generalize Gt.rndN m 10000 = r at *
  have r9 : r ≤ 32400001 := by omega
  have NT : Hid (∀ w : World, Calls Tryz.prog 95 #[.int .i64 2] w fun e w' => e = .returned (.int .i64 100) ∧ w = w') := Lib.hid fun w => Gp.rten_any 2 w (by omega)
  have SX := Lib.hid (fun w' => rsexa_any r 2 w' (by omega) (by omega) (by omega))
  have CL := Op.clock_len12 (n := r) (d := 2) (by omega) (by omega)
  by_cases hn : a < 0
  · have ea : a = -(m : Int) := by omega
    have en : -a = (m : Int) := by omega
    rw [if_pos hn] at K
    generalize Gt.clockL r 2 = g at *
    have sa := str_app [45] g
    clear ea em hr
    go_enter Tryz.func70, Tryz.ntmps70
    go_wp2_with fail
    refine (NT.out _).mono ?_
    rintro e w1 ⟨rfl, rfl⟩
    go_wp2_with fail
    refine (NR.out _).mono ?_
    rintro e w1 ⟨rfl, k, rfl⟩
    go_wp2_with fail
    refine (SX.out _).mono ?_
    rintro e w1 ⟨rfl, hb⟩
    go_wp2_with fail
    go_ret2
    exact ⟨by rw [K.out]; rfl, (drewN_below2 (Below.refl w.heap.size w) k).trans hb⟩
  · have ea : a = (m : Int) := by omega
    rw [if_neg hn] at K
    generalize Gt.clockL r 2 = g at *
    have sa := str_app [43] g
    clear em hr
    subst ea
    go_enter Tryz.func70, Tryz.ntmps70
    go_wp2_with fail
    refine (NT.out _).mono ?_
    rintro e w1 ⟨rfl, rfl⟩
    go_wp2_with fail
    refine (NR.out _).mono ?_
    rintro e w1 ⟨rfl, k, rfl⟩
    go_wp2_with fail
    refine (SX.out _).mono ?_
    rintro e w1 ⟨rfl, hb⟩
    go_wp2_with fail
    go_ret2
    exact ⟨by rw [K.out]; rfl, (drewN_below2 (Below.refl w.heap.size w) k).trans hb⟩
end Ow
end Go.Proofs.YtafeigpmldgifaaGreatDoor
/-
  The walk of line of the reference of observations.
-/
namespace Go.Proofs.YtafeigpmldgifaaGreatDoor
namespace Ow
open Go.RowKit Lw Go.Proofs.YtafeigpmldgifaaGreatDoor.Ap Go.Proofs.YtafeigpmldgifaaGreatDoor.Op Go.Proofs.YtafeigpmldgifaaGreatDoor.Mp Go.Proofs.YtafeigpmldgifaaGreatDoor.Mw Go.Proofs.YtafeigpmldgifaaGreatDoor.At

theorem str_of (X : ByteArray) : X = ⟨X.data.toList.toArray⟩ := toL_inj rfl
/-- The name as the reference writes it. -/
def nmS (s : ByteArray) : List UInt8 := if numbP s then s.data.toList else spL 5 ++ s.data.toList
theorem nmS_len {s : ByteArray} (h : nameP s) : (nmS s).length ≤ 12 := by
  unfold nmS
  by_cases c : numbP s
  · rw [if_pos c, ← size_L]; have := c.1; omega
  · rw [if_neg c, List.length_append, spL_len, ← size_L]
    rcases h with h | ⟨_, h, _⟩
    · exact absurd h c
    · omega
theorem nmS_fill {s : ByteArray} (h : nameP s) : nmS s ++ spL (14 - (nmS s).length) = nameF s := by
  unfold nmS nameF
  by_cases c : numbP s
  · rw [if_pos c, if_pos c, ← size_L, c.1]
  · rw [if_neg c, if_neg c, List.length_append, spL_len, ← size_L]
    congr 2
    omega
theorem fill_56 {L : List UInt8} {k n : Nat} (h : L.length = k) : L ++ spL (n - L.length) = L ++ spL (n - k) := by rw [h]
/-- A magnitude and its band, or nothing. -/
def mgS (m b : Int) : List UInt8 := if m = 9999 then [] else magL m ++ [UInt8.ofNat b.toNat]
theorem tail_of (A : List UInt8) (m b : Int) (hA : A.length = 65) (hm : m ≠ 9999 → (magL m).length = 5) : (A ++ mgS m b) ++ spL (77 - (A ++ mgS m b).length) = A ++ (magF m b ++ spL 6) := by
  unfold mgS magF
  by_cases h : m = 9999
  · rw [if_pos h, if_pos h, List.append_nil, hA, ← spL_add]
  · rw [if_neg h, if_neg h, List.length_append, List.length_append, hA, hm h, List.append_assoc]
    rfl
theorem ox_drawn {w0 w : World} {b : Nat} {o : Ob} (h : OX w0 b o w) : OX w0 b o w.drew := h.call (Below.refl _ _).drew
/-- The same with the cells that are read. -/
abbrev LS (w0 : World) (b : Nat) (o : Ob) (w : World) : Prop := w.cell? ⟨b, 6, none⟩ = some (.int .i64 o.mag) ∧ w.cell? ⟨b, 7, none⟩ = some (.int .u8 o.band) ∧ OX w0 b o w
theorem OX.ls {w0 w : World} {b : Nat} {o : Ob} (h : OX w0 b o w) : LS w0 b o w := by
  have a := h.row 6 _ rfl
  have c := h.row 7 _ rfl
  rw [Nat.zero_add] at a c
  exact ⟨a, c, h⟩
theorem one_u8 (u : UInt8) (W : World) (b : Nat) (h : W.cell? ⟨b, 0, none⟩ = some (.int .u8 (u.toNat : Int))) : (convert 42 9 (.slice (some ⟨b, 0, none⟩) 1 1)).run Tryz.prog W = .ok (.string ⟨#[u]⟩) W :=
  run_convert_bytes_back (P := Tryz.prog) W 42 9 5 ⟨b, 0, none⟩ 1 [u] Tryz.underlying42 Tryz.underlying5 Tryz.underlying9 (fun j hj => by
    have hj : j < 1 := hj
    obtain rfl : j = 0 := by omega
    rw [Addr.add_mid, h]
    rfl)
set_option maxRecDepth 100000 in
set_option maxHeartbeats 16000000 in
theorem rline_ok (o : Ob) (w : World) (h0 : -9223372036854775808 ≤ o.t) (h1 : o.t ≤ 9223372036854775807) (n1 : o.name.size ≤ maxLen) (ok : okO o) :
    Calls Tryz.prog 41 #[obsV o] w fun e w' => ∃ day, DayIs o.t 6 day 0 ∧ e = .returned (.string ⟨(lineL day o).toArray⟩) ∧ Below w.heap.size w w' := by
  have LM := Lib.hid (fun day (h : DayIs o.t 6 day 0) => mid_len ok h)
  have XX := Lib.hid (OX.new w o)
  obtain ⟨ot, on, os, ow, or0, or1, od0, od1, og0, og1, om⟩ := ok
  have zN : 1 ≤ o.name.size ∧ o.name.size ≤ 7 := by
    rcases on with h | h
    · have := h.1; omega
    · exact ⟨h.1, h.2.1⟩
  have DY := Lib.hid (fun w' => rsday_any o.t 6 w' h0 h1)
  have RA := Lib.hid (fun w' => rratext_any o.ra w' or0 or1)
  have DE := Lib.hid (fun w' => rdectext_any o.dec w' od0 od1)
  have NU := Lib.hid (fun w' => rnumb_any o.name w' n1)
  have NF := Lib.hid (nmS_fill on)
  have NZ := nmS_len on
  have NE := Lib.hid (show nmS o.name = if numbP o.name then o.name.data.toList else spL 5 ++ o.name.data.toList from rfl)
  have OT := Lib.hid ot
  have OM := Lib.hid om
  have lR := ra_len o.ra
  have lD := dec_len od0 od1
  have LN := Lib.hid (nameF_len on)
  obtain ⟨nm, st, tt, ra, dec, sg, mg, bd⟩ := o
  simp only at *
  clear n1 on ot ow or0 or1 od0 od1 og0 og1 om h0 h1
  go_enter Tryz.func41, Tryz.ntmps41
  have q0 := XX.out.row 0 _ rfl
  have q1 := XX.out.row 1 _ rfl
  have q2 := XX.out.row 2 _ rfl
  have q3 := XX.out.row 3 _ rfl
  have q4 := XX.out.row 4 _ rfl
  have q5 := XX.out.row 5 _ rfl
  have q6 := XX.out.row 6 _ rfl
  have q7 := XX.out.row 7 _ rfl
  simp only [Nat.zero_add] at q0 q1 q2 q3 q4 q5 q6 q7
  have lt := XX.out.lt
  go_wp2_with fail
  refine (DY.out _).mono ?_
  rintro e w1 ⟨day, c, rfl, hD, hb⟩
  obtain ⟨hc0, hday⟩ : c = 0 ∧ DayIs tt 6 day 0 := by
    rcases hD with ⟨h, _⟩ | ⟨_, _, h, _⟩ | h
    · omega
    · have := OT.out; unfold timeP at this; omega
    · obtain ⟨a1, a2, a3, a4, n, y, m, z, k, a5, a6, a7⟩ := h
      exact ⟨a7, Or.inr (Or.inr ⟨a1, a2, a3, a4, n, y, m, z, k, a5, a6, rfl⟩)⟩
  subst hc0
  have HD := Lib.hid hday
  have zd : day.size = 17 := by rw [size_L]; exact day_len17 hday
  have LM1 := Lib.hid (LM.out day hday)
  have X1 := Lib.hid (XX.out.call hb)
  clear hD hday hb XX DY LM q0 q1 q2 q3 q4 q5 q6 q7 lt
  have q3 := X1.out.row 3 _ rfl
  have q4 := X1.out.row 4 _ rfl
  have q0 := X1.out.row 0 _ rfl
  have q6 := X1.out.row 6 _ rfl
  have q7 := X1.out.row 7 _ rfl
  have q1 := X1.out.row 1 _ rfl
  simp only [Nat.zero_add] at q3 q4 q0 q6 q7 q1
  go_wp2_with fail
  refine (RA.out _).mono ?_
  rintro e w2 ⟨rfl, hb⟩
  have X2 := Lib.hid (X1.out.call hb)
  clear hb X1 RA q0 q1 q3 q4 q6 q7
  have q4 := X2.out.row 4 _ rfl
  have q0 := X2.out.row 0 _ rfl
  have q6 := X2.out.row 6 _ rfl
  have q7 := X2.out.row 7 _ rfl
  have q1 := X2.out.row 1 _ rfl
  simp only [Nat.zero_add] at q4 q0 q6 q7 q1
  go_wp2_with fail
  refine (DE.out _).mono ?_
  rintro e w3 ⟨rfl, hb⟩
  have X3 := Lib.hid (X2.out.call hb)
  clear hb X2 DE q0 q1 q4 q6 q7
  have q0 := X3.out.row 0 _ rfl
  have q1 := X3.out.row 1 _ rfl
  have q6 := X3.out.row 6 _ rfl
  have q7 := X3.out.row 7 _ rfl
  simp only [Nat.zero_add] at q0 q1 q6 q7
  obtain ⟨N5, hN5⟩ : ∃ N, N = (⟨#[32, 32, 32, 32, 32]⟩ : ByteArray) ++ nm := ⟨_, rfl⟩
  have zN5 : N5.size = 5 + nm.size := by rw [hN5, ByteArray.size_append]; rfl
  have aN := add_fact hN5 (by show 5 + nm.size ≤ _; omega)
  have lN5 : N5.data.toList = spL 5 ++ nm.data.toList := by rw [hN5]; simp only [ByteArray.data_append, Array.toList_append]; rfl
  clear hN5
  obtain ⟨NM, hNM⟩ : ∃ NM : ByteArray, NM = ⟨(nmS nm).toArray⟩ := ⟨_, rfl⟩
  have YN : numbP nm → nm = NM := fun h => toL_inj (by rw [hNM, NE.out, if_pos h])
  have NN : ¬ numbP nm → N5 = NM := fun h => toL_inj (by rw [hNM, NE.out, if_neg h, lN5])
  have YN := Lib.hid YN
  have NN := Lib.hid NN
  clear lN5 NE
  obtain ⟨nbb, hnbb⟩ : ∃ nbb : Bool, numbB nm = nbb := ⟨_, rfl⟩
  rw [hnbb] at NU
  have HNB := Lib.hid hnbb
  clear hnbb
  go_wp2_with fail
  refine (NU.out _).mono ?_
  rintro e w4 ⟨rfl, rfl⟩
  go_upto_if 34 with fail
  go_cut [9] (fun q wx => q = .string NM ∧ w3 = wx)
  case first =>
    cases nbb
    · have e := Lib.hid (NN.out (of_decide_eq_false HNB.out))
      clear YN NN HNB NU
      go_wp2_with fail
      go_meet
      exact ⟨by rw [e.out], rfl⟩
    · have e := Lib.hid (YN.out (of_decide_eq_true HNB.out))
      clear YN NN HNB NU
      go_wp2_with fail
      go_meet
      exact ⟨by rw [e.out], rfl⟩
  case rest =>
    obtain ⟨rfl, rfl⟩ := hcut
    clear YN NN NU aN zN5
    have B1 := Lib.hid (fun w' => rbehind_any (nmS nm) 14 w' (by omega) (by omega))
    rw [NF.out, ← hNM] at B1
    have HM := Lib.hid hNM
    clear hNM NZ NF
    obtain ⟨NA, hNA⟩ : ∃ N : ByteArray, N = ⟨(nameF nm).toArray⟩ := ⟨_, rfl⟩
    have lA : NA.data.toList = nameF nm := by rw [hNA]
    have zA : NA.size = 14 := by rw [size_L, lA]; exact LN.out
    rw [← hNA] at B1
    have EA := Lib.hid lA
    obtain ⟨RX, hRX⟩ : ∃ N : ByteArray, N = ⟨(Gt.raL ra 3).toArray⟩ := ⟨_, rfl⟩
    have lX : RX.data.toList = Gt.raL ra 3 := by rw [hRX]
    have zX : RX.size = 12 := by rw [size_L, lX]; exact lR
    obtain ⟨DX, hDX⟩ : ∃ N : ByteArray, N = ⟨(Gt.decL dec 2).toArray⟩ := ⟨_, rfl⟩
    have lY : DX.data.toList = Gt.decL dec 2 := by rw [hDX]
    have zY : DX.size = 12 := by rw [size_L, lY]; exact lD
    rw [← hRX, ← hDX]
    obtain ⟨S1, x1⟩ : ∃ S, S = NA ++ (⟨#[67]⟩ : ByteArray) := ⟨_, rfl⟩
    have z1 : S1.size = 15 := by rw [x1, ByteArray.size_append, zA]; rfl
    have a1 := add_fact x1 (by rw [zA]; show 14 + 1 ≤ _; omega)
    obtain ⟨S2, x2⟩ : ∃ S, S = S1 ++ day := ⟨_, rfl⟩
    have z2 : S2.size = 32 := by rw [x2, ByteArray.size_append, zd, z1]
    have a2 := add_fact x2 (by rw [zd, z1]; omega)
    obtain ⟨S3, x3⟩ : ∃ S, S = S2 ++ RX := ⟨_, rfl⟩
    have z3 : S3.size = 44 := by rw [x3, ByteArray.size_append, z2, zX]
    have a3 := add_fact x3 (by rw [z2, zX]; omega)
    obtain ⟨S4, x4⟩ : ∃ S, S = S3 ++ DX := ⟨_, rfl⟩
    have z4 : S4.size = 56 := by rw [x4, ByteArray.size_append, z3, zY]
    have a4 := add_fact x4 (by rw [z3, zY]; omega)
    have e4 : S4.data.toList = nameF nm ++ midL day ⟨nm, st, tt, ra, dec, sg, mg, bd⟩ := by
      rw [x4, x3, x2, x1]
      simp only [ByteArray.data_append, Array.toList_append, lA, lX, lY, midL, List.append_assoc]
      rfl
    obtain ⟨L4, hL4⟩ : ∃ L, L = nameF nm ++ midL day ⟨nm, st, tt, ra, dec, sg, mg, bd⟩ := ⟨_, rfl⟩
    have l4 : L4.length = 56 := by rw [hL4, List.length_append, LN.out, LM1.out]
    have B2 := Lib.hid (fun w' => rbehind_any L4 65 w' (by omega) (by omega))
    have s4 : (⟨L4.toArray⟩ : ByteArray) = S4 := toL_inj (by rw [e4, hL4])
    rw [l4, s4] at B2
    obtain ⟨L5, hL5⟩ : ∃ L, L = L4 ++ spL (65 - 56) := ⟨_, rfl⟩
    have l5 : L5.length = 65 := by rw [hL5, List.length_append, spL_len, l4]
    rw [← hL5] at B2
    obtain ⟨S5, hS5⟩ : ∃ S : ByteArray, S = ⟨L5.toArray⟩ := ⟨_, rfl⟩
    have z5 : S5.size = 65 := by rw [hS5, size_mk, l5]
    rw [← hS5] at B2
    have E5 := Lib.hid (show S5.data.toList = L5 by rw [hS5])
    have F5 := Lib.hid (show L5 = nameF nm ++ (midL day ⟨nm, st, tt, ra, dec, sg, mg, bd⟩ ++ spL 9) by rw [hL5, hL4, List.append_assoc])
    clear x1 x2 x3 x4 z1 z2 z3 e4 hL4 l4 s4 hL5 hS5 hNA lA hRX lX hDX lY lR lD
    have lm : Hid (mg ≠ 9999 → (magL mg).length = 5) := Lib.hid fun h9 => by
      have := mag_bd OM.out h9
      exact magL_len (by omega) (by omega)
    obtain ⟨L6, hL6⟩ : ∃ L, L = L5 ++ mgS mg bd := ⟨_, rfl⟩
    have TL := tail_of L5 mg bd l5 lm.out
    rw [← hL6] at TL
    have l6 : L6.length ≤ 71 := by
      rw [hL6, List.length_append, l5]
      unfold mgS
      split
      · simp
      · rename_i h9
        rw [List.length_append, lm.out h9]
        simp
    have B3 := Lib.hid (fun w' => rbehind_any L6 77 w' (by omega) (by omega))
    rw [TL] at B3
    obtain ⟨S6, hS6⟩ : ∃ S : ByteArray, S = ⟨L6.toArray⟩ := ⟨_, rfl⟩
    rw [← hS6] at B3
    have E6 := Lib.hid (show S6.data.toList = L5 ++ mgS mg bd by rw [hS6, hL6])
    clear TL hL6 hS6 l6
    go_wp2_with fail
    refine (B1.out _).mono ?_
    rintro e w4 ⟨rfl, rfl⟩
    clear B1 LN LM1 HM
    go_wp2_with fail
    refine (B2.out _).mono ?_
    rintro e w4 ⟨rfl, rfl⟩
    clear B2 a1 a2 a3 a4 z4 zA zX zY zd
    go_upto_if 49 with fail
    go_cut [10] (fun q wx => q = .string S6 ∧ OX w w.heap.size ⟨nm, st, tt, ra, dec, sg, mg, bd⟩ wx)
    case first =>
      by_cases h9 : mg = 9999
      · have e := Lib.hid (show S5 = S6 from toL_inj (by rw [E5.out, E6.out]; unfold mgS; rw [if_pos h9, List.append_nil]))
        subst h9
        clear E5 E6 B3 F5 lm
        go_wp2_with fail
        go_meet
        exact ⟨by rw [e.out], X3.out⟩
      · have hmm := mag_bd OM.out h9
        have h92 : (mg == 9999) = false := beq_eq_false_iff_ne.2 h9
        obtain ⟨b0, b1, b2⟩ := band_u8 OM.out
        obtain ⟨u, hu⟩ : ∃ u : UInt8, u = UInt8.ofNat bd.toNat := ⟨_, rfl⟩
        have eu : (u.toNat : Int) = bd := by rw [hu, UInt8.toNat_ofNat', Nat.mod_eq_of_lt (show bd.toNat < 2 ^ 8 by omega)]; omega
        obtain ⟨G, hG⟩ : ∃ S : ByteArray, S = ⟨(magL mg).toArray⟩ := ⟨_, rfl⟩
        have zG : G.size = 5 := by rw [hG, size_mk]; exact lm.out h9
        have MG := Lib.hid (fun w' => rmag_any mg w' (by omega) (by omega))
        rw [← hG] at MG
        have e6 : S6 = S5 ++ (G ++ ⟨#[u]⟩) := toL_inj (by
          rw [E6.out, hG]
          unfold mgS
          rw [if_neg h9, ← hu]
          simp [ByteArray.data_append, E5.out])
        obtain ⟨G2, hG2⟩ : ∃ S, S = G ++ (⟨#[u]⟩ : ByteArray) := ⟨_, rfl⟩
        have zG2 : G2.size = 6 := by rw [hG2, ByteArray.size_append, zG]; rfl
        have t1 := add_fact hG2 (by rw [zG]; show 5 + 1 ≤ _; omega)
        rw [← hG2] at e6
        have t2 := add_fact e6 (by rw [z5, zG2]; omega)
        have hcv := one_u8 u
        clear hu hG hG2 e6 E5 E6 B3 F5 lm hmm b0 b1 b2 zG zG2 z5 l5
        subst eu
        have BF := Lib.hid X3.out
        go_wp2_with fail
        refine wp_region_held_drew (S := LS w w.heap.size ⟨nm, st, tt, ra, dec, sg, mg, (u.toNat : Int)⟩) (by kernel_rfl) (ox_drawn BF.out).ls (fun hHeld => ?_)
        refine wpAnyH_take (i := 0) (oi := ?oi0x1) (v := ?v0x1) ?hi0x1 (by kernel_rfl) (by kernel_rfl) (by kernel_rfl) ?hq0x1 ?hy0x1 hHeld ?rest0x1
        case hi0x1 => ((try simp only [List.getElem?_toArray, List.getElem?_cons_succ, List.getElem?_cons_zero]); (try rfl))
        case hq0x1 => exact fun _ _ _ h => h
        case hy0x1 => exact Or.inl ⟨by rfl, by intro w hSw; clear hSw; go_simp; try with_reducible rfl⟩
        try simp only [Act.put, List.setIfInBounds_toArray, List.set_cons_zero, List.set_cons_succ]
        refine wpAnyH_take (i := 1) (oi := ?oi1x2) (v := ?v1x2) ?hi1x2 (by kernel_rfl) (by kernel_rfl) (by kernel_rfl) ?hq1x2 ?hy1x2 hHeld ?rest1x2
        case hi1x2 => ((try simp only [List.getElem?_toArray, List.getElem?_cons_succ, List.getElem?_cons_zero]); (try rfl))
        case hq1x2 => exact fun _ _ _ h => h
        case hy1x2 => exact Or.inl ⟨by rfl, by intro w hSw; clear hSw; go_simp; try with_reducible rfl⟩
        try simp only [Act.put, List.setIfInBounds_toArray, List.set_cons_zero, List.set_cons_succ]
        refine wpAnyH_take (i := 2) (oi := ?oi2x3) (v := ?v2x3) ?hi2x3 (by kernel_rfl) (by kernel_rfl) (by kernel_rfl) ?hq2x3 ?hy2x3 hHeld ?rest2x3
        case hi2x3 => ((try simp only [List.getElem?_toArray, List.getElem?_cons_succ, List.getElem?_cons_zero]); (try rfl))
        case hq2x3 => exact fun _ _ _ h => h
        case hy2x3 => exact Or.inl ⟨by rfl, by intro w hSw; obtain ⟨c6, c7, -⟩ := hSw; go_simp; try with_reducible rfl⟩
        try simp only [Act.put, List.setIfInBounds_toArray, List.set_cons_zero, List.set_cons_succ]
        refine wpAnyH_take (i := 4) (oi := ?oi4x4) (v := ?v4x4) ?hi4x4 (by kernel_rfl) (by kernel_rfl) (by kernel_rfl) ?hq4x4 ?hy4x4 hHeld ?rest4x4
        case hi4x4 => ((try simp only [List.getElem?_toArray, List.getElem?_cons_succ, List.getElem?_cons_zero]); (try rfl))
        case hq4x4 => exact fun _ _ _ h => h
        case hy4x4 => exact Or.inl ⟨by rfl, by intro w hSw; clear hSw; go_simp; try with_reducible rfl⟩
        try simp only [Act.put, List.setIfInBounds_toArray, List.set_cons_zero, List.set_cons_succ]
        refine wpAnyH_take (i := 5) (oi := ?oi5x5) (v := ?v5x5) ?hi5x5 (by kernel_rfl) (by kernel_rfl) (by kernel_rfl) ?hq5x5 ?hy5x5 hHeld ?rest5x5
        case hi5x5 => ((try simp only [List.getElem?_toArray, List.getElem?_cons_succ, List.getElem?_cons_zero]); (try rfl))
        case hq5x5 => exact fun _ _ _ h => h
        case hy5x5 => exact Or.inl ⟨by rfl, by intro w hSw; obtain ⟨c6, c7, -⟩ := hSw; go_simp; try with_reducible rfl⟩
        try simp only [Act.put, List.setIfInBounds_toArray, List.set_cons_zero, List.set_cons_succ]
        refine wpAnyH_ready (rs := [3, 6]) (by kernel_rfl) (by simp) ?_
        refine AllReadyH.cons rfl (fun K' hK => ?_) (AllReadyH.cons rfl (fun K' hK => ?_) AllReadyH.nil)
        ·
          have H1 := Lib.hid hHeld
          clear hHeld
          go_simp
          refine (MG.out _).mono ?_
          rintro e w7 ⟨rfl, hb7⟩
          have CK := Lib.hid (fun p (h : p.block < _) => hb7.cell (p := p) h)
          refine hK.out _ _ (H1.out.2.2.call hb7).ls (fun hHeld => ?_)
          clear hK H1 hb7
          try simp only [Act.put, List.setIfInBounds_toArray, List.set_cons_zero, List.set_cons_succ]
          refine wpAnyH_ready (rs := [6]) (by kernel_rfl) (by simp) ?_
          refine AllReadyH.cons rfl (fun K' hK => ?_) AllReadyH.nil
          have e0 := hHeld
          clear hHeld
          go_simp
          refine hK.out _ _ (e0.2.2.call ((Below.refl _ _).alloc (Nat.le_refl _) _)).ls (fun hHeld => ?_)
          clear hK e0
          try simp only [Act.put, List.setIfInBounds_toArray, List.set_cons_zero, List.set_cons_succ]
          refine wpAnyH_ready (rs := [7]) (by kernel_rfl) (by simp) ?_
          refine AllReadyH.cons rfl (fun K' hK => ?_) AllReadyH.nil
          have e0 := hHeld
          clear hHeld
          go_simp
          refine hK.out _ _ e0 (fun hHeld => ?_)
          clear hK e0
          try simp only [Act.put, List.setIfInBounds_toArray, List.set_cons_zero, List.set_cons_succ]
          refine wpAnyH_take (i := 8) (oi := ?oi8x6) (v := ?v8x6) ?hi8x6 (by kernel_rfl) (by kernel_rfl) (by kernel_rfl) ?hq8x6 ?hy8x6 hHeld ?rest8x6
          case hi8x6 => ((try simp only [List.getElem?_toArray, List.getElem?_cons_succ, List.getElem?_cons_zero]); (try rfl))
          case hq8x6 => exact fun _ _ _ h => h
          case hy8x6 => exact Or.inl ⟨by rfl, by intro w hSw; clear hSw; go_simp; try with_reducible rfl⟩
          try simp only [Act.put, List.setIfInBounds_toArray, List.set_cons_zero, List.set_cons_succ]
          refine wpAnyH_take (i := 9) (oi := ?oi9x7) (v := ?v9x7) ?hi9x7 (by kernel_rfl) (by kernel_rfl) (by kernel_rfl) ?hq9x7 ?hy9x7 hHeld ?rest9x7
          case hi9x7 => ((try simp only [List.getElem?_toArray, List.getElem?_cons_succ, List.getElem?_cons_zero]); (try rfl))
          case hq9x7 => exact fun _ _ _ h => h
          case hy9x7 => exact Or.inl ⟨by rfl, by intro w hSw; clear hSw; go_simp; try with_reducible rfl⟩
          try simp only [Act.put, List.setIfInBounds_toArray, List.set_cons_zero, List.set_cons_succ]
          refine wpAnyH_take (i := 10) (oi := ?oi10x8) (v := ?v10x8) ?hi10x8 (by kernel_rfl) (by kernel_rfl) (by kernel_rfl) ?hq10x8 ?hy10x8 hHeld ?rest10x8
          case hi10x8 => ((try simp only [List.getElem?_toArray, List.getElem?_cons_succ, List.getElem?_cons_zero]); (try rfl))
          case hq10x8 => exact fun _ _ _ h => h
          case hy10x8 => exact Or.inl ⟨by rfl, by intro w hSw; clear hSw; go_simp; try with_reducible rfl⟩
          try simp only [Act.put, List.setIfInBounds_toArray, List.set_cons_zero, List.set_cons_succ]
          refine wpAnyH_done (by kernel_rfl) ?_ _
          have XF := Lib.hid hHeld.2.2
          clear hHeld t1 t2 MG hcv X3 BF
          go_wp2_with fail
          go_meet
          exact ⟨rfl, XF.out⟩
        ·
          have e0 := hHeld
          clear hHeld
          go_simp
          refine hK.out _ _ (e0.2.2.call ((Below.refl _ _).alloc (Nat.le_refl _) _)).ls (fun hHeld => ?_)
          clear hK e0
          try simp only [Act.put, List.setIfInBounds_toArray, List.set_cons_zero, List.set_cons_succ]
          refine wpAnyH_ready (rs := [3, 7]) (by kernel_rfl) (by simp) ?_
          refine AllReadyH.cons rfl (fun K' hK => ?_) (AllReadyH.cons rfl (fun K' hK => ?_) AllReadyH.nil)
          ·
            have H1 := Lib.hid hHeld
            clear hHeld
            go_simp
            refine (MG.out _).mono ?_
            rintro e w7 ⟨rfl, hb7⟩
            have CK := Lib.hid (fun p (h : p.block < _) => hb7.cell (p := p) h)
            refine hK.out _ _ (H1.out.2.2.call hb7).ls (fun hHeld => ?_)
            clear hK H1 hb7
            try simp only [Act.put, List.setIfInBounds_toArray, List.set_cons_zero, List.set_cons_succ]
            refine wpAnyH_ready (rs := [7]) (by kernel_rfl) (by simp) ?_
            refine AllReadyH.cons rfl (fun K' hK => ?_) AllReadyH.nil
            have e0 := hHeld
            clear hHeld
            have ck := CK.out ⟨w3.heap.size, 0, none⟩ (by simp)
            go_simp
            refine hK.out _ _ e0 (fun hHeld => ?_)
            clear hK e0
            try simp only [Act.put, List.setIfInBounds_toArray, List.set_cons_zero, List.set_cons_succ]
            refine wpAnyH_take (i := 8) (oi := ?oi8x9) (v := ?v8x9) ?hi8x9 (by kernel_rfl) (by kernel_rfl) (by kernel_rfl) ?hq8x9 ?hy8x9 hHeld ?rest8x9
            case hi8x9 => ((try simp only [List.getElem?_toArray, List.getElem?_cons_succ, List.getElem?_cons_zero]); (try rfl))
            case hq8x9 => exact fun _ _ _ h => h
            case hy8x9 => exact Or.inl ⟨by rfl, by intro w hSw; clear hSw; go_simp; try with_reducible rfl⟩
            try simp only [Act.put, List.setIfInBounds_toArray, List.set_cons_zero, List.set_cons_succ]
            refine wpAnyH_take (i := 9) (oi := ?oi9x10) (v := ?v9x10) ?hi9x10 (by kernel_rfl) (by kernel_rfl) (by kernel_rfl) ?hq9x10 ?hy9x10 hHeld ?rest9x10
            case hi9x10 => ((try simp only [List.getElem?_toArray, List.getElem?_cons_succ, List.getElem?_cons_zero]); (try rfl))
            case hq9x10 => exact fun _ _ _ h => h
            case hy9x10 => exact Or.inl ⟨by rfl, by intro w hSw; clear hSw; go_simp; try with_reducible rfl⟩
            try simp only [Act.put, List.setIfInBounds_toArray, List.set_cons_zero, List.set_cons_succ]
            refine wpAnyH_take (i := 10) (oi := ?oi10x11) (v := ?v10x11) ?hi10x11 (by kernel_rfl) (by kernel_rfl) (by kernel_rfl) ?hq10x11 ?hy10x11 hHeld ?rest10x11
            case hi10x11 => ((try simp only [List.getElem?_toArray, List.getElem?_cons_succ, List.getElem?_cons_zero]); (try rfl))
            case hq10x11 => exact fun _ _ _ h => h
            case hy10x11 => exact Or.inl ⟨by rfl, by intro w hSw; clear hSw; go_simp; try with_reducible rfl⟩
            try simp only [Act.put, List.setIfInBounds_toArray, List.set_cons_zero, List.set_cons_succ]
            refine wpAnyH_done (by kernel_rfl) ?_ _
            have XF := Lib.hid hHeld.2.2
            clear hHeld t1 t2 MG hcv X3 BF
            go_wp2_with fail
            go_meet
            exact ⟨rfl, XF.out⟩
          ·
            have e0 := hHeld
            clear hHeld
            go_simp
            refine hK.out _ _ e0 (fun hHeld => ?_)
            clear hK e0
            try simp only [Act.put, List.setIfInBounds_toArray, List.set_cons_zero, List.set_cons_succ]
            refine wpAnyH_ready (rs := [3]) (by kernel_rfl) (by simp) ?_
            refine AllReadyH.cons rfl (fun K' hK => ?_) AllReadyH.nil
            have H1 := Lib.hid hHeld
            clear hHeld
            go_simp
            refine (MG.out _).mono ?_
            rintro e w7 ⟨rfl, hb7⟩
            have CK := Lib.hid (fun p (h : p.block < _) => hb7.cell (p := p) h)
            refine hK.out _ _ (H1.out.2.2.call hb7).ls (fun hHeld => ?_)
            clear hK H1 hb7
            try simp only [Act.put, List.setIfInBounds_toArray, List.set_cons_zero, List.set_cons_succ]
            refine wpAnyH_take (i := 8) (oi := ?oi8x12) (v := ?v8x12) ?hi8x12 (by kernel_rfl) (by kernel_rfl) (by kernel_rfl) ?hq8x12 ?hy8x12 hHeld ?rest8x12
            case hi8x12 => ((try simp only [List.getElem?_toArray, List.getElem?_cons_succ, List.getElem?_cons_zero]); (try rfl))
            case hq8x12 => exact fun _ _ _ h => h
            case hy8x12 => exact Or.inl ⟨by rfl, by intro w hSw; clear hSw; go_simp; try with_reducible rfl⟩
            try simp only [Act.put, List.setIfInBounds_toArray, List.set_cons_zero, List.set_cons_succ]
            refine wpAnyH_take (i := 9) (oi := ?oi9x13) (v := ?v9x13) ?hi9x13 (by kernel_rfl) (by kernel_rfl) (by kernel_rfl) ?hq9x13 ?hy9x13 hHeld ?rest9x13
            case hi9x13 => ((try simp only [List.getElem?_toArray, List.getElem?_cons_succ, List.getElem?_cons_zero]); (try rfl))
            case hq9x13 => exact fun _ _ _ h => h
            case hy9x13 => exact Or.inl ⟨by rfl, by intro w hSw; clear hSw; go_simp; try with_reducible rfl⟩
            try simp only [Act.put, List.setIfInBounds_toArray, List.set_cons_zero, List.set_cons_succ]
            refine wpAnyH_take (i := 10) (oi := ?oi10x14) (v := ?v10x14) ?hi10x14 (by kernel_rfl) (by kernel_rfl) (by kernel_rfl) ?hq10x14 ?hy10x14 hHeld ?rest10x14
            case hi10x14 => ((try simp only [List.getElem?_toArray, List.getElem?_cons_succ, List.getElem?_cons_zero]); (try rfl))
            case hq10x14 => exact fun _ _ _ h => h
            case hy10x14 => exact Or.inl ⟨by rfl, by intro w hSw; clear hSw; go_simp; try with_reducible rfl⟩
            try simp only [Act.put, List.setIfInBounds_toArray, List.set_cons_zero, List.set_cons_succ]
            refine wpAnyH_done (by kernel_rfl) ?_ _
            have XF := Lib.hid hHeld.2.2
            clear hHeld t1 t2 MG hcv X3 BF
            go_wp2_with fail
            go_meet
            exact ⟨rfl, XF.out⟩
    case rest =>
      obtain ⟨rfl, X4⟩ := hcut
      have X4 := Lib.hid X4
      clear q0 q1 q6 q7 X3
      have q1 := X4.out.row 1 _ rfl
      simp only [Nat.zero_add] at q1
      clear E6
      obtain ⟨S7, hS7⟩ : ∃ S : ByteArray, S = ⟨(L5 ++ (magF mg bd ++ spL 6)).toArray⟩ := ⟨_, rfl⟩
      rw [← hS7] at B3
      have E7 : S7.data.toList = L5 ++ (magF mg bd ++ spL 6) := by rw [hS7]
      have z7 : S7.size = 77 := by
        rw [size_L, E7, List.length_append, l5, List.length_append, spL_len]
        unfold magF
        split
        · rfl
        · rename_i h9
          rw [List.length_append, lm.out h9]
          rfl
      obtain ⟨S8, x8⟩ : ∃ S, S = S7 ++ st := ⟨_, rfl⟩
      have a8 := add_fact x8 (by rw [z7, os]; omega)
      have FN := Lib.hid (show S8 = ⟨(lineL day ⟨nm, st, tt, ra, dec, sg, mg, bd⟩).toArray⟩ from toL_inj (by
        rw [x8]
        simp only [ByteArray.data_append, Array.toList_append, E7, F5.out, lineL, midL, List.append_assoc, List.cons_append]))
      clear hS7 E7 z7 x8 F5 l5 lm
      go_wp2_with fail
      go_quiet ((go_at_call 72; first | with_reducible exact quiet_left (B3.out _) | with_reducible exact quiet_add_left (B3.out _)))
      go_wp2_with fail
      go_ret
      exact ⟨day, HD.out, by rw [← FN.out]; rfl, drewN_below2 X4.out.below _⟩
end Ow
end Go.Proofs.YtafeigpmldgifaaGreatDoor
/-
  The walks of cut, blank, decimals of the reference of observations.
-/
namespace Go.Proofs.YtafeigpmldgifaaGreatDoor
namespace Ow
open Go.RowKit Lw Go.Proofs.YtafeigpmldgifaaGreatDoor.Ap Go.Proofs.YtafeigpmldgifaaGreatDoor.Op Go.Proofs.YtafeigpmldgifaaGreatDoor.Mp Go.Proofs.YtafeigpmldgifaaGreatDoor.Mw Go.Proofs.YtafeigpmldgifaaGreatDoor.At

def lenOfW : Value → Nat
  | .string s => s.size
  | _ => 0
theorem cutL_sp (l : List UInt8) : cutL (l ++ [32]) = cutL l := by
  unfold cutL
  rw [List.reverse_append, List.reverse_singleton, List.singleton_append, List.dropWhile_cons_of_pos (by rfl)]
theorem last_of {S : ByteArray} {m : Nat} (h : S.size = m + 1) (hm : m < S.size) : S.data.toList = (S.extract 0 m).data.toList ++ [S[m]'hm] := by
  rw [ext_L S 0 m (by omega), List.drop_zero, Nat.sub_zero]
  have := take_snoc S m hm
  rw [← this, List.take_of_length_le (by rw [← size_L]; omega)]
theorem cutS_sp {S : ByteArray} {m : Nat} (h : S.size = m + 1) (hm : m < S.size) (c : ((S[m]'hm).toNat : Int) = 32) : cutS (S.extract 0 m) = cutS S := by
  have e : S[m]'hm = 32 := UInt8.toNat_inj.1 (by show _ = 32; omega)
  unfold cutS
  rw [last_of h hm, e, cutL_sp]
theorem cutS_end {S : ByteArray} {m : Nat} (h : S.size = m + 1) (hm : m < S.size) (c : ¬ ((S[m]'hm).toNat : Int) = 32) : cutS S = S := by
  have e : S[m]'hm ≠ 32 := fun g => c (by rw [g]; rfl)
  apply toL_inj
  unfold cutS
  rw [last_of h hm, cut_id e]
end Ow
end Go.Proofs.YtafeigpmldgifaaGreatDoor
/-
  The walks of valid and FromUtc of the reference.
-/
namespace Go.Proofs.YtafeigpmldgifaaGreatDoor
namespace Mw
open Go.RowKit Go.Proofs.YtafeigpmldgifaaGreatDoor.Mp Lw


def ValidPost (y m d h i s u : Int) (w : World) (e : Ending) (w' : World) : Prop := ∃ b : Bool, e = .returned (.bool b) ∧ (b = true ↔ fromOk y m d h i s u) ∧ Below w.heap.size w w'

theorem valid_no {y m d h i s u : Int} {w w' : World} (hB : Below w.heap.size w w') (hn : ¬ fromOk y m d h i s u) : ValidPost y m d h i s u w (.returned (.bool false)) w' :=
  ⟨false, rfl, ⟨fun e => (by cases e), fun e => absurd e hn⟩, hB⟩
theorem valid_lt {y m d h i s u : Int} {w w' : World} (hB : Below w.heap.size w w') (hw : wholeP y m d) (h1 : 0 ≤ h) (h2 : h ≤ 23) (h3 : 0 ≤ i) (h4 : i ≤ 59) (h5 : 0 ≤ s) (h7 : 0 ≤ u) (h8 : u ≤ 999999) (hs : ¬ s = 60) : ValidPost y m d h i s u w (.returned (.bool (decide (s < 60)))) w' :=
  ⟨_, rfl, ⟨fun e => ⟨hw, h1, h2, h3, h4, h5, h7, by omega, Or.inl (of_decide_eq_true e)⟩, fun ⟨_, _, _, _, _, _, _, _, e⟩ => decide_eq_true (by rcases e with e | ⟨e, _⟩ <;> omega)⟩, hB⟩
theorem valid_60 {y m d h i s u : Int} {w w' : World} (hB : Below w.heap.size w w') (hw : wholeP y m d) (h1 : h = 23) (h3 : i = 59) (h7 : 0 ≤ u) (h8 : u ≤ 999999) (hs : s = 60) : ValidPost y m d h i s u w (.returned (.bool (secs y m d == 86401))) w' :=
  ⟨_, rfl, ⟨fun e => ⟨hw, by omega, by omega, by omega, by omega, by omega, h7, by omega, Or.inr ⟨hs, h1, h3, by
      unfold leapday
      have e := beq_iff_eq.1 e
      unfold secs at e
      by_cases c : d = mo y (m + 1) - mo y m ∧ lps (12 * y + m) = lps (12 * y + m - 1) + 1
      · exact c
      · rw [if_neg c] at e; omega⟩⟩, fun ⟨_, _, _, _, _, _, _, _, e⟩ => beq_iff_eq.2 (by
      rcases e with e | ⟨_, _, _, e⟩
      · omega
      · unfold leapday at e; rw [secs, if_pos e])⟩, hB⟩
end Mw
end Go.Proofs.YtafeigpmldgifaaGreatDoor
/-
  The walk of FromUtc of the reference.
-/
namespace Go.Proofs.YtafeigpmldgifaaGreatDoor
namespace Mw
open Go.RowKit Go.Proofs.YtafeigpmldgifaaGreatDoor.Mp Lw

/-- What FromUtc does. -/
def RFromPost (y m d h i s u : Int) (w : World) (e : Ending) (w' : World) : Prop := ∃ t c : Int, e = .returned (.tuple #[.int .i64 t, .int .i64 c]) ∧ FromIs y m d h i s u t c ∧ Below w.heap.size w w'

end Mw
end Go.Proofs.YtafeigpmldgifaaGreatDoor
/-
  The walk of number of the reference.
-/
namespace Go.Proofs.YtafeigpmldgifaaGreatDoor
namespace Ap
open Go.RowKit Lw

end Ap
end Go.Proofs.YtafeigpmldgifaaGreatDoor
/-
  The walk of like of the reference.
-/
namespace Go.Proofs.YtafeigpmldgifaaGreatDoor
namespace Ap
open Go.RowKit Lw

end Ap
end Go.Proofs.YtafeigpmldgifaaGreatDoor
/-
  The walk of Parse of the reference.
-/
namespace Go.Proofs.YtafeigpmldgifaaGreatDoor
namespace Ap
open Go.RowKit Lw Go.Proofs.YtafeigpmldgifaaGreatDoor.Mp

theorem via {p q : Prop} (hp : p) (h : Hid p → q) : q := h (Lib.hid hp)
theorem rinfo7 : (Tryz.prog.info? 85).map (·.size) = some 7 := by kernel_rfl
theorem nm_bd (s : ByteArray) (i j : Nat) (hj : j ≤ s.size) (h : j ≤ i + 9) : -1 ≤ nm s i j ∧ nm s i j < 1000000000 := by
  unfold nm
  by_cases g : allD (s.extract i j).data.toList
  · rw [numV_yes g]
    have e : (s.extract i j).data.toList.take (s.extract i j).data.toList.length = (s.extract i j).data.toList := List.take_length
    have := numL_bd _ _ (Nat.le_refl _) (by rw [e]; exact g)
    rw [e] at this
    have hl : (s.extract i j).data.toList.length ≤ 9 := by
      have : (s.extract i j).data.toList.length = (s.extract i j).size := rfl
      rw [this, size_ext s _ _ hj]; omega
    have h9 : ∀ r : Nat, r ≤ 9 → (10 : Int) ^ r ≤ 1000000000 := by decide
    have := h9 _ hl
    omega
  · have : numV (s.extract i j).data.toList = -1 := if_neg g
    omega
theorem rparse_not {s : ByteArray} (h : ¬ textP s) : ParseIs s 0 12 := Or.inr ⟨fun g => h g.1, rfl, rfl⟩
/-- The end of the walk: the date is made and taken. -/
theorem parse_end {s : ByteArray} (tp : textP s) : ∀ a c, FromIs (nm s 0 4) (nm s 5 7) (nm s 8 10) (nm s 11 13) (nm s 14 16) (nm s 17 19) (microV s) a c → (c = 0 ∧ ParseIs s a 0) ∨ (c = 2 ∧ ParseIs s 0 12) := fun a c hf => by
  rcases hf with ⟨f1, f2, f3⟩ | ⟨f1, f2, f3⟩
  · exact Or.inl ⟨f3, Or.inl ⟨⟨tp, f1⟩, f2, rfl⟩⟩
  · exact Or.inr ⟨f3, Or.inr ⟨fun k => f1 k.2, rfl, rfl⟩⟩
end Ap
end Go.Proofs.YtafeigpmldgifaaGreatDoor
/-
  The walk of ParseDay of the reference.
-/
namespace Go.Proofs.YtafeigpmldgifaaGreatDoor
namespace Ap
open Go.RowKit Lw Go.Proofs.YtafeigpmldgifaaGreatDoor.Mp

theorem rpday_not {s : ByteArray} (h : ¬ dayP s) : PDayIs s 0 12 := Or.inr ⟨fun g => h g.1, rfl, rfl⟩
end Ap
end Go.Proofs.YtafeigpmldgifaaGreatDoor
/-
  The walk of read of the reference of observations.
-/
namespace Go.Proofs.YtafeigpmldgifaaGreatDoor
namespace Ow
open Go.RowKit Lw Go.Proofs.YtafeigpmldgifaaGreatDoor.Ap Go.Proofs.YtafeigpmldgifaaGreatDoor.Op Go.Proofs.YtafeigpmldgifaaGreatDoor.Mp Go.Proofs.YtafeigpmldgifaaGreatDoor.Mw Go.Proofs.YtafeigpmldgifaaGreatDoor.At

/-- What read answers: the part of a line that every line has. -/
structure ReadIs (s : ByteArray) (o : Ob) : Prop where
  p : 3 ≤ decs (cutS (s.extract 15 32)) ∧ decs (cutS (s.extract 15 32)) ≤ 6
  q : 1 ≤ decs (cutS (s.extract 32 44)) ∧ decs (cutS (s.extract 32 44)) ≤ 3
  r : decs (cutS (s.extract 44 56)) ≤ 2
  day : PDayIs (cutS (s.extract 15 32)) o.t 0
  ra : Gp.RaIs (cutS (s.extract 32 44)) o.ra 0
  dec : Gp.DecIs (cutS (s.extract 44 56)) o.dec 0
  all : o = ⟨⟨#[]⟩, s.extract 77 80, o.t, o.ra, o.dec, sgOf (decs (cutS (s.extract 44 56))), 9999, 32⟩
def ReadA (s : ByteArray) (o : Ob) (b : Bool) : Prop := (b = true ∧ ReadIs s o) ∨ (b = false ∧ o = zeroO ∧ NoO s)
def ReadPost (s : ByteArray) (w : World) (e : Ending) (w' : World) : Prop := ∃ (o : Ob) (b : Bool), e = .returned (.tuple #[obsV o, .bool b]) ∧ ReadA s o b ∧ Below w.heap.size w w'
/-- The condition of read. -/
def badP (c1 c2 c3 : Int) (d1 d2 d3 : Nat) : Prop := c1 ≠ 0 ∨ c2 ≠ 0 ∨ c3 ≠ 0 ∨ d1 < 3 ∨ 6 < d1 ∨ d2 < 1 ∨ 3 < d2 ∨ 2 < d3
instance (c1 c2 c3 : Int) (d1 d2 d3 : Nat) : Decidable (badP c1 c2 c3 d1 d2 d3) := by unfold badP; infer_instance
end Ow
end Go.Proofs.YtafeigpmldgifaaGreatDoor
/-
  The walk of magnitude of the reference of observations.
-/
namespace Go.Proofs.YtafeigpmldgifaaGreatDoor
namespace Ow
open Go.RowKit Lw Go.Proofs.YtafeigpmldgifaaGreatDoor.Ap Go.Proofs.YtafeigpmldgifaaGreatDoor.Op Go.Proofs.YtafeigpmldgifaaGreatDoor.Mp Go.Proofs.YtafeigpmldgifaaGreatDoor.Mw Go.Proofs.YtafeigpmldgifaaGreatDoor.At

/-- What five bytes say, by their numbers. -/
def magQ (A B C D E m : Int) : Prop := C = 46 ∧ dgP B ∧ dgP D ∧ (dgP E ∨ E = 32) ∧
  ((A = 45 ∧ m = -(100 * (B - 48) + 10 * (D - 48) + (if E = 32 then 0 else E - 48)) ∧ 0 < 100 * (B - 48) + 10 * (D - 48) + (if E = 32 then 0 else E - 48)) ∨
   (A = 32 ∧ m = 100 * (B - 48) + 10 * (D - 48) + (if E = 32 then 0 else E - 48)) ∨
   (dgP A ∧ A ≠ 48 ∧ m = 100 * (B - 48) + 10 * (D - 48) + (if E = 32 then 0 else E - 48) + 1000 * (A - 48) ∧ m ≤ 3000))
theorem mag_q (a b c d e : UInt8) (m : Int) : MagIs ⟨#[a, b, c, d, e]⟩ m ↔ magQ a.toNat b.toNat c.toNat d.toNat e.toNat m := by
  obtain ⟨q0, q1, q2, q3, q4⟩ := bt5 a b c d e
  unfold MagIs magN magQ
  rw [q0, q1, q2, q3, q4]
def magQA (A B C D E m : Int) (b : Bool) : Prop := (b = true ∧ magQ A B C D E m) ∨ (b = false ∧ ∀ x, ¬ magQ A B C D E x)
theorem magQ_no {A B C D E m : Int} (h : ∀ x, ¬ magQ A B C D E x) : magQA A B C D E m false := Or.inr ⟨rfl, h⟩
/-- Five bytes as a string. -/
theorem five_str (a b c d e : UInt8) : ∃ F : ByteArray, F = ⟨#[a, b, c, d, e]⟩ ∧ F.size = 5 ∧ (∀ h : 0 < F.size, ((F[0]'h).toNat : Int) = a.toNat) ∧ (∀ h : 1 < F.size, ((F[1]'h).toNat : Int) = b.toNat) ∧ (∀ h : 2 < F.size, ((F[2]'h).toNat : Int) = c.toNat) ∧ (∀ h : 3 < F.size, ((F[3]'h).toNat : Int) = d.toNat) ∧ (∀ h : 4 < F.size, ((F[4]'h).toNat : Int) = e.toNat) :=
  ⟨_, rfl, rfl, fun _ => rfl, fun _ => rfl, fun _ => rfl, fun _ => rfl, fun _ => rfl⟩
def MagQPost (A B C D E : Int) (w : World) (e : Ending) (w' : World) : Prop := ∃ (m : Int) (b : Bool), e = .returned (.tuple #[.int .i64 m, .bool b]) ∧ magQA A B C D E m b ∧ Below w.heap.size w w'
end Ow
end Go.Proofs.YtafeigpmldgifaaGreatDoor
/-
  The walk of Parse of the reference of observations.
-/
namespace Go.Proofs.YtafeigpmldgifaaGreatDoor
namespace Ow
open Go.RowKit Lw Go.Proofs.YtafeigpmldgifaaGreatDoor.Ap Go.Proofs.YtafeigpmldgifaaGreatDoor.Op Go.Proofs.YtafeigpmldgifaaGreatDoor.Mp Go.Proofs.YtafeigpmldgifaaGreatDoor.Mw Go.Proofs.YtafeigpmldgifaaGreatDoor.At

theorem zz_is {s : ByteArray} (h8 : s.size = 80) : s.extract 12 14 = ⟨#[32, 32]⟩ ↔ (bt s 12 = 32 ∧ bt s 13 = 32) := by
  have b : ∀ k, k < 2 → bt (s.extract 12 14) k = bt s (12 + k) := fun k hk => by
    rw [bt_of _ k (by rw [ByteArray.size_extract]; omega), bt_of s (12 + k) (by omega)]
    congr 2
    simp [ByteArray.getElem_eq_getElem_data]
  have b0 := b 0 (by omega)
  have b1 := b 1 (by omega)
  constructor
  · intro e
    rw [e] at b0 b1
    exact ⟨b0.symm, b1.symm⟩
  · rintro ⟨h0, h1⟩
    have z : (s.extract 12 14).size = 2 := by rw [ByteArray.size_extract]; omega
    have l : (s.extract 12 14).data.toList.length = 2 := by rw [← size_L]; exact z
    match hl : (s.extract 12 14).data.toList, l with
    | [x, y], _ =>
      rw [bt_L _ _ (by omega), hl] at b0 b1
      have v : ∀ {x : UInt8} {n : Nat}, n < 256 → (x.toNat : Int) = n → x = UInt8.ofNat n := fun hn h => u8_val hn h
      have e0 : x = 32 := v (n := 32) (by omega) (b0.trans h0)
      have e1 : y = 32 := v (n := 32) (by omega) (b1.trans h1)
      apply toL_inj
      rw [hl, e0, e1]
theorem no_n1 {s : ByteArray} (h : blankP (s.extract 0 5)) (n : numbP (cutS (s.extract 5 12))) : NoO s := fun x g => by
  rcases g.name with ⟨_, b, c⟩ | ⟨a, _⟩
  · exact c (by rw [b]; exact n)
  · exact a h
theorem no_n2 {s : ByteArray} (h : ¬ blankP (s.extract 0 5)) (n : ¬ numbP (s.extract 0 5)) : NoO s := fun x g => by
  rcases g.name with ⟨a, _⟩ | ⟨_, b, c, _⟩
  · exact h a
  · exact n (by rw [← b]; exact c)
theorem no_n3 {s : ByteArray} (h : ¬ blankP (s.extract 0 5)) (n : ¬ blankP (s.extract 5 12)) : NoO s := fun x g => by
  rcases g.name with ⟨a, _⟩ | ⟨_, _, _, c⟩
  · exact h a
  · exact n c
end Ow
end Go.Proofs.YtafeigpmldgifaaGreatDoor
/-
  The walks of Print, Round of the reference of observations.
-/
namespace Go.Proofs.YtafeigpmldgifaaGreatDoor
namespace Ow
open Go.RowKit Lw Go.Proofs.YtafeigpmldgifaaGreatDoor.Ap Go.Proofs.YtafeigpmldgifaaGreatDoor.Op Go.Proofs.YtafeigpmldgifaaGreatDoor.Mp Go.Proofs.YtafeigpmldgifaaGreatDoor.Mw Go.Proofs.YtafeigpmldgifaaGreatDoor.At

set_option maxRecDepth 100000 in
set_option maxHeartbeats 16000000 in
theorem rprint_any (o : Ob) (w : World) (hb : OB o) : Calls Tryz.prog 22 #[obsV o] w (PrintPost o w) := by
  have X0 := Lib.hid (OX.new w o)
  have CK := Lib.hid (fun w' => rcheck_any o w' hb.t0 hb.t1 hb.b0 hb.b1 hb.n1 hb.n2)
  have LI := Lib.hid (fun w' (ok : okO o) => rline_ok o w' hb.t0 hb.t1 hb.n1 ok)
  clear hb
  go_enter Tryz.func22, Tryz.ntmps22
  go_wp2_with (refine wpList_load_mid rfl _ (.tmp 1) rfl w.heap.size 0 rfl (obsC o) _ X0.out.row Tryz.underlying57 rfl info8 ?_)
  refine (CK.out _).mono ?_
  rintro e w1 ⟨rfl, hb⟩
  have X1 := Lib.hid (X0.out.call hb)
  clear hb X0 CK
  by_cases ok : okO o
  · rw [show checkC o = 0 from if_pos ok]
    have LI := Lib.hid (fun w' => LI.out w' ok)
    go_wp2_with (refine wpList_load_mid rfl _ (.tmp 1) rfl w.heap.size 0 rfl (obsC o) _ X1.out.row Tryz.underlying57 rfl info8 ?_)
    refine (LI.out _).mono ?_
    rintro e w2 ⟨day, hd, rfl, hb⟩
    have HD := Lib.hid hd
    have X2 := Lib.hid (X1.out.call hb)
    clear hb X1 LI hd
    go_wp2_with fail
    go_ret2
    exact ⟨_, 0, rfl, Or.inl ⟨ok, ⟨day, HD.out, rfl⟩, rfl⟩, X2.out.below⟩
  · rw [show checkC o = 8 from if_neg ok]
    clear LI
    go_wp2_with fail
    go_ret2
    exact ⟨_, 8, rfl, Or.inr ⟨ok, rfl, rfl⟩, X1.out.below⟩
end Ow
end Go.Proofs.YtafeigpmldgifaaGreatDoor
/-
  The walks of PrintAll of obs and of the reference.
-/
namespace Go.Proofs.YtafeigpmldgifaaGreatDoor
namespace Ow
open Go.RowKit Lw Go.Proofs.YtafeigpmldgifaaGreatDoor.Ap Go.Proofs.YtafeigpmldgifaaGreatDoor.Op Go.Proofs.YtafeigpmldgifaaGreatDoor.Mp Go.Proofs.YtafeigpmldgifaaGreatDoor.Mw Go.Proofs.YtafeigpmldgifaaGreatDoor.At

theorem ownsRow_below {w w' : World} {base : Nat} {e : TypeId} {size : Nat} {v : Value} {n : Nat} {xs : List Value} (h : w.ownsRow base e size v n xs) (hb : Below w.heap.size w w') : w'.ownsRow base e size v n xs := by
  obtain ⟨h1, h2⟩ := h
  refine ⟨h1, ?_⟩
  rcases h2 with h2 | ⟨g, cap, cur, hv, hg, hh, r⟩
  · exact Or.inl h2
  · refine Or.inr ⟨g, cap, cur, hv, hg, ?_, r⟩
    have lt : g < w.heap.size := by
      rcases Nat.lt_or_ge g w.heap.size with h | h
      · exact h
      · rw [Array.getElem?_eq_none h] at hh; cases hh
    rw [hb.block g lt]; exact hh
theorem builder_below {w w' : World} {T e : TypeId} {B b : Nat} {bs : List Value} (h : Lib.IsBuilder T e B b bs w) (hb : Below w.heap.size w w') : Lib.IsBuilder T e B b bs w' := by
  have key : ∀ p, Lib.BuilderAt T e B b p bs w → Lib.BuilderAt T e B b p bs w' := fun p ⟨h0, v, hh, ho, hn⟩ => by
    have lt : b < w.heap.size := by
      rcases Nat.lt_or_ge b w.heap.size with h | h
      · exact h
      · rw [Array.getElem?_eq_none h] at hh; cases hh
    exact ⟨h0, v, by rw [hb.block b lt]; exact hh, ownsRow_below ho hb, hn⟩
  exact h.elim (fun x => Or.inl (key _ x)) (fun x => Or.inr (key _ x))
/-- A builder that holds a string. -/
def Bd (B : Nat) (s : ByteArray) (w : World) : Prop := Lib.IsBuilder 44 5 B B (Lib.byteCells s.data.toList) w ∧ B ≤ w.heap.size
theorem Bd.below {B : Nat} {s : ByteArray} {w w' : World} (h : Bd B s w) (hb : Below w.heap.size w w') : Bd B s w' := ⟨builder_below h.1 hb, Nat.le_trans h.2 hb.size⟩
theorem Bd.new (w : World) : Bd w.heap.size ByteArray.empty (w.alloc (.cells #[.pointer none, .slice none 0 0] 44)) :=
  ⟨Or.inl ⟨Nat.le_refl _, .slice none 0 0, heap_alloc_new w _, World.ownsRow_nil _ _ _ _, by simp [Value.ownBlock]⟩, by simp⟩
theorem bd_write {B : Nat} {s t : ByteArray} {w : World} (h : Bd B s w) (hl : s.size + t.size ≤ 140737488355328) : Calls Tryz.prog 9 #[.pointer (some ⟨B, 0, none⟩), .string t] w fun e w' => e = .returned (.tuple #[.int .i64 t.size, .nilIface]) ∧ Bd B (s ++ t) w' ∧ Below B w w' := by
  refine (Tryz.Builder_WriteString B B (Lib.byteCells s.data.toList) t w h.1 (by rw [Lib.byteCells_length, ← size_L]; exact hl) h.2).mono ?_
  rintro e w' ⟨rfl, hB, hb⟩
  refine ⟨rfl, ⟨Or.inr ?_, Nat.le_trans h.2 hb.size⟩, hb⟩
  have e : Lib.byteCells (s ++ t).data.toList = Lib.byteCells s.data.toList ++ Lib.strCells t := by
    rw [Lib.strCells_eq, ← Lib.byteCells_append]
    congr 1
  rw [e]
  exact hB
theorem bd_str {B : Nat} {s : ByteArray} {w : World} (h : Bd B s w) : Calls Tryz.prog 12 #[.pointer (some ⟨B, 0, none⟩)] w fun e w' => e = .returned (.string s) ∧ Below B w w' := by
  refine (Tryz.Builder_String_any B B s.data.toList w h.1 h.2).mono ?_
  rintro e w' ⟨rfl, hb⟩
  exact ⟨by rw [mk_toL], hb⟩
theorem print_zero {o : Ob} {s : ByteArray} {c : Int} (ok : okO o) (h : PrintIs o s c) : c = 0 := by
  rcases h with ⟨_, _, h⟩ | ⟨h, _⟩
  · exact h
  · exact absurd ok h
def PrintAllPost (l : List Ob) (w : World) (e : Ending) (w' : World) : Prop := ∃ (s : ByteArray) (c : Int), e = .returned (.tuple #[.string s, .int .i64 c]) ∧ PrintAllIs l s c ∧ Below w.heap.size w w'
end Ow
end Go.Proofs.YtafeigpmldgifaaGreatDoor
/-
  strings.IndexRune at a rune that is no ASCII, in a string of ASCII: it is not there.
-/
namespace Go.Proofs.YtafeigpmldgifaaGreatDoor
namespace Dw
open Go.RowKit Dp Lw

theorem idx_none (l : List UInt8) (c : UInt8) (h : ∀ b ∈ l, b ≠ c) : Lib.indexByte l c = -1 := by
  induction l with
  | nil => rfl
  | cons a l ih =>
    have h1 : (a == c) = false := by simpa using h a (List.mem_cons_self ..)
    rw [Lib.indexByte, h1, ih (fun b hb => h b (List.mem_cons_of_mem _ hb))]
    rfl
theorem idx_ascii (s : ByteArray) (a e : Nat) (c : UInt8) (hs : ∀ b ∈ s.data.toList, b.toNat < 128) (hc : 128 ≤ c.toNat) : Lib.indexByte (s.extract a e).data.toList c = -1 :=
  idx_none _ _ fun b hb hbc => by have := hs b (mem_extract hb); rw [hbc] at this; omega
theorem get_mem (s : ByteArray) (k : Nat) (h : k < s.size) : s[k] ∈ s.data.toList := Array.getElem_mem_toList (xs := s.data) h
theorem below_iter (w : World) (s : ByteArray) (k : Nat) : Below w.heap.size w (w.iter s k) := (Below.refl _ _).alloc (Nat.le_refl _) _
end Dw
end Go.Proofs.YtafeigpmldgifaaGreatDoor
/-
  strings.IndexRune at a rune that is no ASCII, in a string of ASCII: it is not there.
-/
namespace Go.Proofs.YtafeigpmldgifaaGreatDoor
namespace Dw
open Go.RowKit Dp Lw
def digS (b : Nat) : ByteArray := ⟨((List.range b).map dig62).toArray⟩
/-- The place of a rune among the first digits, or -1. -/
def idxR (b : Nat) (r : Int) : Int := if r < 128 ∧ worthN (UInt8.ofNat r.toNat) < b then (worthN (UInt8.ofNat r.toNat) : Int) else -1
theorem idx_10 : ∀ r : Nat, r < 128 → Lib.indexByte (digS 10).data.toList r.toUInt8 = idxR 10 r := by decide +kernel
theorem idx_62 : ∀ r : Nat, r < 128 → Lib.indexByte (digS 62).data.toList r.toUInt8 = idxR 62 r := by decide +kernel
theorem digS_ascii : ∀ b, b = 10 ∨ b = 62 → (∀ x ∈ (digS b).data.toList, x.toNat < 128) ∧ (digS b).size = b := by
  rintro b (rfl | rfl)
  · exact ⟨by decide +kernel, rfl⟩
  · exact ⟨by decide +kernel, rfl⟩
end Dw
end Go.Proofs.YtafeigpmldgifaaGreatDoor
/-
  The walk of whole of package desig: the number in the digits of a string.
-/
namespace Go.Proofs.YtafeigpmldgifaaGreatDoor
namespace Dw
open Go.RowKit Dp Lw

theorem take_snoc (s : ByteArray) (k : Nat) (h : k < s.size) : s.data.toList.take (k + 1) = s.data.toList.take k ++ [s[k]] := by
  rw [List.take_succ_eq_append_getElem (by simpa using h)]; rfl
theorem take_all (s : ByteArray) (k : Nat) (h : ¬ k < s.size) : s.data.toList.take k = s.data.toList := List.take_of_length_le (by simp; omega)
theorem valN_app (b : Nat) (hb : 1 ≤ b) (l m : List UInt8) : valN b l ≤ valN b (l ++ m) := by
  induction m generalizing l with
  | nil => simp
  | cons c m ih =>
    have h := ih (l ++ [c])
    rw [List.append_assoc, List.singleton_append, valN_snoc] at h
    have := Nat.le_mul_of_pos_right (valN b l) hb
    omega
theorem valN_take (b : Nat) (hb : 1 ≤ b) (l : List UInt8) (k : Nat) : valN b (l.take k) ≤ valN b l := by
  have := valN_app b hb (l.take k) (l.drop k)
  rwa [List.take_append_drop] at this
/-- What the loop keeps. -/
structure WInv (b : Nat) (s : ByteArray) (k : Nat) : Prop where
  all : allW b (s.data.toList.take k)
  hi : valN b (s.data.toList.take k) ≤ 954572831
theorem WInv.start (b : Nat) (s : ByteArray) : WInv b s 0 := ⟨allW_nil b, by simp [valN]⟩
def valI (b : Nat) (s : ByteArray) (k : Nat) : Int := (valN b (s.data.toList.take k) : Int)
theorem valI_0 (b : Nat) (s : ByteArray) : valI b s 0 = 0 := rfl
theorem valI_bd {b : Nat} {s : ByteArray} {k : Nat} (h : WInv b s k) : 0 ≤ valI b s k ∧ valI b s k ≤ 954572831 := by
  have := h.hi
  unfold valI
  omega
theorem WInv.next {b : Nat} {s : ByteArray} {k : Nat} (h : WInv b s k) (hb : b ≤ 62) (hk : k < s.size) (hw : worthN s[k] < b) (hv : valI b s k ≤ 15396335) : WInv b s (k + 1) ∧ valI b s (k + 1) = valI b s k * b + worthN s[k] := by
  have e := take_snoc s k hk
  have v : valN b (s.data.toList.take (k + 1)) = valN b (s.data.toList.take k) * b + worthN s[k] := by rw [e, valN_snoc]
  have m : valN b (s.data.toList.take k) * b ≤ 15396335 * 62 := Nat.mul_le_mul (by unfold valI at hv; omega) hb
  refine ⟨⟨by rw [e]; exact allW_snoc h.all hw, by omega⟩, ?_⟩
  unfold valI
  rw [v]
  simp
theorem WInv.over {b : Nat} {s : ByteArray} {k : Nat} (hb : 1 ≤ b) (hv : ¬ valI b s k ≤ 15396335) : WholeIs b s.data.toList 0 false :=
  ⟨by omega, by omega, (fun h => by cases h), fun _ => ⟨rfl, fun g => by have := valN_take b hb s.data.toList k; unfold valI at hv; omega⟩⟩
theorem WInv.none {b : Nat} {s : ByteArray} {k : Nat} (hk : k < s.size) (hw : ¬ worthN s[k] < b) : WholeIs b s.data.toList 0 false :=
  ⟨by omega, by omega, (fun h => by cases h), fun _ => ⟨rfl, fun g => hw (g.1 _ (get_mem s k hk))⟩⟩
theorem WInv.fin {b : Nat} {s : ByteArray} {k : Nat} (h : WInv b s k) (hk : ¬ k < s.size) (ok : Bool) (ho : ok = decide (s.size ≠ 0)) : WholeIs b s.data.toList (valI b s k) ok := by
  have e := take_all s k hk
  have bd := valI_bd h
  have ha := h.all
  rw [e] at ha
  have hl : s.data.toList.length = s.size := by simp
  refine ⟨bd.1, by omega, fun g => ⟨ha, ?_, by unfold valI; rw [e]⟩, fun g => ?_⟩
  · rw [g] at ho
    have := of_decide_eq_true ho.symm
    intro z
    rw [z] at hl
    exact this hl.symm
  · rw [g] at ho
    have z := of_decide_eq_false ho.symm
    have z' : s.data.toList = [] := List.eq_nil_of_length_eq_zero (by omega)
    refine ⟨by unfold valI; rw [e, z']; rfl, fun g => g.2.1 z'⟩
theorem idxR_yes {b : Nat} {c : UInt8} (h : c.toNat < 128) (hw : worthN c < b) : idxR b (c.toNat : Int) = worthN c := by
  unfold idxR
  rw [Int.toNat_natCast, UInt8.ofNat_toNat, if_pos ⟨by omega, hw⟩]
theorem idxR_no {b : Nat} {c : UInt8} (hw : ¬ worthN c < b) : idxR b (c.toNat : Int) = -1 := by
  unfold idxR
  rw [Int.toNat_natCast, UInt8.ofNat_toNat, if_neg (fun g => hw g.2)]
theorem idxR_high {b : Nat} {r : Int} (h : 128 ≤ r) : idxR b r = -1 := if_neg (fun g => by omega)
theorem worth_high {c : UInt8} (h : 128 ≤ c.toNat) : worthN c = 99 := by
  unfold worthN
  rw [if_neg (by omega), if_neg (by omega), if_neg (by omega)]
theorem size_data (s : ByteArray) : s.size = s.data.toList.length := by simp
theorem str_ne (s : ByteArray) : (!s.toList.isEmpty) = decide (s.size ≠ 0) := by
  rw [size_data s, Lib.toList_data]
  cases s.data.toList <;> simp
def WholePost (b : Nat) (s : ByteArray) (w : World) (e : Ending) (w' : World) : Prop := ∃ (n : Int) (ok : Bool), e = .returned (.tuple #[.int .i64 n, .bool ok]) ∧ WholeIs b s.data.toList n ok ∧ Below w.heap.size w w'
theorem dig10 : (⟨#[48, 49, 50, 51, 52, 53, 54, 55, 56, 57, 65, 66, 67, 68, 69, 70, 71, 72, 73, 74, 75, 76, 77, 78, 79, 80, 81, 82, 83, 84, 85, 86, 87, 88, 89, 90, 97, 98, 99, 100, 101, 102, 103, 104, 105, 106, 107, 108, 109, 110, 111, 112, 113, 114, 115, 116, 117, 118, 119, 120, 121, 122]⟩ : ByteArray).extract 0 10 = digS 10 := by decide +kernel
theorem dig62' : (⟨#[48, 49, 50, 51, 52, 53, 54, 55, 56, 57, 65, 66, 67, 68, 69, 70, 71, 72, 73, 74, 75, 76, 77, 78, 79, 80, 81, 82, 83, 84, 85, 86, 87, 88, 89, 90, 97, 98, 99, 100, 101, 102, 103, 104, 105, 106, 107, 108, 109, 110, 111, 112, 113, 114, 115, 116, 117, 118, 119, 120, 121, 122]⟩ : ByteArray).extract 0 62 = digS 62 := by decide +kernel
end Dw
end Go.Proofs.YtafeigpmldgifaaGreatDoor
/-
  The walks of place, isHalf and Check of package desig, and of HalfLetter, orderLetter and Check of the reference.
-/
namespace Go.Proofs.YtafeigpmldgifaaGreatDoor
namespace Dw
open Go.RowKit Dp Lw

theorem ret_int {k : IntKind} {a b : Int} (h : a = b) : Ending.returned (.int k a) = .returned (.int k b) := by rw [h]
theorem ret_bool {a b : Bool} (h : a = b) : Ending.returned (.bool a) = .returned (.bool b) := by rw [h]

theorem gOrd : Tryz.prog.globalNamed "planisphere/desig.orders" = some 0 := by kernel_rfl
/-- The table of the order letters holds what its initialiser lays. -/
def Tab (w : World) : Prop := Lib.TabIs Tryz.prog w "planisphere/desig.orders" .i32 ordL
theorem Tab.below {w w' : World} (h : Tab w) (hb : Below w.heap.size w w') : Tab w' := Joins.tab_stays gOrd h hb (Nat.le_refl _)
theorem Tab.alloc {w : World} (h : Tab w) (o : Obj) : Tab (w.alloc o) := h.below ((Below.refl _ _).alloc (Nat.le_refl _) _)
theorem Tab.cell {w : World} (h : Tab w) (j : Nat) (hj : j < 25) : w.cell? ⟨0, j, none⟩ = some (.int .i32 (ordAt j)) := Lib.TabIs.cell h gOrd j hj

set_option maxHeartbeats 400000 in
theorem index_any (c : Int) (w : World) (hT : Tab w) (h0 : 0 ≤ c) (h1 : c < 256) :
    Calls Tryz.prog 42 #[.slice (some ⟨0, 0, none⟩) 25 25, .int .i32 c] w fun e w' => e = .returned (.int .i64 (placeI c)) ∧ w = w' := by
  go_enter Tryz.func42, Tryz.ntmps42
  go_wp2
  go_loop [5, 8] (fun x i => ∃ j : Nat, j ≤ 25 ∧ i = .int .i64 j ∧ Before c j) (fun _ i => 25 - (intOf i).toNat)
  case atStart => exact ⟨0, by omega, rfl, before_0 c⟩
  case round =>
    obtain ⟨j, hj, rfl, hB⟩ := hrel
    by_cases hlt : j < 25
    · have ck := hT.cell j hlt
      have i1 : (j : Int) < 25 := by omega
      by_cases he : ordAt j = c
      · have e1 : (c == ordAt j) = true := beq_iff_eq.2 he.symm
        have hp := Lib.hid (place_ord j hlt)
        have He := Lib.hid he
        clear he
        go_wp2
        go_ret
        exact ⟨ret_int (by rw [← He.out, hp.out]), rfl⟩
      · have e1 : (c == ordAt j) = false := beq_eq_false_iff_ne.2 (fun e => he e.symm)
        have HB := Lib.hid (before_s hB he)
        clear he hB
        go_wp2
        go_round
        case rel => exact ⟨j + 1, by omega, by go_num, HB.out⟩
        case measure => simp [intOf]; omega
    · obtain rfl : j = 25 := by omega
      have hp := Lib.hid (place_none h0 h1 hB)
      go_wp2
      go_ret
      exact ⟨ret_int hp.out.symm, rfl⟩

set_option maxHeartbeats 400000 in
theorem place_any (c : Int) (w : World) (hT : Tab w) (h0 : 0 ≤ c) (h1 : c < 256) :
    Calls Tryz.prog 24 #[.int .u8 c] w fun e w' => e = .returned (.int .i64 (placeI c)) ∧ w = w' := by
  go_enter Tryz.func24, Tryz.ntmps24
  go_wp2_with fail
  refine (index_any _ _ hT h0 h1).mono ?_
  rintro e w' ⟨rfl, rfl⟩
  go_wp2_with fail
  go_ret
  exact ⟨rfl, rfl⟩

set_option maxHeartbeats 400000 in
theorem isHalf_any (c : Int) (w : World) (hT : Tab w) (h0 : 0 ≤ c) (h1 : c < 256) :
    Calls Tryz.prog 23 #[.int .u8 c] w fun e w' => e = .returned (.bool (decide (0 ≤ placeI c) && decide (placeI c < 24))) ∧ w = w' := by
  go_enter Tryz.func23, Tryz.ntmps23
  go_wp2_with fail
  refine (place_any _ _ hT h0 h1).mono ?_
  rintro e w' ⟨rfl, rfl⟩
  go_wp2_with fail
  all_goals
    go_ret
    exact ⟨ret_bool (by first | (simp [*]; done) | (simp; omega)), rfl⟩

abbrev desigV (n y h s c : Int) : Value := .agg #[.int .i64 n, .int .i64 y, .int .u8 h, .int .u8 s, .int .i64 c]

set_option maxHeartbeats 2000000 in
theorem check_any (n y h s c : Int) (w : World) (hT : Tab w) (h0 : 0 ≤ h) (h1 : h < 256) (s0 : 0 ≤ s) (s1 : s < 256) :
    Calls Tryz.prog 15 #[desigV n y h s c] w fun e w' => e = .returned (.int .i64 (errC n y h s c)) ∧ Below w.heap.size w w' := by
  have hT2 : ∀ o o', Tab ((w.alloc o).alloc o') := fun o o' => (hT.alloc o).alloc o'
  have hhP := Lib.hid (halfP_iff h)
  have hsP := Lib.hid (secP_iff s)
  have HT2 := Lib.hid hT2
  clear hT2
  by_cases hn : n = 0
  · subst hn
    by_cases hc : c ≤ 619
    · have d1 : decide (c ≤ 619) = true := by simpa using hc
      go_enter Tryz.func15, Tryz.ntmps15
      go_wp2_with (first | (go_at_call 23; refine (isHalf_any _ _ (HT2.out _ _) h0 h1).mono ?_; rintro e w' ⟨rfl, rfl⟩) | (go_at_call 24; refine (place_any _ _ (HT2.out _ _) s0 s1).mono ?_; rintro e w' ⟨rfl, rfl⟩))
      all_goals go_ret
      all_goals
        refine ⟨ret_int ?_, ((Below.refl _ _).alloc (Nat.le_refl _) _).alloc (by simp) _⟩
        have g1 := hhP.out
        have g2 := hsP.out
        unfold halfP at g1
        unfold secP at g2
        unfold errC okD halfP secP
        first | exact (if_pos (by omega)).symm | exact (if_neg (by omega)).symm
    · have d1 : decide (c ≤ 619) = false := by simpa using hc
      go_enter Tryz.func15, Tryz.ntmps15
      go_wp2_with (first | (go_at_call 23; refine (isHalf_any _ _ (HT2.out _ _) h0 h1).mono ?_; rintro e w' ⟨rfl, rfl⟩) | (go_at_call 24; refine (place_any _ _ (HT2.out _ _) s0 s1).mono ?_; rintro e w' ⟨rfl, rfl⟩))
      all_goals go_ret
      all_goals
        refine ⟨ret_int ?_, ((Below.refl _ _).alloc (Nat.le_refl _) _).alloc (by simp) _⟩
        have g1 := hhP.out
        have g2 := hsP.out
        unfold halfP at g1
        unfold secP at g2
        unfold errC okD halfP secP
        first | exact (if_pos (by omega)).symm | exact (if_neg (by omega)).symm
  · have e1 : (n != 0) = true := bne_iff_ne.2 hn
    by_cases hc : n ≤ 15396335
    · have d1 : decide (n ≤ 15396335) = true := by simpa using hc
      go_enter Tryz.func15, Tryz.ntmps15
      go_wp2_with (first | (go_at_call 23; refine (isHalf_any _ _ (HT2.out _ _) h0 h1).mono ?_; rintro e w' ⟨rfl, rfl⟩) | (go_at_call 24; refine (place_any _ _ (HT2.out _ _) s0 s1).mono ?_; rintro e w' ⟨rfl, rfl⟩))
      all_goals go_ret
      all_goals
        refine ⟨ret_int ?_, ((Below.refl _ _).alloc (Nat.le_refl _) _).alloc (by simp) _⟩
        have g1 := hhP.out
        have g2 := hsP.out
        unfold halfP at g1
        unfold secP at g2
        unfold errC okD halfP secP
        first | exact (if_pos (by omega)).symm | exact (if_neg (by omega)).symm
    · have d1 : decide (n ≤ 15396335) = false := by simpa using hc
      go_enter Tryz.func15, Tryz.ntmps15
      go_wp2_with (first | (go_at_call 23; refine (isHalf_any _ _ (HT2.out _ _) h0 h1).mono ?_; rintro e w' ⟨rfl, rfl⟩) | (go_at_call 24; refine (place_any _ _ (HT2.out _ _) s0 s1).mono ?_; rintro e w' ⟨rfl, rfl⟩))
      all_goals go_ret
      all_goals
        refine ⟨ret_int ?_, ((Below.refl _ _).alloc (Nat.le_refl _) _).alloc (by simp) _⟩
        have g1 := hhP.out
        have g2 := hsP.out
        unfold halfP at g1
        unfold secP at g2
        unfold errC okD halfP secP
        first | exact (if_pos (by omega)).symm | exact (if_neg (by omega)).symm
end Dw
end Go.Proofs.YtafeigpmldgifaaGreatDoor
/-
  Texts of numbers: strconv.Itoa and pad of package desig; letter, digit of the reference.
-/
namespace Go.Proofs.YtafeigpmldgifaaGreatDoor
namespace Dw
open Go.RowKit Dp Lw

theorem gPow : Tryz.prog.globalNamed "internal/strconv.uint64pow10" = some 4 := by kernel_rfl
/-- The tables hold what their initialisers lay. -/
structure Tb (w : World) : Prop where
  ord : Tab w
  pow : Lib.TabIs Tryz.prog w "internal/strconv.uint64pow10" .u64 Lib.pow10Tab
theorem Tb.below {w w' : World} (h : Tb w) (hb : Below w.heap.size w w') : Tb w' := ⟨h.ord.below hb, Joins.tab_stays gPow h.pow hb (Nat.le_refl _)⟩
theorem below_grow (w : World) (k : Nat) (os : Array Obj) : Below w.heap.size w (Go.Sort.grow (w.drewN k) os) :=
  ⟨rfl, rfl, rfl, by simp [Go.Sort.grow, World.drewN], fun j hj => by
    show (w.heap ++ os)[j]? = w.heap[j]?
    rw [Array.getElem?_append_left hj]⟩
theorem str_app (a b : List UInt8) : ((⟨a.toArray⟩ : ByteArray) ++ ⟨b.toArray⟩) = ⟨(a ++ b).toArray⟩ := by
  apply ByteArray.ext
  simp [ByteArray.data_append]
theorem size_mk (l : List UInt8) : (⟨l.toArray⟩ : ByteArray).size = l.length := by simp [ByteArray.size]
theorem itoa_any (n : Int) (w : World) (hT : Tb w) (h0 : 0 ≤ n) (h1 : n ≤ 1000000000000000000) :
    Calls Tryz.prog 16 #[.int .i64 n] w fun e w' => e = .returned (.string ⟨(Lib.itoa n).toArray⟩) ∧ Below w.heap.size w w' :=
  (Tryz.strconv_Itoa n (by omega) (by omega) w hT.pow).mono fun _ _ ⟨x, k, os, y⟩ => ⟨x, by rw [y]; exact below_grow w k os⟩

theorem b8_cell {x : Int} (h0 : 0 ≤ x) (h1 : x < 256) : Value.int .u8 x = .int .u8 ((b8 x).toNat : Int) := by rw [b8_of h0 h1]
/-- A new row of two bytes, as a string. -/
theorem conv2 (w : World) (x y : Int) (c : Nat) (h0 : 0 ≤ x) (h1 : x < 256) (k0 : 0 ≤ y) (k1 : y < 256) (g : Nat) (hg : w.cell? ⟨g, 0, none⟩ = some (.int .u8 x)) (hg1 : w.cell? ⟨g, 1, none⟩ = some (.int .u8 y)) :
    (convert 42 9 (.slice (some ⟨g, 0, none⟩) 2 c)).run Tryz.prog w = .ok (.string ⟨[b8 x, b8 y].toArray⟩) w :=
  run_convert_bytes_back (P := Tryz.prog) w 42 9 5 ⟨g, 0, none⟩ c [b8 x, b8 y] Tryz.underlying42 Tryz.underlying5 Tryz.underlying9 (fun j hj => by
    match j, hj with
    | 0, _ => show w.cell? ⟨g, 0, none⟩ = _; rw [hg, b8_cell h0 h1]; rfl
    | 1, _ => show w.cell? ⟨g, 1, none⟩ = _; rw [hg1, b8_cell k0 k1]; rfl)
theorem conv1 (w : World) (x : Int) (c : Nat) (h0 : 0 ≤ x) (h1 : x < 256) (g : Nat) (hg : w.cell? ⟨g, 0, none⟩ = some (.int .u8 x)) :
    (convert 42 9 (.slice (some ⟨g, 0, none⟩) 1 c)).run Tryz.prog w = .ok (.string ⟨[b8 x].toArray⟩) w :=
  run_convert_bytes_back (P := Tryz.prog) w 42 9 5 ⟨g, 0, none⟩ c [b8 x] Tryz.underlying42 Tryz.underlying5 Tryz.underlying9 (fun j hj => by
    match j, hj with
    | 0, _ => show w.cell? ⟨g, 0, none⟩ = _; rw [hg, b8_cell h0 h1]; rfl)
theorem letter_any (c : Int) (w : World) (h0 : 0 ≤ c) (h1 : c < 256) :
    Calls Tryz.prog 39 #[.int .u8 c] w fun e w' => e = .returned (.string ⟨[b8 c].toArray⟩) ∧ Below w.heap.size w w' := by
  have C := conv1 (w.alloc (.cells #[.int .u8 c] 5)) c 1 h0 h1 w.heap.size (World.cell?_alloc_mark w _ _ _ 0)
  go_enter Tryz.func39, Tryz.ntmps39
  go_wp2_with fail
  go_ret
  exact ⟨rfl, (Below.refl _ _).alloc (Nat.le_refl _) _⟩
end Dw
end Go.Proofs.YtafeigpmldgifaaGreatDoor
/-
  The walk of Next of package desig.
-/
namespace Go.Proofs.YtafeigpmldgifaaGreatDoor
namespace Dw
open Go.RowKit Dp Lw

abbrev desigC (n y u s c : Int) : List Value := [.int .i64 n, .int .i64 y, .int .u8 u, .int .u8 s, .int .i64 c]
theorem info5d : (Tryz.prog.info? 34).map (·.size) = some 5 := by kernel_rfl
/-- A list of designations in memory. -/
structure Lst (w : World) (b off n : Nat) (L : Ls) : Prop where
  row : ∀ k, k < n → w.rangeAt b (off + k * 5) (desigC (L.N k) (L.Y k) (L.U k) (L.S k) (L.C k))
  lt : b < w.heap.size
  u0 : ∀ k, k < n → 0 ≤ L.U k
  u1 : ∀ k, k < n → L.U k < 256
  s0 : ∀ k, k < n → 0 ≤ L.S k
  s1 : ∀ k, k < n → L.S k < 256

def NextPost (L : Ls) (n : Nat) (y h : Int) (w : World) (e : Ending) (w' : World) : Prop := ∃ rn ry rh rs rc k : Int, e = .returned (.tuple #[desigV rn ry rh rs rc, .int .i64 k]) ∧ NextIs L n y h rn ry rh rs rc k ∧ Below w.heap.size w w'
theorem isHalf_dec {h : Int} (g : halfP h) : decide (0 ≤ placeI h) && decide (placeI h < 24) = true := by
  have := (halfP_iff h).1 g; simp; omega
theorem isHalf_dec_no {h : Int} (g : ¬ halfP h) : (decide (0 ≤ placeI h) && decide (placeI h < 24)) = false := by
  have : ¬ (0 ≤ placeI h ∧ placeI h < 24) := fun e => g ((halfP_iff h).2 e)
  simp; omega

end Dw
end Go.Proofs.YtafeigpmldgifaaGreatDoor
