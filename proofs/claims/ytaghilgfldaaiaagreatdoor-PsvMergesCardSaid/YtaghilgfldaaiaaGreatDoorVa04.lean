/-
  Lemmas and walks, texts joined: OCheck, Shelf2, TPad, TClk, PRRa, PDSpec, Pl, TTurn, TRa, OMag, OBlank, OTrim, PTrim, BPl, BPl2, OLine, OPut, OLine2, OSeg, ORTxt, ORMag, OGood, OName, OMgPl, OCand, OMgW, MRDay, MTDAny, OPrint, PRa, OParse, OParse2, OGood2, OAny, OAllPl, OCmpPl, VMrPl.
-/
import Derived.Deep.Cut
import Derived.Lib.SmallJoins
import Derived.Lib.LaidTab
import Derived.Laws.Concat
import Derived.Lib.Join
import Derived.Lib.Repeat
import Derived.Lib.ItoaLen
import Derived.Sort.Grow
import Derived.Deep.OwnRows
import Derived.WalkKit
import Derived.Deep.QuietTactic
import Derived.ProofKit
import Derived.Outline
import Derived.Lib.Hide
import Derived.BigQuiet
import Derived.WalkLawsBesides
import Derived.WalkSpells
import Derived.Laws.IdiomCopy
import Derived.Laws.DeepBits32
import Derived.RegionTactic
import Derived.BigRegion
import Derived.StillTailTactics
import Derived.Test.YtaghilgfldaaiaaGreatDoorVa03
import Derived.Test.YtaghilgfldaaiaaGreatDoorVa01
import Derived.Test.YtaghilgfldaaiaaGreatDoorVa02
import Derived.Test.YtaghilgfldaaiaaGreatDoorRows
set_option linter.unusedSimpArgs false
set_option linter.unusedVariables false
/-
  The walks of Check of package obs and of the reference.
-/
namespace Go.Proofs.YtaghilgfldaaiaaGreatDoor
namespace Ow
open Go.RowKit Lw Go.Proofs.YtaghilgfldaaiaaGreatDoor.Ap Go.Proofs.YtaghilgfldaaiaaGreatDoor.Op Go.Proofs.YtaghilgfldaaiaaGreatDoor.Mp Go.Proofs.YtaghilgfldaaiaaGreatDoor.Mw

def TimePost (t : Int) (w : World) (e : Ending) (w' : World) : Prop := ∃ y m d h i s u c : Int, e = .returned (.tuple #[dateV y m d h i s u, .int .i64 c]) ∧ ((timeP t ∧ c = 0) ∨ (¬ timeP t ∧ c = 16)) ∧ Below w.heap.size w w'
theorem time_any (t : Int) (w : World) (h0 : -9223372036854775808 ≤ t) (h1 : t ≤ 9223372036854775807) : Calls Tryz.prog 118 #[.int .i64 t] w (TimePost t w) := by
  by_cases h : t < bgv (-10227) 1972 1 ∨ bgv 36525 2100 1 ≤ t
  · exact (toutc_out t w h0 h1 h).mono fun e w' ⟨he, hb⟩ => ⟨0, 0, 0, 0, 0, 0, 0, 16, he, Or.inr ⟨fun g => by unfold timeP at g; omega, rfl⟩, hb⟩
  · obtain ⟨n, y, m, z, k, hd⟩ := day_ex t (by omega) (by omega)
    exact (toutc_in t n y m z k w hd (by omega) (by omega)).mono fun e w' ⟨he, hb⟩ => ⟨_, _, _, _, _, _, _, _, he, Or.inl ⟨by unfold timeP; omega, rfl⟩, hb⟩
theorem rtime_any (t : Int) (w : World) (h0 : -9223372036854775808 ≤ t) (h1 : t ≤ 9223372036854775807) : Calls Tryz.prog 39 #[.int .i64 t] w (TimePost t w) := by
  by_cases h : t < bgv (-10227) 1972 1 ∨ bgv 36525 2100 1 ≤ t
  · exact (rtoutc_out t w h0 h1 h).mono fun e w' ⟨he, hb⟩ => ⟨0, 0, 0, 0, 0, 0, 0, 16, he, Or.inr ⟨fun g => by unfold timeP at g; omega, rfl⟩, hb⟩
  · obtain ⟨n, y, m, z, k, hd⟩ := day_ex t (by omega) (by omega)
    exact (rtoutc_in t n y m z k w hd (by omega) (by omega)).mono fun e w' ⟨he, hb⟩ => ⟨_, _, _, _, _, _, _, _, he, Or.inl ⟨by unfold timeP; omega, rfl⟩, hb⟩
/-- An observation in its box. -/
structure OX (w0 : World) (b : Nat) (o : Ob) (w : World) : Prop where
  below : Below w0.heap.size w0 w
  lt : b < w.heap.size
  row : w.rangeAt b 0 (obsC o)
theorem OX.call {w0 w w' : World} {b : Nat} {o : Ob} (h : OX w0 b o w) (hb : Below w.heap.size w w') : OX w0 b o w' := ⟨below_then h.below hb, Nat.lt_of_lt_of_le h.lt hb.size, rangeAt_below h.row hb h.lt⟩
theorem OX.new (w : World) (o : Ob) : OX w w.heap.size o (w.alloc (.cells (obsC o).toArray 33)) := ⟨(Below.refl _ _).alloc (Nat.le_refl _) _, by simp, rangeAt_new w _ _⟩
/-- The numbers of an observation are in their ranges. -/
def rngP (ra dec sg : Int) : Prop := 0 ≤ ra ∧ ra < 1296000000000 ∧ -324000000000 ≤ dec ∧ dec ≤ 324000000000 ∧ 1 ≤ sg ∧ sg ≤ 10000000000
instance (ra dec sg : Int) : Decidable (rngP ra dec sg) := by unfold rngP; infer_instance
theorem rng_cases (ra dec sg : Int) : rngP ra dec sg ∨ (¬ rngP ra dec sg ∧ (ra < 0 ∨ (0 ≤ ra ∧ 1296000000000 ≤ ra) ∨ (0 ≤ ra ∧ ra < 1296000000000 ∧ dec < -324000000000) ∨ (0 ≤ ra ∧ ra < 1296000000000 ∧ -324000000000 ≤ dec ∧ 324000000000 < dec) ∨ (0 ≤ ra ∧ ra < 1296000000000 ∧ -324000000000 ≤ dec ∧ dec ≤ 324000000000 ∧ sg < 1) ∨ (0 ≤ ra ∧ ra < 1296000000000 ∧ -324000000000 ≤ dec ∧ dec ≤ 324000000000 ∧ 1 ≤ sg ∧ 10000000000 < sg))) := by
  unfold rngP; omega
theorem mag_cases (m b : Int) : (m = 9999 ∧ b = 32 ∧ magP m b) ∨ (m ≠ 9999 ∧ b = 32 ∧ m < -500 ∧ ¬ magP m b) ∨ (m ≠ 9999 ∧ b = 32 ∧ -500 ≤ m ∧ 3000 < m ∧ ¬ magP m b) ∨ (m ≠ 9999 ∧ b = 32 ∧ -500 ≤ m ∧ m ≤ 3000 ∧ magP m b) ∨
    (b ≠ 32 ∧ m < -500 ∧ ¬ magP m b) ∨ (b ≠ 32 ∧ -500 ≤ m ∧ 3000 < m ∧ m ≠ 9999 ∧ ¬ magP m b) ∨ (b ≠ 32 ∧ m = 9999 ∧ ¬ magP m b) ∨ (b ≠ 32 ∧ -500 ≤ m ∧ m ≤ 3000 ∧ m ≠ 9999 ∧ (magP m b ↔ ltP b)) := by
  by_cases hb : b = 32
  · by_cases h9 : m = 9999
    · exact Or.inl ⟨h9, hb, Or.inl ⟨h9, hb⟩⟩
    · by_cases h1 : m < -500
      · exact Or.inr (Or.inl ⟨h9, hb, h1, fun g => by unfold magP at g; omega⟩)
      · by_cases h2 : 3000 < m
        · exact Or.inr (Or.inr (Or.inl ⟨h9, hb, by omega, h2, fun g => by unfold magP at g; omega⟩))
        · exact Or.inr (Or.inr (Or.inr (Or.inl ⟨h9, hb, by omega, by omega, Or.inr ⟨by omega, by omega, Or.inl hb⟩⟩)))
  · refine Or.inr (Or.inr (Or.inr (Or.inr ?_)))
    by_cases h1 : m < -500
    · exact Or.inl ⟨hb, h1, fun g => by unfold magP at g; omega⟩
    · by_cases h9 : m = 9999
      · exact Or.inr (Or.inr (Or.inl ⟨hb, h9, fun g => by unfold magP at g; omega⟩))
      · by_cases h2 : 3000 < m
        · exact Or.inr (Or.inl ⟨hb, by omega, h2, h9, fun g => by unfold magP at g; omega⟩)
        · refine Or.inr (Or.inr (Or.inr ⟨hb, by omega, by omega, h9, fun g => ?_, fun g => Or.inr ⟨by omega, by omega, Or.inr g⟩⟩))
          rcases g with ⟨_, g⟩ | ⟨_, _, g | g⟩
          · exact absurd g hb
          · exact absurd g hb
          · exact g
/-- What is asked of an observation, but for its magnitude. -/
def preB (o : Ob) : Bool := decide (timeP o.t ∧ nameP o.name ∧ o.site.size = 3 ∧ wordP o.site.data.toList ∧ rngP o.ra o.dec o.sg)
/-- The first four of these. -/
def preA (o : Ob) : Bool := decide (timeP o.t ∧ nameP o.name ∧ o.site.size = 3 ∧ wordP o.site.data.toList)
theorem preB_of (o : Ob) : preB o = (preA o && decide (rngP o.ra o.dec o.sg)) := by
  unfold preB preA
  rw [← Bool.decide_and]
  exact decide_eq_decide.2 ⟨fun ⟨a, b, c, d, e⟩ => ⟨⟨a, b, c, d⟩, e⟩, fun ⟨⟨a, b, c, d⟩, e⟩ => ⟨a, b, c, d, e⟩⟩
theorem okO_pre (o : Ob) : okO o ↔ preB o = true ∧ magP o.mag o.band := by
  unfold okO preB rngP
  rw [decide_eq_true_eq]
  constructor
  · rintro ⟨a, b, c, d, e, f, g, h, i, j, k⟩; exact ⟨⟨a, b, c, d, e, f, g, h, i, j⟩, k⟩
  · rintro ⟨⟨a, b, c, d, e, f, g, h, i, j⟩, k⟩; exact ⟨a, b, c, d, e, f, g, h, i, j, k⟩
theorem check_ok {o : Ob} (h : preB o = true) (g : magP o.mag o.band) : checkC o = 0 := if_pos ((okO_pre o).2 ⟨h, g⟩)
theorem check_m {o : Ob} (g : ¬ magP o.mag o.band) : checkC o = 8 := if_neg fun x => g ((okO_pre o).1 x).2
theorem check_p {o : Ob} (h : preB o = false) : checkC o = 8 := if_neg fun x => by rw [((okO_pre o).1 x).1] at h; cases h
set_option maxRecDepth 100000 in
set_option maxHeartbeats 16000000 in
theorem check_any (o : Ob) (w : World) (hE : ES w) (h0 : -9223372036854775808 ≤ o.t) (h1 : o.t ≤ 9223372036854775807) (b0 : 0 ≤ o.band) (b1 : o.band ≤ 255) (n1 : o.name.size ≤ maxLen) (n2 : o.site.size ≤ maxLen) :
    Calls Tryz.prog 68 #[obsV o] w fun e w' => e = .returned (.int .i64 (checkC o)) ∧ Below w.heap.size w w' := by
  have K1 := Lib.hid (fun (a : preB o = true) (b : magP o.mag o.band) => check_ok a b)
  have K2 := Lib.hid (fun (b : ¬ magP o.mag o.band) => check_m b)
  have K3 := Lib.hid (fun (b : preB o = false) => check_p b)
  have PD := Lib.hid (show preA o = decide (timeP o.t ∧ nameP o.name ∧ o.site.size = 3 ∧ wordP o.site.data.toList) from rfl)
  have PB := Lib.hid (preB_of o)
  have X0 := OX.new w o
  obtain ⟨nm, st, tt, ra, dec, sg, mg, bd⟩ := o
  simp only at h0 h1 b0 b1 n1 n2 K1 K2 PD PB
  generalize checkC ⟨nm, st, tt, ra, dec, sg, mg, bd⟩ = cc at *
  generalize preB ⟨nm, st, tt, ra, dec, sg, mg, bd⟩ = pb at *
  generalize preA ⟨nm, st, tt, ra, dec, sg, mg, bd⟩ = pa at *
  have C1 := Lib.hid (fun w' => time_any tt w' h0 h1)
  have C2 := Lib.hid (fun w' (h : ES w') => isName_any nm w' h n1)
  have C3 := Lib.hid (fun w' => isWord_any st w' n2)
  have HE := Lib.hid (hE.below X0.below)
  have q0 := X0.row 0 _ rfl
  have q1 := X0.row 1 _ rfl
  have q2 := X0.row 2 _ rfl
  have q3 := X0.row 3 _ rfl
  have q4 := X0.row 4 _ rfl
  have q5 := X0.row 5 _ rfl
  have q6 := X0.row 6 _ rfl
  have q7 := X0.row 7 _ rfl
  simp only [Nat.zero_add] at q0 q1 q2 q3 q4 q5 q6 q7
  have XX := Lib.hid X0
  have NB := Lib.hid (show nameB nm = true ↔ nameP nm from decide_eq_true_iff)
  have WB := Lib.hid (show wordB st.data.toList = true ↔ wordP st.data.toList from decide_eq_true_iff)
  clear hE X0 h0 h1 n1
  unfold maxLen at n2
  generalize nameB nm = nb at *
  generalize wordB st.data.toList = wb at *
  go_enter Tryz.func68, Tryz.ntmps68
  go_wp2_with fail
  refine (C1.out _).mono ?_
  rintro e w1 ⟨y, m, d, h, i, s, u, c, rfl, hc, hb⟩
  have bb := below_then hb ((Below.refl _ w1).alloc (Nat.le_refl _) (.cells (dateC y m d h i s u).toArray 75))
  have X1 := XX.out.call bb
  have lt1 : w.heap.size < w1.heap.size := by have := hb.size; simp at this; omega
  have HE1 := Lib.hid (HE.out.below bb)
  clear q0 q1 q2 q3 q4 q5 q6 q7
  have q0 := (XX.out.call hb).row 0 _ rfl
  have q1 := (XX.out.call hb).row 1 _ rfl
  have q2 := (XX.out.call hb).row 2 _ rfl
  have q3 := (XX.out.call hb).row 3 _ rfl
  have q4 := (XX.out.call hb).row 4 _ rfl
  have q5 := (XX.out.call hb).row 5 _ rfl
  have q6 := (XX.out.call hb).row 6 _ rfl
  have q7 := (XX.out.call hb).row 7 _ rfl
  simp only [Nat.zero_add] at q0 q1 q2 q3 q4 q5 q6 q7
  have XX1 := Lib.hid X1
  have HC := Lib.hid hc
  clear hb bb X1 XX HE C1 hc
  go_upto_region 2 with (refine wpList_store_new rfl _ (.tmp 3) (.tmp 12) rfl _ _ rfl rfl info7 rfl ?_ ?_; simp [Value.oneCell'])
  go_cut [5] (fun q wx => q = .bool pa ∧ OX w w.heap.size ⟨nm, st, tt, ra, dec, sg, mg, bd⟩ wx)
  case first =>
    rcases HC.out with ⟨ht, rfl⟩ | ⟨ht, rfl⟩
    · have HT := Lib.hid ht
      clear ht HC
      go_wp2_with (refine wpList_store_new rfl _ (.tmp 3) (.tmp 12) rfl _ _ rfl rfl info7 rfl ?_ ?_; simp [Value.oneCell'])
      refine (C2.out _ HE1.out).mono ?_
      rintro e w2 ⟨rfl, hb⟩
      have X2 := XX1.out.call hb
      clear q0 q1 q2 q3 q4 q5 q6 q7
      have q0 := X2.row 0 _ rfl
      have q1 := X2.row 1 _ rfl
      have q2 := X2.row 2 _ rfl
      have q3 := X2.row 3 _ rfl
      have q4 := X2.row 4 _ rfl
      have q5 := X2.row 5 _ rfl
      have q6 := X2.row 6 _ rfl
      have q7 := X2.row 7 _ rfl
      simp only [Nat.zero_add] at q0 q1 q2 q3 q4 q5 q6 q7
      have XX2 := Lib.hid X2
      clear hb X2 XX1 HE1 C2 lt1
      cases nb
      · have P := Lib.hid (PD.out.trans (decide_eq_false fun g => by have := NB.out.2 g.2.1; cases this))
        clear PD
        go_wp2_with fail
        go_meet
        exact ⟨by rw [P.out], XX2.out⟩
      · by_cases h3 : st.size = 3
        · have k3 : (st.size : Int) = 3 := by omega
          go_wp2_with fail
          refine (C3.out _).mono ?_
          rintro e w3 ⟨rfl, hb⟩
          have X3 := XX2.out.call hb
          clear q0 q1 q2 q3 q4 q5 q6 q7
          have q0 := X3.row 0 _ rfl
          have q1 := X3.row 1 _ rfl
          have q2 := X3.row 2 _ rfl
          have q3 := X3.row 3 _ rfl
          have q4 := X3.row 4 _ rfl
          have q5 := X3.row 5 _ rfl
          have q6 := X3.row 6 _ rfl
          have q7 := X3.row 7 _ rfl
          simp only [Nat.zero_add] at q0 q1 q2 q3 q4 q5 q6 q7
          have XX3 := Lib.hid X3
          clear hb X3 XX2 C3
          cases wb
          · have P := Lib.hid (PD.out.trans (decide_eq_false fun g => by have := WB.out.2 g.2.2.2; cases this))
            clear PD
            go_wp2_with fail
            go_meet
            exact ⟨by rw [P.out], XX3.out⟩
          · have P := Lib.hid (PD.out.trans (decide_eq_true ⟨HT.out, NB.out.1 (by first | rfl | trivial), h3, WB.out.1 (by first | rfl | trivial)⟩))
            clear PD h3 k3
            go_wp2_with fail
            go_meet
            exact ⟨by rw [P.out], XX3.out⟩
        · have P := Lib.hid (PD.out.trans (decide_eq_false fun g => h3 g.2.2.1))
          have k3 : ¬ (st.size : Int) = 3 := by omega
          clear PD
          go_wp2_with fail
          go_meet
          exact ⟨by rw [P.out], XX2.out⟩
    · have P := Lib.hid (PD.out.trans (decide_eq_false fun g => ht g.1))
      clear PD HC ht
      go_wp2_with (refine wpList_store_new rfl _ (.tmp 3) (.tmp 12) rfl _ _ rfl rfl info7 rfl ?_ ?_; simp [Value.oneCell'])
      go_meet
      exact ⟨by rw [P.out], XX1.out⟩
  case rest =>
    obtain ⟨rfl, X4⟩ := hcut
    clear q0 q1 q2 q3 q4 q5 q6 q7
    have q0 := X4.row 0 _ rfl
    have q1 := X4.row 1 _ rfl
    have q2 := X4.row 2 _ rfl
    have q3 := X4.row 3 _ rfl
    have q4 := X4.row 4 _ rfl
    have q5 := X4.row 5 _ rfl
    have q6 := X4.row 6 _ rfl
    have q7 := X4.row 7 _ rfl
    simp only [Nat.zero_add] at q0 q1 q2 q3 q4 q5 q6 q7
    have XX4 := Lib.hid X4
    clear X4 XX1 HE1 HC PD C2 C3 NB WB lt1
    go_upto_region 3 with (fail)
    go_cut [5] (fun q wx => q = .bool pb ∧ OX w w.heap.size ⟨nm, st, tt, ra, dec, sg, mg, bd⟩ wx)
    case first =>
      cases pa
      · have P2 := Lib.hid PB.out
        clear PB
        go_wp2_with fail
        go_meet
        exact ⟨by rw [P2.out]; rfl, XX4.out⟩
      · rcases rng_cases ra dec sg with g | ⟨g, g'⟩
        · have P2 := Lib.hid (PB.out.trans (by rw [decide_eq_true g]; rfl : _ = true))
          obtain ⟨r1, r2, r3, r4, r5, r6⟩ := g
          clear PB
          go_wp2_with fail
          go_meet
          exact ⟨by rw [P2.out], XX4.out⟩
        · have P2 := Lib.hid (PB.out.trans (by rw [decide_eq_false g]; rfl : _ = false))
          clear PB g
          rcases g' with r1 | ⟨r1, r2⟩ | ⟨r1, r2, r3⟩ | ⟨r1, r2, r3, r4⟩ | ⟨r1, r2, r3, r4, r5⟩ | ⟨r1, r2, r3, r4, r5, r6⟩
          all_goals
            go_wp2_with fail
            go_meet
            first
              | exact ⟨by rw [P2.out]; congr 1; exact decide_eq_false (by omega), XX4.out⟩
              | exact ⟨by rw [P2.out], XX4.out⟩
    case rest =>
      obtain ⟨rfl, X4⟩ := hcut
      clear q0 q1 q2 q3 q4 q5 q6 q7
      have q0 := X4.row 0 _ rfl
      have q1 := X4.row 1 _ rfl
      have q2 := X4.row 2 _ rfl
      have q3 := X4.row 3 _ rfl
      have q4 := X4.row 4 _ rfl
      have q5 := X4.row 5 _ rfl
      have q6 := X4.row 6 _ rfl
      have q7 := X4.row 7 _ rfl
      simp only [Nat.zero_add] at q0 q1 q2 q3 q4 q5 q6 q7
      clear XX4
      have XX4 := Lib.hid X4
      clear X4 PB
      cases pb
      · have E := Lib.hid (K3.out rfl)
        clear K1 K2 K3
        rcases (show bd = 32 ∨ bd ≠ 32 by omega) with hb | hb <;> rcases (show mg = 9999 ∨ mg ≠ 9999 by omega) with hm | hm
        all_goals
          go_wp2_with fail
          go_ret
          exact ⟨by rw [E.out]; rfl, XX4.out.below⟩
      · have L1 := Lib.hid (fun w' => isLetter_any bd w')
        rcases mag_cases mg bd with ⟨rfl, rfl, g⟩ | ⟨h9, rfl, h1, g⟩ | ⟨h9, rfl, h1, h2, g⟩ | ⟨h9, rfl, h1, h2, g⟩ | ⟨hb, h1, g⟩ | ⟨hb, h1, h2, h9, g⟩ | ⟨hb, rfl, g⟩ | ⟨hb, h1, h2, h9, g⟩
        · have E := Lib.hid (K1.out rfl g)
          clear K1 K2 K3 g
          go_wp2_with fail
          go_ret
          exact ⟨by rw [E.out]; rfl, XX4.out.below⟩
        · have E := Lib.hid (K2.out g)
          clear K1 K2 K3 g
          go_wp2_with fail
          go_ret
          exact ⟨by rw [E.out]; rfl, XX4.out.below⟩
        · have E := Lib.hid (K2.out g)
          clear K1 K2 K3 g
          go_wp2_with fail
          go_ret
          exact ⟨by rw [E.out]; rfl, XX4.out.below⟩
        · have E := Lib.hid (K1.out rfl g)
          clear K1 K2 K3 g
          go_wp2_with fail
          go_ret
          exact ⟨by rw [E.out]; rfl, XX4.out.below⟩
        · have E := Lib.hid (K2.out g)
          clear K1 K2 K3 g
          have h9 : mg ≠ 9999 := by omega
          have hb2 : (bd == 32) = false := beq_eq_false_iff_ne.2 hb
          have hm2 : (mg == 9999) = false := beq_eq_false_iff_ne.2 h9
          go_wp2_with fail
          go_ret
          exact ⟨by rw [E.out]; rfl, XX4.out.below⟩
        · have E := Lib.hid (K2.out g)
          clear K1 K2 K3 g
          have hb2 : (bd == 32) = false := beq_eq_false_iff_ne.2 hb
          have hm2 : (mg == 9999) = false := beq_eq_false_iff_ne.2 h9
          go_wp2_with fail
          go_ret
          exact ⟨by rw [E.out]; rfl, XX4.out.below⟩
        · have E := Lib.hid (K2.out g)
          clear K1 K2 K3 g
          have hb2 : (bd == 32) = false := beq_eq_false_iff_ne.2 hb
          go_wp2_with fail
          go_ret
          exact ⟨by rw [E.out]; rfl, XX4.out.below⟩
        · have hb2 : (bd == 32) = false := beq_eq_false_iff_ne.2 hb
          have hm2 : (mg == 9999) = false := beq_eq_false_iff_ne.2 h9
          rcases lt_cases bd with ⟨hl, el⟩ | ⟨hl, el⟩
          · have E := Lib.hid (K1.out rfl (g.2 hl))
            rw [el] at L1
            clear K1 K2 K3 g hl el
            go_wp2_with (refine (L1.out _).mono ?_; rintro e w5 ⟨rfl, rfl⟩)
            go_ret
            exact ⟨by rw [E.out]; rfl, XX4.out.below⟩
          · have E := Lib.hid (K2.out (fun x => hl (g.1 x)))
            rw [el] at L1
            clear K1 K2 K3 g hl el
            go_wp2_with (refine (L1.out _).mono ?_; rintro e w5 ⟨rfl, rfl⟩)
            go_ret
            exact ⟨by rw [E.out]; rfl, XX4.out.below⟩
end Ow
end Go.Proofs.YtaghilgfldaaiaaGreatDoor
/-
  The library contracts once more, by another name.
-/
/-
  Texts of numbers: pad, glue and clock of package angle.
-/
namespace Go.Proofs.YtaghilgfldaaiaaGreatDoor
namespace Gt
open Go.RowKit Lw Gp

theorem gPow : Tryz.prog.globalNamed "internal/strconv.uint64pow10" = some 0 := by kernel_rfl
/-- The library's table of powers of ten holds what its initialiser lays. -/
def Tab (w : World) : Prop := Lib.TabIs Tryz.prog w "internal/strconv.uint64pow10" .u64 Lib.pow10Tab
theorem Tab.below {w w' : World} (h : Tab w) (hb : Below w.heap.size w w') : Tab w' := Joins.tab_stays gPow h hb (Nat.le_refl _)

/-- A number with at least so many digits. -/
def padL (n : Int) (d : Nat) : List UInt8 := Lib.repeatL [48] (d - (Lib.itoa n).length) ++ Lib.itoa n
theorem below_grow (w : World) (k : Nat) (os : Array Obj) : Below w.heap.size w (Go.Sort.grow (w.drewN k) os) :=
  ⟨rfl, rfl, rfl, by simp [Go.Sort.grow, World.drewN], fun j hj => by
    show (w.heap ++ os)[j]? = w.heap[j]?
    rw [Array.getElem?_append_left hj]⟩
theorem rep_len (k : Nat) : (Lib.repeatL [48] k).length = k := by
  induction k with
  | zero => rfl
  | succ k ih => simp_all [Lib.repeatL]
theorem str_app (a b : List UInt8) : ((⟨a.toArray⟩ : ByteArray) ++ ⟨b.toArray⟩) = ⟨(a ++ b).toArray⟩ := by
  apply ByteArray.ext
  simp [ByteArray.data_append]

set_option maxRecDepth 100000 in
theorem pad_any (n : Int) (d : Nat) (w : World) (hT : Tab w) (h0 : 0 ≤ n) (h1 : n ≤ 1000000000000000000) (hd : d ≤ 20) :
    Calls Tryz.prog 126 #[.int .i64 n, .int .i64 d] w fun e w' => e = .returned (.string ⟨(padL n d).toArray⟩) ∧ Below w.heap.size w w' := by
  have hl := Lib.itoa_length_le n (by omega) (by omega)
  have F := Lib.hid (Tryz.strconv_FormatInt_10 n (by omega) (by omega) w hT)
  have hp : padL n d = Lib.repeatL [48] (d - (Lib.itoa n).length) ++ Lib.itoa n := rfl
  have hp := Lib.hid hp
  have sz : (⟨(Lib.itoa n).toArray⟩ : ByteArray).size = (Lib.itoa n).length := by simp [ByteArray.size]
  generalize Lib.itoa n = L at *
  go_enter Tryz.func126, Tryz.ntmps126
  go_wp2_with fail
  go_at_call 71
  refine F.out.mono ?_
  rintro e w1 ⟨rfl, k, os, hw⟩
  have hB1 : Below w.heap.size w w1 := by rw [hw]; exact below_grow w k os
  clear F hw hT
  have em : max (0 : Int) (↑d - ↑L.length) = ((d - L.length : Nat) : Int) := by omega
  have R := Lib.hid (Tryz.strings_Repeat ⟨#[48]⟩ (d - L.length) w1 (by omega) (by show 1 * _ ≤ _; omega))
  have rl := rep_len (d - L.length)
  have ls : (⟨#[48]⟩ : ByteArray).data.toList = [48] := rfl
  rw [ls] at R
  go_wp2_with fail
  go_at_call 176
  refine R.out.mono ?_
  rintro e w2 ⟨rfl, hB2⟩
  have hB := below_then hB1 hB2
  have sa := str_app (Lib.repeatL [48] (d - L.length)) L
  generalize Lib.repeatL [48] (d - L.length) = Q at *
  clear R em ls hB1 hB2
  go_wp2_with fail
  go_ret
  exact ⟨by rw [hp.out]; rfl, hB⟩
theorem pad_len (n : Int) (d : Nat) (h0 : 0 ≤ n) (h1 : n ≤ 1000000000000000000) (hd : d ≤ 20) : (padL n d).length ≤ 41 := by
  have := Lib.itoa_length_le n (by omega) (by omega)
  have := rep_len (d - (Lib.itoa n).length)
  unfold padL
  rw [List.length_append]
  omega
/-- Numbers of two digits, put together. -/
def glueL (x y z : Int) : List UInt8 := padL x 2 ++ [32] ++ padL y 2 ++ [32] ++ padL z 2
abbrev i3 (x y z : Int) : List Value := [.int .i64 x, .int .i64 y, .int .i64 z]
abbrev s3 (a b c : List UInt8) : List Value := [.string ⟨a.toArray⟩, .string ⟨b.toArray⟩, .string ⟨c.toArray⟩]

theorem range_set {w : World} {b : Nat} {cs : List Value} (h : w.rangeAt b 0 cs) (j : Nat) (hj : j < cs.length) (v : Value) : (w.setCell ⟨b, j, none⟩ v).rangeAt b 0 (cs.set j v) := fun i x hx => by
  have hu : w.cell? ⟨b, j, none⟩ = some cs[j] := by have := h j cs[j] (List.getElem?_eq_getElem hj); simpa using this
  have hi : i < cs.length := by have := (List.getElem?_eq_some_iff.1 hx).1; simpa using this
  rw [Nat.zero_add]
  by_cases e : j = i
  · subst e
    rw [World.cell?_setCell_same _ _ _ hu]
    rw [List.getElem?_set_self hj] at hx
    exact hx
  · rw [World.cell?_setCell_other _ _ _ _ (by intro g; injection g with _ g2 _; exact e g2)]
    rw [List.getElem?_set_ne e] at hx
    have := h i x hx
    rwa [Nat.zero_add] at this
theorem range_set_other {w : World} {b b' : Nat} {cs : List Value} (h : w.rangeAt b 0 cs) (j : Nat) (hne : b ≠ b') (v : Value) : (w.setCell ⟨b', j, none⟩ v).rangeAt b 0 cs := fun i x hx => by
  rw [World.cell?_setCell_other _ _ _ _ (by intro g; injection g with g1 _ _; exact hne g1.symm)]
  exact h i x hx
theorem there_set {w : World} {b n : Nat} (h : w.there b 0 n) (a : Addr) (v : Value) : (w.setCell a v).there b 0 n := fun j hj => by
  refine ⟨?_, by rw [World.frozen?_setCell]; exact (h j hj).2⟩
  obtain ⟨u, hu⟩ := Option.isSome_iff_exists.1 (h j hj).1
  obtain ⟨v', hv'⟩ := cell?_setCell_some (w := w) (p := a) (x := v) (q := ⟨b, 0 + j, none⟩) (v := u) hu
  rw [hv']; rfl
/-- What the loop keeps: the numbers, the texts so far. -/
structure GK (w : World) (b : Nat) (ns ts : List Value) (wr : World) : Prop where
  nums : wr.rangeAt b 0 ns
  texts : wr.rangeAt w.heap.size 0 ts
  there : wr.there w.heap.size 0 3
  lt : w.heap.size < wr.heap.size
  below : Below w.heap.size w wr
theorem GK.start {w : World} {b : Nat} {ns : List Value} (hb : b < w.heap.size) (h : w.rangeAt b 0 ns) (C : Array Value) (hC : C = (s3 [] [] []).toArray) (t : TypeId) : GK w b ns (s3 [] [] []) (w.alloc (.cells C t)) := by
  subst hC
  exact ⟨rangeAt_below h ((Below.refl _ _).alloc (Nat.le_refl _) _) hb, rangeAt_new w _ t, there_new w _ t 3 (by simp), by simp, (Below.refl _ _).alloc (Nat.le_refl _) _⟩
theorem GK.call {w : World} {b : Nat} {ns ts : List Value} {a c : World} (hb : b < w.heap.size) (h : GK w b ns ts a) (hc : Below a.heap.size a c) : GK w b ns ts c :=
  ⟨rangeAt_below h.nums hc (Nat.lt_trans hb h.lt), rangeAt_below h.texts hc h.lt, there_below h.there hc h.lt, Nat.lt_of_lt_of_le h.lt hc.size, h.below.trans (hc.mono (Nat.le_of_lt h.lt))⟩
theorem GK.set {w : World} {b : Nat} {ns ts ts' : List Value} {a : World} (hb : b < w.heap.size) (h : GK w b ns ts a) (j : Nat) (v : Value) (hj : j < ts.length) (he : ts.set j v = ts') : GK w b ns ts' (a.setCell ⟨w.heap.size, j, none⟩ v) :=
  ⟨range_set_other h.nums j (Nat.ne_of_lt hb) v, he ▸ range_set h.texts j hj v, there_set h.there _ _, by simpa using h.lt, h.below.setCell (Nat.le_refl _) v⟩
end Gt
end Go.Proofs.YtaghilgfldaaiaaGreatDoor
/-
  Texts of parts of a second: clock of package angle.
-/
namespace Go.Proofs.YtaghilgfldaaiaaGreatDoor
namespace Gt
open Go.RowKit Lw Gp

/-- Hours, minutes, seconds and parts. -/
def clockL (n d : Nat) : List UInt8 :=
  glueL ((n / 10 ^ d / 3600 : Nat) : Int) ((n / 10 ^ d / 60 % 60 : Nat) : Int) ((n / 10 ^ d % 60 : Nat) : Int) ++ (if 0 < d then 46 :: padL ((n % 10 ^ d : Nat) : Int) d else [])

end Gt
end Go.Proofs.YtaghilgfldaaiaaGreatDoor
/-
  ParseRa of the reference.
-/
namespace Go.Proofs.YtaghilgfldaaiaaGreatDoor
namespace Gp
open Go.RowKit Lw

end Gp
end Go.Proofs.YtaghilgfldaaiaaGreatDoor
/-
  What the angle of a text of degrees is.
-/
namespace Go.Proofs.YtaghilgfldaaiaaGreatDoor
namespace Gp
open Go.RowKit Lw

theorem takeWhile_len (p : UInt8 → Bool) : ∀ (l : List UInt8) (k : Nat), k ≤ l.length → (∀ j (hj : j < l.length), j < k → p l[j] = true) → (∀ h : k < l.length, p l[k] = false) → (l.takeWhile p).length = k
  | [], k, hk, _, _ => by simp at hk; simp [hk]
  | a :: l, 0, _, _, h => by
    have := h (by simp)
    simp only [List.getElem_cons_zero] at this
    simp [List.takeWhile_cons, this]
  | a :: l, k + 1, hk, h, he => by
    have h0 := h 0 (by simp) (by omega)
    simp only [List.getElem_cons_zero] at h0
    rw [List.takeWhile_cons, if_pos h0, List.length_cons, takeWhile_len p l k (by simpa using hk) (fun j hj hk' => by have := h (j + 1) (by simpa using hj) (by omega); rwa [List.getElem_cons_succ] at this) (fun h' => by have := he (by simpa using h'); rwa [List.getElem_cons_succ] at this)]
/-- Where the point stands, or the end. -/
def ptOf (t : ByteArray) : Nat := (t.data.toList.takeWhile (fun c => decide (¬ ((c.toNat : Nat) : Int) = 46))).length
theorem pt_eq {t : ByteArray} {k : Nat} (hk : k ≤ t.size) (h : ∀ j (hj : j < t.size), j < k → ¬ ((t[j].toNat : Nat) : Int) = 46) (he : ∀ h : k < t.size, ((t[k].toNat : Nat) : Int) = 46) : ptOf t = k := by
  refine takeWhile_len _ _ k (by simpa using hk) (fun j hj hjk => ?_) (fun hlt => ?_)
  · have := h j (by simpa using hj) hjk
    exact decide_eq_true this
  · have := he (by simpa using hlt)
    exact decide_eq_false (not_not_intro this)
def negP (s : ByteArray) : Prop := 0 < s.size ∧ (((s.get! 0).toNat : Nat) : Int) = 45
instance (s : ByteArray) : Decidable (negP s) := by unfold negP; infer_instance
def negB (s : ByteArray) : Bool := decide (negP s)
def bodyOf (s : ByteArray) : ByteArray := if negP s then s.extract 1 s.size else s
def formP (t : ByteArray) (p : Nat) : Prop := p + 1 < t.size ∧ 1 ≤ p ∧ p ≤ 3 ∧ t.size ≤ p + 10 ∧ (p ≤ 1 ∨ ¬ (((t.get! 0).toNat : Nat) : Int) = 48)
def numP (neg : Bool) (D F : Int) : Prop := 0 ≤ D ∧ 0 ≤ F ∧ D ≤ 360 ∧ (D ≠ 360 ∨ F = 0) ∧ (neg = false ∨ D ≠ 0 ∨ F ≠ 0)
def fracI (F : Int) (n : Nat) : Int := rndI (F * (3600000000 / Nat.gcd (10 ^ n) 3600000000 : Nat)) (10 ^ n / Nat.gcd (10 ^ n) 3600000000 : Nat)
def sgnI (neg : Bool) (x : Int) : Int := if neg then -x else x
def degD (t : ByteArray) (p : Nat) : Int := numV (t.extract 0 p).data.toList
def degF (t : ByteArray) (p : Nat) : Int := numV (t.extract (p + 1) t.size).data.toList
def DegT (neg : Bool) (t : ByteArray) (p : Nat) (v e : Int) : Prop :=
  (formP t p ∧ numP neg (degD t p) (degF t p) ∧ v = sgnI neg (degD t p * 3600000000 + fracI (degF t p) (t.size - (p + 1))) ∧ e = 0) ∨ (¬ (formP t p ∧ numP neg (degD t p) (degF t p)) ∧ v = 0 ∧ e = 12)
theorem DegT.det {neg : Bool} {t : ByteArray} {p : Nat} {v e v' e' : Int} (h : DegT neg t p v e) (g : DegT neg t p v' e') : v = v' ∧ e = e' := by
  rcases h with ⟨h1, h2, h3, h4⟩ | ⟨h1, h2, h3⟩ <;> rcases g with ⟨g1, g2, g3, g4⟩ | ⟨g1, g2, g3⟩
  · exact ⟨by rw [h3, g3], by rw [h4, g4]⟩
  · exact absurd ⟨h1, h2⟩ g1
  · exact absurd ⟨g1, g2⟩ h1
  · exact ⟨by rw [h2, g2], by rw [h3, g3]⟩
theorem numV_9 {l : List UInt8} (h : l.length ≤ 9) : -1 ≤ numV l ∧ numV l ≤ 999999999 := by
  have a := numV_bd l
  have : ∀ k : Nat, k ≤ 9 → (10 : Int) ^ k ≤ 1000000000 := by decide
  have := this _ h
  omega
theorem numV_3 {l : List UInt8} (h : l.length ≤ 3) : -1 ≤ numV l ∧ numV l ≤ 999 := by
  have a := numV_bd l
  have : ∀ k : Nat, k ≤ 3 → (10 : Int) ^ k ≤ 1000 := by decide
  have := this _ h
  omega
theorem degD_bd (t : ByteArray) (p : Nat) (h : p ≤ 3) : -1 ≤ degD t p ∧ degD t p ≤ 999 := numV_3 (by simp; omega)
theorem degF_bd (t : ByteArray) (p : Nat) (h : t.size ≤ p + 10) : -1 ≤ degF t p ∧ degF t p ≤ 999999999 := numV_9 (by simp; omega)
/-- The divisor, for each number of digits. -/
theorem gcd_ten : ∀ n : Nat, n ≤ 9 → Nat.gcd (10 ^ n) 3600000000 = if n = 9 then 200000000 else 10 ^ n := by decide
theorem rndI_one (a : Int) : rndI a 1 = a := by
  unfold rndI
  rw [if_neg (by omega)]
  omega
theorem frac_8 (F : Int) (n : Nat) (h : n ≤ 8) : fracI F n = F * (3600000000 / tenI n) := by
  unfold fracI
  rw [gcd_ten n (by omega), if_neg (by omega), Nat.div_self (Nat.pow_pos (by omega))]
  exact rndI_one _
theorem frac_9 (F : Int) : fracI F 9 = rndI (F * 18) 5 := by
  unfold fracI
  rw [gcd_ten 9 (by omega)]
  rfl
theorem div_9 : ∀ n : Nat, n ≤ 9 → 1 ≤ 10 ^ n / Nat.gcd (10 ^ n) 3600000000 ∧ 10 ^ n / Nat.gcd (10 ^ n) 3600000000 ≤ 1000000000 ∧ 3600000000 / Nat.gcd (10 ^ n) 3600000000 ≤ 3600000000 ∧ 1 ≤ Nat.gcd (10 ^ n) 3600000000 ∧ Nat.gcd (10 ^ n) 3600000000 ≤ 1000000000 := by decide
theorem rndI_5 (a : Int) (h : 0 ≤ a) : 0 ≤ rndI a 5 ∧ 5 * rndI a 5 ≤ a + 5 := by
  unfold rndI
  split <;> omega
theorem frac_bd (F : Int) (n : Nat) (h0 : 0 ≤ F) (h1 : F ≤ 999999999) (h : n ≤ 9) : 0 ≤ fracI F n ∧ fracI F n ≤ 3600000000000000000 := by
  by_cases g : n = 9
  · subst g
    rw [frac_9]
    have := rndI_5 (F * 18) (by omega)
    omega
  · rw [frac_8 F n (by omega)]
    have t := (tenI_bd n (by omega)).1
    have q := div_bd (u := 3600000000) (by omega) t
    have := mul_bd h0 h1 q.1 q.2
    omega
theorem quiet_more {P : Program} {f : FuncId} {args : Array Value} {w : World} {n : Nat} {v : Value} (h : ∀ w : World, Calls P f args w fun e w' => e = .returned v ∧ ∃ m, w' = w.drewN m) :
    Calls P f args (w.drewN n) fun e w'' => e = .returned v ∧ ∃ m, w'' = w.drewN m :=
  (h (w.drewN n)).mono fun _ _ ⟨he, m, hm⟩ => ⟨he, n + m, by rw [hm]; simp only [World.drewN, Nat.add_assoc]⟩
theorem quiet_add_more {P : Program} {f : FuncId} {args : Array Value} {w : World} {a n : Nat} {v : Value} (h : ∀ w : World, Calls P f args w fun e w' => e = .returned v ∧ ∃ m, w' = w.drewN m) :
    Calls P f args (w.drewN (a + n)) fun e w'' => e = .returned v ∧ ∃ m, w'' = w.drewN (a + m) :=
  (h (w.drewN (a + n))).mono fun _ _ ⟨he, m, hm⟩ => ⟨he, n + m, by rw [hm]; simp only [World.drewN, Nat.add_assoc]⟩
theorem mul_9 : ∀ n : Nat, n ≤ 9 → 10 ^ n * (3600000000 / Nat.gcd (10 ^ n) 3600000000) ≤ 18000000000 := by decide
theorem rndI_bd {a u : Int} (ha : 0 ≤ a) (hu : 1 ≤ u) : 0 ≤ rndI a u ∧ rndI a u ≤ a + 1 := by
  have q := div_bd ha hu
  unfold rndI
  split <;> omega
theorem deg_letters (E : Int) (n : Nat) (h0 : 0 ≤ E) (h1 : E < 10 ^ n) (hn : n ≤ 9) : ∃ T C M U R : Int,
    tenI n = T ∧ (3600000000 : Int).tdiv C = M ∧ T.tdiv C = U ∧ 1 ≤ C ∧ C ≤ 1000000000 ∧ 1 ≤ T ∧ T ≤ 1000000000 ∧ 0 ≤ M ∧ M ≤ 3600000000 ∧ 1 ≤ U ∧ U ≤ 1000000000 ∧ 0 ≤ E * M ∧ E * M ≤ 18000000000 ∧ 0 ≤ R ∧ R ≤ 18000000001 ∧
    Hid (fracI E n = R) ∧
    (∀ w : World, Calls Tryz.prog 91 #[.int .i64 T] w fun e w' => e = .returned (.int .i64 C) ∧ Below w.heap.size w w') ∧
    (∀ w : World, Calls Tryz.prog 89 #[.int .i64 (E * M), .int .i64 U] w fun e w' => e = .returned (.int .i64 R) ∧ ∃ m, w' = w.drewN m) := by
  obtain ⟨u1, u2, m1, c1, c2⟩ := div_9 n hn
  have mm := mul_9 n hn
  have tb : 10 ^ n ≤ 1000000000 := Nat.pow_le_pow_right (n := 10) (by omega) hn
  have t1 : 1 ≤ 10 ^ n := Nat.pow_pos (by omega)
  obtain ⟨e, rfl⟩ : ∃ e : Nat, E = e := ⟨E.toNat, by omega⟩
  have he : e < 10 ^ n := by
    have : ((10 ^ n : Nat) : Int) = (10 : Int) ^ n := by simp
    omega
  have hm : e * (3600000000 / Nat.gcd (10 ^ n) 3600000000) ≤ 18000000000 := Nat.le_trans (Nat.mul_le_mul_right _ (Nat.le_of_lt he)) mm
  have em : ((e : Int) * ((3600000000 / Nat.gcd (10 ^ n) 3600000000 : Nat) : Int)) = ((e * (3600000000 / Nat.gcd (10 ^ n) 3600000000) : Nat) : Int) := by simp
  have rb := rndI_bd (a := (e : Int) * ((3600000000 / Nat.gcd (10 ^ n) 3600000000 : Nat) : Int)) (u := ((10 ^ n / Nat.gcd (10 ^ n) 3600000000 : Nat) : Int)) (by rw [em]; omega) (by omega)
  refine ⟨((10 ^ n : Nat) : Int), ((Nat.gcd (10 ^ n) 3600000000 : Nat) : Int), ((3600000000 / Nat.gcd (10 ^ n) 3600000000 : Nat) : Int), ((10 ^ n / Nat.gcd (10 ^ n) 3600000000 : Nat) : Int), _, rfl, rfl, rfl, Int.ofNat_le.2 c1, Int.ofNat_le.2 c2, Int.ofNat_le.2 t1, Int.ofNat_le.2 tb, Int.natCast_nonneg _, Int.ofNat_le.2 m1, Int.ofNat_le.2 u1, Int.ofNat_le.2 u2, by rw [em]; exact Int.natCast_nonneg _, by rw [em]; exact Int.ofNat_le.2 hm, rb.1, by rw [em] at rb ⊢; omega, Lib.hid rfl, fun w => ?_, fun w => ?_⟩
  · exact common_any _ w (by omega) (by omega)
  · rw [em]
    have := rrounded_any (e * (3600000000 / Nat.gcd (10 ^ n) 3600000000)) (10 ^ n / Nat.gcd (10 ^ n) 3600000000) w (by omega) (by omega) (by omega)
    rw [← em] at this ⊢
    exact this
end Gp
end Go.Proofs.YtaghilgfldaaiaaGreatDoor
/-
  Plain facts on Go's quotient and remainder of integers, for any integers; no program in sight.
-/
namespace Go.Proofs.YtaghilgfldaaiaaGreatDoor
namespace Pl
open Go.RowKit

theorem ret_int {k : IntKind} {a b : Int} (h : a = b) : Ending.returned (.int k a) = .returned (.int k b) := by rw [h]

theorem quiet_add_left {P : Program} {f : FuncId} {args : Array Value} {w : World} {a n : Nat} {v : Value}
    (h : Calls P f args (w.drewN (a + n)) fun e w' => e = .returned v ∧ w.drewN (a + n) = w') :
    Calls P f args (w.drewN (a + n)) fun e w'' => e = .returned v ∧ ∃ m, w'' = w.drewN (a + m) :=
  h.mono fun _ _ ⟨he, hm⟩ => ⟨he, n, hm.symm⟩
theorem quiet_left {P : Program} {f : FuncId} {args : Array Value} {w : World} {n : Nat} {v : Value}
    (h : Calls P f args (w.drewN n) fun e w' => e = .returned v ∧ w.drewN n = w') : Calls P f args (w.drewN n) fun e w'' => e = .returned v ∧ ∃ m, w'' = w.drewN m :=
  h.mono fun _ _ ⟨he, hm⟩ => ⟨he, n, hm.symm⟩

theorem tmod_fix (a n : Int) (hn : 0 < n) : (if a.tmod n < 0 then a.tmod n + n else a.tmod n) = a % n := by
  have h1 := Int.tmod_eq_emod (a := a) (b := n)
  have h2 := Int.emod_nonneg a (show n ≠ 0 by omega)
  have h3 := Int.emod_lt_of_pos a hn
  by_cases h : 0 ≤ a ∨ n ∣ a
  · rw [if_pos h] at h1
    rw [if_neg (by omega)]; omega
  · rw [if_neg h] at h1
    have : (n.natAbs : Int) = n := by omega
    rw [if_pos (by omega)]; omega

theorem tmod_bd (a n : Int) (hn : 0 < n) : -n < a.tmod n ∧ a.tmod n < n := ⟨Int.lt_tmod_of_pos a hn, Int.tmod_lt_of_pos a hn⟩

/-- A difference of two angles, at most half a turn. -/
def dif (a b : Int) : Int := if 1296000000000 < 2 * ((a - b) % 1296000000000) then (a - b) % 1296000000000 - 1296000000000 else (a - b) % 1296000000000
end Pl
end Go.Proofs.YtaghilgfldaaiaaGreatDoor
/-
  Norm and Diff of package angle, Norm of the reference.
-/
namespace Go.Proofs.YtaghilgfldaaiaaGreatDoor
namespace Turns
open Go.RowKit

open Pl
set_option maxHeartbeats 400000 in
theorem norm_any (a : Int) (w : World) (h0 : -9223372036854775808 ≤ a) (h1 : a ≤ 9223372036854775807) :
    Calls Tryz.prog 130 #[.int .i64 a] w fun e w' => e = .returned (.int .i64 (a % 1296000000000)) ∧ w = w' := by
  have hf := Pl.tmod_fix a 1296000000000 (by omega)
  obtain ⟨hb1, hb2⟩ := Pl.tmod_bd a 1296000000000 (by omega)
  by_cases hc : a.tmod 1296000000000 < 0
  · rw [if_pos hc] at hf
    have Hf := Lib.hid hf
    clear hf
    go_enter Tryz.func130, Tryz.ntmps130
    go_wp2
    go_ret
    exact ⟨ret_int Hf.out, rfl⟩
  · rw [if_neg hc] at hf
    have Hf := Lib.hid hf
    clear hf
    go_enter Tryz.func130, Tryz.ntmps130
    go_wp2
    go_ret
    exact ⟨ret_int Hf.out, rfl⟩

end Turns
end Go.Proofs.YtaghilgfldaaiaaGreatDoor
/-
  Texts of angles: RaText, DecText and DegText of package angle.
-/
namespace Go.Proofs.YtaghilgfldaaiaaGreatDoor
namespace Gt
open Go.RowKit Lw Gp

/-- The parts of an angle, rounded. -/
def rndN (a u : Nat) : Nat := (rndI a u).toNat
theorem rndN_eq (a u : Nat) : ((rndN a u : Nat) : Int) = rndI a u := by
  have : 0 ≤ rndI a u := by
    unfold rndI
    have : (0 : Int) ≤ (a : Int) / u := Int.ediv_nonneg (by omega) (by omega)
    split <;> omega
  unfold rndN
  omega
theorem rndN_le (a u : Nat) (hu : 1 ≤ u) : rndN a u ≤ a + 1 := by
  have h := rndN_eq a u
  have : (a : Int) / u ≤ a := Int.ediv_le_self _ (by omega)
  unfold rndI at h
  split at h <;> omega
/-- The text of a right ascension: so many digits. -/
def raL (a : Int) (d : Nat) : List UInt8 := clockL (rndN (a % 1296000000000).toNat (15000000 / 10 ^ d) % (86400 * 10 ^ d)) d
/-- The text of a declination. -/
def decL (a : Int) (d : Nat) : List UInt8 := (if a < 0 then 45 else 43) :: clockL (rndN a.natAbs (1000000 / 10 ^ d)) d
end Gt
end Go.Proofs.YtaghilgfldaaiaaGreatDoor
/-
  The walk of magText of package obs.
-/
namespace Go.Proofs.YtaghilgfldaaiaaGreatDoor
namespace Ow
open Go.RowKit Lw Go.Proofs.YtaghilgfldaaiaaGreatDoor.Ap Go.Proofs.YtaghilgfldaaiaaGreatDoor.Op Go.Proofs.YtaghilgfldaaiaaGreatDoor.Mp Go.Proofs.YtaghilgfldaaiaaGreatDoor.Mw Go.Proofs.YtaghilgfldaaiaaGreatDoor.At

theorem itoa_dg (n : Nat) (h : n < 10) : Lib.itoa (n : Int) = [dg n] := by
  unfold Lib.itoa
  rw [if_neg (by omega), Int.toNat_natCast, Lib.decDigits_one h]
  rfl
theorem decL_two (n : Nat) : decL n 2 = [dg (n / 10 % 10), dg (n % 10)] := rfl
theorem itoa_any (n : Int) (w : World) (hT : Gt.Tab w) (h0 : 0 ≤ n) (h1 : n ≤ 1000000000000000000) :
    Calls Tryz.prog 128 #[.int .i64 n] w fun e w' => e = .returned (.string ⟨(Lib.itoa n).toArray⟩) ∧ Below w.heap.size w w' :=
  (Tryz.strconv_Itoa n (by omega) (by omega) w hT).mono fun _ _ ⟨x, k, os, y⟩ => ⟨x, by rw [y]; exact Gt.below_grow w k os⟩
theorem size_mk (l : List UInt8) : (⟨l.toArray⟩ : ByteArray).size = l.length := by simp [ByteArray.size]
theorem str_app (a b : List UInt8) : ((⟨a.toArray⟩ : ByteArray) ++ ⟨b.toArray⟩) = ⟨(a ++ b).toArray⟩ := by
  apply ByteArray.ext
  simp [ByteArray.data_append]
end Ow
end Go.Proofs.YtaghilgfldaaiaaGreatDoor
/-
  The walk of blank of package obs.
-/
namespace Go.Proofs.YtaghilgfldaaiaaGreatDoor
namespace Ow
open Go.RowKit Lw Go.Proofs.YtaghilgfldaaiaaGreatDoor.Ap Go.Proofs.YtaghilgfldaaiaaGreatDoor.Op Go.Proofs.YtaghilgfldaaiaaGreatDoor.Mp Go.Proofs.YtaghilgfldaaiaaGreatDoor.Mw Go.Proofs.YtaghilgfldaaiaaGreatDoor.At

end Ow
end Go.Proofs.YtaghilgfldaaiaaGreatDoor
/-
  The walk of trim of package obs.
-/
namespace Go.Proofs.YtaghilgfldaaiaaGreatDoor
namespace Ow
open Go.RowKit Lw Go.Proofs.YtaghilgfldaaiaaGreatDoor.Ap Go.Proofs.YtaghilgfldaaiaaGreatDoor.Op Go.Proofs.YtaghilgfldaaiaaGreatDoor.Mp Go.Proofs.YtaghilgfldaaiaaGreatDoor.Mw Go.Proofs.YtaghilgfldaaiaaGreatDoor.At

end Ow
end Go.Proofs.YtaghilgfldaaiaaGreatDoor
/-
  Signs and points of a text: strings.TrimLeft, CutPrefix and Cut at this program.
-/
namespace Go.Proofs.YtaghilgfldaaiaaGreatDoor
namespace Gp
open Go.RowKit Lw

theorem arr_str (s : ByteArray) : (⟨s.data.toList.toArray⟩ : ByteArray) = s := by cases s; simp
theorem mk_list (l : List UInt8) : (⟨l.toArray⟩ : ByteArray).data.toList = l := by simp
theorem get0 (c : UInt8) (r : List UInt8) : (⟨(c :: r).toArray⟩ : ByteArray).get! 0 = c := by simp [ByteArray.get!]
theorem tail_mk (c : UInt8) (r : List UInt8) : tailOf ⟨(c :: r).toArray⟩ = ⟨r.toArray⟩ := by
  unfold tailOf
  apply ByteArray.ext
  apply Array.toList_inj.1
  rw [Lib.extract_to_end, mk_list]
  simp
theorem size_mk (l : List UInt8) : (⟨l.toArray⟩ : ByteArray).size = l.length := by simp [ByteArray.size]
end Gp
end Go.Proofs.YtaghilgfldaaiaaGreatDoor
/-
  A text of digits is read as its number.
-/
namespace Go.Proofs.YtaghilgfldaaiaaGreatDoor
namespace Gt
open Go.RowKit Lw Gp

theorem u8_of (n : Nat) (h : n < 10) : (((UInt8.ofNat (48 + n)).toNat : Nat) : Int) = 48 + n := by
  rw [UInt8.toNat_ofNat']
  omega
theorem dd_num (u : Nat) : numL (Lib.decDigits u) = u ∧ allD (Lib.decDigits u) := by
  induction u using Nat.strongRecOn with
  | _ u ih =>
    by_cases h : u < 10
    · rw [Lib.decDigits_one h]
      have e := u8_of u h
      refine ⟨by unfold numL; simp only [List.foldl_cons, List.foldl_nil]; omega, fun c hc => ?_⟩
      rw [List.mem_singleton.1 hc]
      omega
    · rw [Lib.decDigits, dif_neg h]
      obtain ⟨h1, h2⟩ := ih (u / 10) (by omega)
      have e := u8_of (u % 10) (Nat.mod_lt _ (by omega))
      exact ⟨by rw [numL_snoc, h1]; omega, allD_snoc h2 (by omega) (by omega)⟩
theorem itoa_num (r : Nat) : numL (Lib.itoa (r : Int)) = r ∧ allD (Lib.itoa (r : Int)) := by
  unfold Lib.itoa
  rw [if_neg (by omega), Int.toNat_natCast]
  exact dd_num r
theorem rep_num (k : Nat) : numL (Lib.repeatL [48] k) = 0 ∧ allD (Lib.repeatL [48] k) := by
  induction k with
  | zero => exact ⟨rfl, fun c hc => by simp [Lib.repeatL] at hc⟩
  | succ k ih =>
    have e : Lib.repeatL [48] (k + 1) = 48 :: Lib.repeatL [48] k := rfl
    rw [e]
    refine ⟨?_, fun c hc => ?_⟩
    · have := ih.1
      unfold numL at this ⊢
      rw [List.foldl_cons]
      exact this
    · rcases List.mem_cons.1 hc with rfl | g
      · decide
      · exact ih.2 c g
theorem pad_num (r d : Nat) : numV (padL (r : Int) d) = r := by
  have h1 := itoa_num r
  have h2 := rep_num (d - (Lib.itoa (r : Int)).length)
  have hA : allD (padL (r : Int) d) := fun c hc => by
    rcases List.mem_append.1 hc with g | g
    · exact h2.2 c g
    · exact h1.2 c g
  unfold numV
  rw [if_pos hA]
  unfold padL numL
  rw [List.foldl_append]
  have e2 := h2.1
  have e1 := h1.1
  unfold numL at e1 e2
  rw [e2, e1]
theorem nd_le : ∀ (d r : Nat), r < 10 ^ (d + 1) → Lib.nDigits r ≤ d + 1
  | 0, r, h => by rw [Lib.nDigits_small (by simpa using h)]; exact Nat.le_refl _
  | d + 1, r, h => by
    by_cases g : r < 10
    · rw [Lib.nDigits_small g]; omega
    · rw [Lib.nDigits_big g]
      have := nd_le d (r / 10) (by rw [Nat.pow_succ] at h; omega)
      omega
theorem pad_size (r d : Nat) (hd : 1 ≤ d) (h : r < 10 ^ d) : (padL (r : Int) d).length = d := by
  obtain ⟨k, rfl⟩ : ∃ k, d = k + 1 := ⟨d - 1, by omega⟩
  have h1 := nd_le k r h
  have hl : (Lib.itoa (r : Int)).length = Lib.nDigits r := by
    unfold Lib.itoa
    rw [if_neg (by omega), Int.toNat_natCast, Lib.decDigits_length]
  unfold padL
  rw [List.length_append, rep_len, hl]
  omega
end Gt
end Go.Proofs.YtaghilgfldaaiaaGreatDoor
/-
  The angle of a text differs from the angle by at most half a unit of the last digit.
-/
namespace Go.Proofs.YtaghilgfldaaiaaGreatDoor
namespace Gt
open Go.RowKit Lw Gp

theorem rnd_half (m u : Nat) (hu : 1 ≤ u) : 2 * (((rndN m u : Nat) : Int) * u - m) ≤ u ∧ -(u : Int) ≤ 2 * (((rndN m u : Nat) : Int) * u - m) := by
  have h := rndN_eq m u
  have hd := Int.emod_add_mul_ediv (m : Int) (u : Int)
  have r0 := Int.emod_nonneg (m : Int) (show (u : Int) ≠ 0 by omega)
  have r1 := Int.emod_lt_of_pos (m : Int) (show (0 : Int) < u by omega)
  rw [h]
  unfold rndI
  generalize (m : Int) % (u : Int) = r at *
  generalize (m : Int) / (u : Int) = q at *
  split
  · rename_i g
    have e : (q + 1) * (u : Int) = (u : Int) * q + u := by rw [Int.add_mul, Int.one_mul, Int.mul_comm]
    rw [e]
    rcases g with g | ⟨g, _⟩ <;> omega
  · rename_i g
    have e : (q + 0) * (u : Int) = (u : Int) * q := by rw [Int.add_zero, Int.mul_comm]
    rw [e]
    have : ¬ ((u : Int) < 2 * r) := fun x => g (Or.inl x)
    omega
end Gt
end Go.Proofs.YtaghilgfldaaiaaGreatDoor
/-
  Plain law of observations: the line of an observation is read as the rounded observation; no walk here.
-/
namespace Go.Proofs.YtaghilgfldaaiaaGreatDoor
namespace Op
open Go.RowKit Lw Go.Proofs.YtaghilgfldaaiaaGreatDoor.Ap Go.Proofs.YtaghilgfldaaiaaGreatDoor.Mp Go.Proofs.YtaghilgfldaaiaaGreatDoor.At

/-- A line: the day's text is handed over. -/
def lineL (day : ByteArray) (o : Ob) : List UInt8 := nameF o.name ++ (67 :: (day.data.toList ++ (Gt.raL o.ra 3 ++ (Gt.decL o.dec 2 ++ (spL 9 ++ (magF o.mag o.band ++ (spL 6 ++ o.site.data.toList)))))))
/-- What Print returns. -/
def PrintIs (o : Ob) (s : ByteArray) (c : Int) : Prop := (okO o ∧ (∃ day, DayIs o.t 6 day 0 ∧ s = ⟨(lineL day o).toArray⟩) ∧ c = 0) ∨ (¬ okO o ∧ s = ByteArray.empty ∧ c = 8)
theorem PrintIs.uniq {o : Ob} {s s' : ByteArray} {c c' : Int} (a : PrintIs o s c) (b : PrintIs o s' c') : s = s' ∧ c = c' := by
  rcases a with ⟨a1, ⟨d, a2, a3⟩, a4⟩ | ⟨a1, a2, a3⟩ <;> rcases b with ⟨b1, ⟨d', b2, b3⟩, b4⟩ | ⟨b1, b2, b3⟩
  · obtain ⟨rfl, _⟩ := a2.uniq b2
    exact ⟨by rw [a3, b3], by omega⟩
  · exact absurd a1 b1
  · exact absurd b1 a1
  · exact ⟨by rw [a2, b2], by omega⟩
theorem ext_seg {s : ByteArray} {A B C : List UInt8} {i j : Nat} (h : s.data.toList = A ++ (B ++ C)) (hi : A.length = i) (hj : i + B.length = j) : s.extract i j = ⟨B.toArray⟩ := by
  have sz : s.size = A.length + (B.length + C.length) := by have := congrArg List.length h; simpa using this
  apply toL_inj
  rw [ext_L s i j (by omega), h, ← hi, List.drop_left, show j - A.length = B.length by omega, List.take_left]
theorem cut_id {l : List UInt8} {c : UInt8} (h : c ≠ 32) : cutL (l ++ [c]) = l ++ [c] := by
  unfold cutL
  rw [List.reverse_append, List.reverse_singleton, List.singleton_append, List.dropWhile_cons_of_neg (by simpa using h), List.reverse_cons, List.reverse_reverse]
theorem spL_len (n : Nat) : (spL n).length = n := List.length_replicate
theorem dec_of_pad {r d : Nat} (hd : 1 ≤ d) (h : r < 10 ^ d) : Gt.padL (r : Int) d = decL r d := pad_dec r d hd h
/-- A clock of two digits each. -/
theorem clock_dec {n d : Nat} (hd : 1 ≤ d) (h : n / 10 ^ d < 360000) : Gt.clockL n d = decL (n / 10 ^ d / 3600) 2 ++ ([32] ++ (decL (n / 10 ^ d / 60 % 60) 2 ++ ([32] ++ (decL (n / 10 ^ d % 60) 2 ++ (46 :: decL (n % 10 ^ d) d))))) := by
  unfold Gt.clockL Gt.glueL
  rw [if_pos (by omega), dec_of_pad (by omega) (by omega), dec_of_pad (by omega) (by omega), dec_of_pad (by omega) (by omega), dec_of_pad hd (Nat.mod_lt _ (Nat.pow_pos (by omega)))]
  simp only [List.append_assoc]
end Op
end Go.Proofs.YtaghilgfldaaiaaGreatDoor
/-
  The walk of the closure of Print of package obs: bytes are put into the line.
-/
namespace Go.Proofs.YtaghilgfldaaiaaGreatDoor
namespace Ow
open Go.RowKit Lw Go.Proofs.YtaghilgfldaaiaaGreatDoor.Ap Go.Proofs.YtaghilgfldaaiaaGreatDoor.Op Go.Proofs.YtaghilgfldaaiaaGreatDoor.Mp Go.Proofs.YtaghilgfldaaiaaGreatDoor.Mw Go.Proofs.YtaghilgfldaaiaaGreatDoor.At

def bytesV (l : List UInt8) : List Value := l.map (fun b => .int .u8 (b.toNat : Int))
theorem bytesV_len (l : List UInt8) : (bytesV l).length = l.length := List.length_map _
theorem size_L (s : ByteArray) : s.size = s.data.toList.length := (Array.length_toList (xs := s.data)).symm
theorem below_sets {B : Nat} {a : World} (b : Nat) (hb : B ≤ b) : ∀ (vs : List Value) (o : Nat) {w : World}, Below B a w → Below B a (w.setCells b o vs)
  | [], _, _, h => h
  | v :: r, o, _, h => below_sets b hb r (o + 1) (h.setCell (p := ⟨b, o, none⟩) hb v)
theorem sets_size (b : Nat) : ∀ (vs : List Value) (o : Nat) (w : World), (w.setCells b o vs).heap.size = w.heap.size
  | [], _, _ => rfl
  | v :: r, o, w => by rw [World.setCells, sets_size b r (o + 1)]; simp
/-- An observation in its box; a line of eighty bytes; the variable that holds the line. -/
structure PX (w0 : World) (b : Nat) (o : Ob) (g p c : Nat) (L : List UInt8) (w : World) : Prop where
  ox : OX w0 b o w
  hb : b < g
  hg : w0.heap.size ≤ g
  hp : g < p
  lt : p < w.heap.size
  var : w.rangeAt p 0 [.slice (some ⟨g, 0, none⟩) 80 c]
  len : L.length = 80
  row : w.rangeAt g 0 (bytesV L)
  free : w.there g 0 80
theorem PX.call {w0 w w' : World} {b g p c : Nat} {o : Ob} {L : List UInt8} (h : PX w0 b o g p c L w) (hb : Below w.heap.size w w') : PX w0 b o g p c L w' :=
  ⟨h.ox.call hb, h.hb, h.hg, h.hp, Nat.lt_of_lt_of_le h.lt hb.size, rangeAt_below h.var hb h.lt, h.len, rangeAt_below h.row hb (Nat.lt_trans h.hp h.lt), there_below h.free hb (Nat.lt_trans h.hp h.lt)⟩
/-- Bytes put into a line. -/
def wput (L : List UInt8) (k : Nat) (s : List UInt8) : List UInt8 := L.take k ++ (s ++ L.drop (k + s.length))
theorem wput_len {L : List UInt8} {k : Nat} {s : List UInt8} (h : k + s.length ≤ L.length) : (wput L k s).length = L.length := by
  unfold wput; simp; omega
theorem wput_in {L : List UInt8} {k : Nat} {s : List UInt8} (h : k + s.length ≤ L.length) (j : Nat) (hj : j < s.length) : (wput L k s)[k + j]? = s[j]? := by
  unfold wput
  rw [List.getElem?_append_right (by simp; omega), List.length_take, Nat.min_eq_left (by omega), Nat.add_sub_cancel_left, List.getElem?_append_left hj]
theorem wput_lo {L : List UInt8} {k : Nat} {s : List UInt8} (h : k + s.length ≤ L.length) (j : Nat) (hj : j < k) : (wput L k s)[j]? = L[j]? := by
  unfold wput
  rw [List.getElem?_append_left (by simp; omega), List.getElem?_take_of_lt hj]
theorem wput_hi {L : List UInt8} {k : Nat} {s : List UInt8} (h : k + s.length ≤ L.length) (j : Nat) (hj : k + s.length ≤ j) : (wput L k s)[j]? = L[j]? := by
  unfold wput
  rw [List.getElem?_append_right (by simp; omega), List.length_take, Nat.min_eq_left (by omega), List.getElem?_append_right (by omega), List.getElem?_drop]
  congr 1; omega
theorem PX.put {w0 w : World} {b g p c : Nat} {o : Ob} {L : List UInt8} (h : PX w0 b o g p c L w) (k : Nat) (s : List UInt8) (hs : k + s.length ≤ 80) : PX w0 b o g p c (wput L k s) (w.setCells g k (bytesV s)) := by
  have hl := h.len
  have bl : (bytesV s).length = s.length := bytesV_len s
  have bL : (bytesV L).length = L.length := bytesV_len L
  have hout := World.cell?_setCells_out g (bytesV s) k w
  have hin := World.cell?_setCells_in g (bytesV s) k w (fun j hj => (by have := (h.free (k + j) (by omega)).1; rwa [Nat.zero_add] at this))
  refine ⟨⟨below_sets g h.hg _ _ h.ox.below, ?_, ?_⟩, h.hb, h.hg, h.hp, ?_, ?_, ?_, ?_, ?_⟩
  · rw [sets_size]; exact h.ox.lt
  · intro i x hi
    rw [hout _ (fun e => absurd e (Nat.ne_of_lt h.hb))]
    exact h.ox.row i x hi
  · rw [sets_size]; exact h.lt
  · intro i x hi
    rw [hout _ (fun e => absurd e (Nat.ne_of_gt h.hp))]
    exact h.var i x hi
  · rw [wput_len (by omega), hl]
  · intro i x hi
    rw [Nat.zero_add]
    unfold bytesV at hi
    rw [List.getElem?_map] at hi
    obtain ⟨y, hy, rfl⟩ := Option.map_eq_some_iff.1 hi
    by_cases h1 : i < k
    · rw [wput_lo (by omega) i h1] at hy
      rw [hout _ (fun _ _ => Or.inl h1)]
      have := h.row i (.int .u8 (y.toNat : Int)) (by unfold bytesV; rw [List.getElem?_map, hy]; rfl)
      rwa [Nat.zero_add] at this
    · by_cases h2 : k + s.length ≤ i
      · rw [wput_hi (by omega) i h2] at hy
        rw [hout _ (fun _ _ => Or.inr (by show k + (bytesV s).length ≤ i; omega))]
        have := h.row i (.int .u8 (y.toNat : Int)) (by unfold bytesV; rw [List.getElem?_map, hy]; rfl)
        rwa [Nat.zero_add] at this
      · obtain ⟨j, rfl⟩ : ∃ j, i = k + j := ⟨i - k, by omega⟩
        rw [wput_in (by omega) j (by omega)] at hy
        rw [hin j (by omega)]
        unfold bytesV
        rw [List.getElem_map]
        rw [(List.getElem?_eq_some_iff.1 hy).2]
  · intro j hj
    refine ⟨?_, by rw [World.frozen?_setCells]; exact (h.free j hj).2⟩
    by_cases h1 : k ≤ j ∧ j < k + s.length
    · obtain ⟨i, rfl⟩ : ∃ i, j = k + i := ⟨j - k, by omega⟩
      rw [Nat.zero_add, hin i (by omega)]
      rfl
    · rw [hout _ (fun _ _ => by show 0 + j < _ ∨ _ ≤ 0 + j; omega)]
      exact (h.free j hj).1

end Ow
end Go.Proofs.YtaghilgfldaaiaaGreatDoor
/-
  Plain law of observations: bytes put into eighty spaces make the line; lengths of the parts; no walk here.
-/
namespace Go.Proofs.YtaghilgfldaaiaaGreatDoor
namespace Op
open Go.RowKit Lw Go.Proofs.YtaghilgfldaaiaaGreatDoor.Ap Go.Proofs.YtaghilgfldaaiaaGreatDoor.Mp Go.Proofs.YtaghilgfldaaiaaGreatDoor.At Go.Proofs.YtaghilgfldaaiaaGreatDoor.Ow

theorem spL_add (a b : Nat) : spL (a + b) = spL a ++ spL b := by unfold spL; exact (List.replicate_append_replicate).symm
theorem clock_len12 {n d : Nat} (hd : 1 ≤ d) (h : n / 10 ^ d < 360000) : (Gt.clockL n d).length = 9 + d := by
  rw [clock_dec hd h]
  simp [decL_len]; omega
theorem ra_len (a : Int) : (Gt.raL a 3).length = 12 := by
  unfold Gt.raL
  refine clock_len12 (by omega) ?_
  have := Nat.mod_lt (Gt.rndN (a % 1296000000000).toNat (15000000 / 10 ^ 3)) (show 0 < 86400 * 10 ^ 3 by decide)
  omega
theorem rnd_le2 (a u : Nat) : Gt.rndN a u ≤ a / u + 1 := by
  have h := Gt.rndN_eq a u
  have e : ((a / u : Nat) : Int) = (a : Int) / u := by omega
  unfold Gp.rndI at h
  split at h <;> omega
theorem dec_len {a : Int} (h0 : -324000000000 ≤ a) (h1 : a ≤ 324000000000) : (Gt.decL a 2).length = 12 := by
  unfold Gt.decL
  rw [List.length_cons, clock_len12 (by omega)]
  have := rnd_le2 a.natAbs (1000000 / 10 ^ 2)
  have e : 1000000 / 10 ^ 2 = 10000 := by decide
  rw [e] at this ⊢
  omega
theorem day_len17 {t : Int} {s : ByteArray} (h : DayIs t 6 s 0) : s.data.toList.length = 17 := by
  rw [← size_L]
  rcases h with ⟨_, _, h⟩ | ⟨_, _, _, _, h⟩ | ⟨_, _, _, _, n, y, m, z, k, _, rfl, _⟩
  · cases h
  · cases h
  · unfold daytS dbS
    rw [if_pos (by decide)]
    simp only [ByteArray.size_append, dS_size]
    rfl
theorem magB_len {m : Int} (h0 : -999 ≤ m) (h1 : m ≤ 9999) : (magB m).length ≤ 5 ∧ 4 ≤ (magB m).length := by
  unfold magB
  have h2 : (decL m.natAbs 2).length = 2 := decL_len _ _
  have l : (m.natAbs / 100 < 10 → (Lib.itoa ((m.natAbs / 100 : Nat) : Int)).length = 1) ∧ (Lib.itoa ((m.natAbs / 100 : Nat) : Int)).length ≤ 2 ∧ 1 ≤ (Lib.itoa ((m.natAbs / 100 : Nat) : Int)).length := by
    by_cases c : m.natAbs / 100 < 10
    · rw [itoa_dg _ c]; simp
    · refine ⟨fun h => absurd h c, ?_⟩
      unfold Lib.itoa
      rw [if_neg (by omega), Int.toNat_natCast, Lib.decDigits_two c (by omega)]; simp
  rw [List.length_append, List.length_append, List.length_append, h2, List.length_singleton]
  by_cases c : m < 0
  · rw [if_pos c, List.length_singleton, l.1 (by omega)]; omega
  · rw [if_neg c, List.length_nil]; omega
theorem magL_len {m : Int} (h0 : -999 ≤ m) (h1 : m ≤ 9999) : (magL m).length = 5 := by
  have := magB_len h0 h1
  unfold magL
  rw [List.length_append, spL_len]; omega
end Op
end Go.Proofs.YtaghilgfldaaiaaGreatDoor
/-
  Plain law of observations: the columns of a line that is made of its parts; no walk here.
-/
namespace Go.Proofs.YtaghilgfldaaiaaGreatDoor
namespace Op
open Go.RowKit Lw Go.Proofs.YtaghilgfldaaiaaGreatDoor.Ap Go.Proofs.YtaghilgfldaaiaaGreatDoor.Mp Go.Proofs.YtaghilgfldaaiaaGreatDoor.At Go.Proofs.YtaghilgfldaaiaaGreatDoor.Ow Go.Proofs.YtaghilgfldaaiaaGreatDoor.Mw

/-- A line made of its parts. -/
def rowL (n1 n2 n3 D R E M S : List UInt8) : List UInt8 := n1 ++ (n2 ++ (n3 ++ (67 :: (D ++ (R ++ (E ++ (spL 9 ++ (M ++ (spL 6 ++ S)))))))))
structure Seg (s : ByteArray) (n1 n2 n3 D R E M S : List UInt8) : Prop where
  eq : s.data.toList = rowL n1 n2 n3 D R E M S
  l1 : n1.length = 5
  l2 : n2.length = 7
  l3 : n3 = [32, 32]
  d : D.length = 17
  r : R.length = 12
  e : E.length = 12
  m : M.length = 6
  s : S.length = 3
section
variable {s : ByteArray} {n1 n2 n3 D R E M S : List UInt8}
theorem Seg.size (h : Seg s n1 n2 n3 D R E M S) : s.size = 80 := by
  have := congrArg List.length h.eq
  have e : s.data.toList.length = s.size := Array.length_toList (xs := s.data)
  unfold rowL at this
  simp only [List.length_append, List.length_cons, spL_len, h.l1, h.l2, h.l3, h.d, h.r, h.e, h.m, h.s, List.length_nil] at this
  omega
theorem Seg.x0 (h : Seg s n1 n2 n3 D R E M S) : s.extract 0 5 = ⟨n1.toArray⟩ := by
  refine ext_seg (A := []) (C := n2 ++ (n3 ++ (67 :: (D ++ (R ++ (E ++ (spL 9 ++ (M ++ (spL 6 ++ S))))))))) ?_ rfl (by rw [h.l1])
  rw [h.eq]; rfl
theorem Seg.x5 (h : Seg s n1 n2 n3 D R E M S) : s.extract 5 12 = ⟨n2.toArray⟩ := by
  refine ext_seg (A := n1) (C := (n3 ++ (67 :: (D ++ (R ++ (E ++ (spL 9 ++ (M ++ (spL 6 ++ S))))))))) ?_ h.l1 (by rw [h.l2])
  rw [h.eq]; rfl
end
/-! ### Points and ends -/
theorem ptL_app {r : List UInt8} : ∀ {l : List UInt8}, (∀ c ∈ l, c ≠ 46) → ptL (l ++ 46 :: r) = l.length := by
  intro l h
  refine ptL_uniq (by simp) (fun j g hj => ?_) (fun g => ?_)
  · rw [List.getElem_append_left hj]
    intro e
    refine h _ (List.getElem_mem hj) ?_
    apply UInt8.toNat_inj.1
    exact Int.ofNat.inj e
  · rw [List.getElem_append_right (Nat.le_refl _)]
    simp
theorem decs_app {l r : List UInt8} (h : ∀ c ∈ l, c ≠ 46) : decs ⟨(l ++ 46 :: r).toArray⟩ = r.length := by
  unfold decs ptS
  rw [size_mk]
  have : (⟨(l ++ 46 :: r).toArray⟩ : ByteArray).data.toList = l ++ 46 :: r := by simp
  rw [this, ptL_app h]
  simp
theorem allD_ne46 {l : List UInt8} (h : allD l) : ∀ c ∈ l, c ≠ 46 := fun c hc e => by have := h c hc; rw [e] at this; have := this.1; exact absurd this (by decide)
theorem mem3 {P : UInt8 → Prop} {a b c : List UInt8} {x y : UInt8} (ha : ∀ z ∈ a, P z) (hx : P x) (hb : ∀ z ∈ b, P z) (hy : P y) (hc : ∀ z ∈ c, P z) : ∀ z ∈ a ++ ([x] ++ (b ++ ([y] ++ c))), P z := by
  intro z hz
  simp only [List.mem_append, List.mem_singleton] at hz
  rcases hz with h | rfl | h | rfl | h
  · exact ha z h
  · exact hx
  · exact hb z h
  · exact hy
  · exact hc z h
end Op
end Go.Proofs.YtaghilgfldaaiaaGreatDoor
/-
  The walks of the reference's texts of observations: spaces, behind.
-/
namespace Go.Proofs.YtaghilgfldaaiaaGreatDoor
namespace Ow
open Go.RowKit Lw Go.Proofs.YtaghilgfldaaiaaGreatDoor.Ap Go.Proofs.YtaghilgfldaaiaaGreatDoor.Op Go.Proofs.YtaghilgfldaaiaaGreatDoor.Mp Go.Proofs.YtaghilgfldaaiaaGreatDoor.Mw Go.Proofs.YtaghilgfldaaiaaGreatDoor.At

def lenOfV : Value → Nat
  | .string s => s.size
  | _ => 0
end Ow
end Go.Proofs.YtaghilgfldaaiaaGreatDoor
/-
  The walk of mag of the reference of observations.
-/
namespace Go.Proofs.YtaghilgfldaaiaaGreatDoor
namespace Ow
open Go.RowKit Lw Go.Proofs.YtaghilgfldaaiaaGreatDoor.Ap Go.Proofs.YtaghilgfldaaiaaGreatDoor.Op Go.Proofs.YtaghilgfldaaiaaGreatDoor.Mp Go.Proofs.YtaghilgfldaaiaaGreatDoor.Mw Go.Proofs.YtaghilgfldaaiaaGreatDoor.At

theorem itoa_two (n : Nat) (h1 : ¬ n < 10) (h : n < 100) : Lib.itoa (n : Int) = [dg (n / 10), dg (n % 10)] := by
  unfold Lib.itoa
  rw [if_neg (by omega), Int.toNat_natCast, Lib.decDigits_two h1 h]
  rfl
end Ow
end Go.Proofs.YtaghilgfldaaiaaGreatDoor
/-
  Plain law of observations: the line of an observation is read as the rounded observation; no walk here.
-/
namespace Go.Proofs.YtaghilgfldaaiaaGreatDoor
namespace Op
open Go.RowKit Lw Go.Proofs.YtaghilgfldaaiaaGreatDoor.Ap Go.Proofs.YtaghilgfldaaiaaGreatDoor.Mp Go.Proofs.YtaghilgfldaaiaaGreatDoor.At Go.Proofs.YtaghilgfldaaiaaGreatDoor.Ow Go.Proofs.YtaghilgfldaaiaaGreatDoor.Mw

theorem cutL_sp (l : List UInt8) : ∀ k, cutL (l ++ spL k) = cutL l
  | 0 => by simp [spL]
  | k + 1 => by
    have ih := cutL_sp l k
    have e : spL (k + 1) = spL k ++ [32] := by unfold spL; rw [List.replicate_succ']
    rw [e, ← List.append_assoc]
    unfold cutL at ih ⊢
    have e2 : (l ++ spL k ++ [32]).reverse = 32 :: (l ++ spL k).reverse := by simp
    rw [e2, List.dropWhile_cons_of_pos (by decide)]
    exact ih
theorem toL_mk (l : List UInt8) : (⟨l.toArray⟩ : ByteArray).data.toList = l := by simp
theorem mk_toL (s : ByteArray) : (⟨s.data.toList.toArray⟩ : ByteArray) = s := toL_inj (by simp)
theorem blank_sp (n : Nat) : blankP ⟨(spL n).toArray⟩ := fun c hc => by rw [toL_mk] at hc; exact (List.mem_replicate.1 hc).2
theorem word_ne {c : UInt8} (h : dgP (c.toNat : Int) ∨ ltP (c.toNat : Int)) : c ≠ 32 := fun e => by
  rw [e] at h
  revert h
  decide
/-- What the columns of a name say. -/
def NameIs (n1 n2 : List UInt8) (nm : ByteArray) : Prop := (blankP ⟨n1.toArray⟩ ∧ nm = cutS ⟨n2.toArray⟩ ∧ ¬ numbP nm) ∨ (¬ blankP ⟨n1.toArray⟩ ∧ nm = ⟨n1.toArray⟩ ∧ numbP nm ∧ blankP ⟨n2.toArray⟩)
theorem numb_first {s : ByteArray} (h : numbP s) : ¬ blankP s := by
  intro b
  obtain ⟨z, h⟩ := h
  have e : s.data.toList.length = s.size := Array.length_toList (xs := s.data)
  match hl : s.data.toList with
  | [] => rw [hl] at e; simp at e; omega
  | x :: l =>
    have hx : x = 32 := b x (by rw [hl]; exact List.mem_cons_self)
    rcases h with ⟨h, _⟩ | ⟨h, _⟩
    · rw [bt_L s 0 (by omega), hl, hx] at h
      change ((32 : UInt8).toNat : Int) = 126 at h
      exact absurd h (by decide)
    · have := h x (by rw [ext_L s 0 1 (by omega), hl]; simp)
      exact word_ne this hx
theorem name_split {nm : ByteArray} (h : nameP nm) : ∃ n1 n2, nameF nm = n1 ++ (n2 ++ [32, 32]) ∧ n1.length = 5 ∧ n2.length = 7 ∧ NameIs n1 n2 nm := by
  have e : nm.data.toList.length = nm.size := Array.length_toList (xs := nm.data)
  unfold nameF
  by_cases c : numbP nm
  · rw [if_pos c]
    refine ⟨nm.data.toList, spL 7, by rfl, by rw [e]; exact c.1, spL_len 7, Or.inr ⟨?_, (mk_toL nm).symm, c, blank_sp 7⟩⟩
    rw [mk_toL]
    exact numb_first c
  · rw [if_neg c]
    rcases h with h | ⟨h1, h2, h3⟩
    · exact absurd h c
    · refine ⟨spL 5, nm.data.toList ++ spL (7 - nm.size), ?_, spL_len 5, by rw [List.length_append, e, spL_len]; omega, Or.inl ⟨blank_sp 5, ?_, c⟩⟩
      · rw [show 9 - nm.size = (7 - nm.size) + 2 by omega, spL_add]
        simp only [List.append_assoc]
        rfl
      · obtain ⟨l, x, hl⟩ : ∃ l x, nm.data.toList = l ++ [x] := ⟨_, _, (List.dropLast_concat_getLast (by intro hn; rw [hn] at e; simp at e; omega)).symm⟩
        unfold cutS
        rw [toL_mk, cutL_sp, hl, cut_id (word_ne (h3 x (by rw [hl]; simp))), ← hl, mk_toL]
/-! ### Magnitudes -/
/-! ### Angles -/
/-! ### Days -/
theorem day_time {t d : Int} {s : ByteArray} (h : DayIs t d s 0) : timeP t := by
  rcases h with ⟨_, _, h⟩ | ⟨_, _, _, _, h⟩ | ⟨_, _, h1, h2, _⟩
  · cases h
  · cases h
  · exact ⟨h1, h2⟩
end Op
end Go.Proofs.YtaghilgfldaaiaaGreatDoor
/-
  The walk of name of package obs.
-/
namespace Go.Proofs.YtaghilgfldaaiaaGreatDoor
namespace Ow
open Go.RowKit Lw Go.Proofs.YtaghilgfldaaiaaGreatDoor.Ap Go.Proofs.YtaghilgfldaaiaaGreatDoor.Op Go.Proofs.YtaghilgfldaaiaaGreatDoor.Mp Go.Proofs.YtaghilgfldaaiaaGreatDoor.Mw Go.Proofs.YtaghilgfldaaiaaGreatDoor.At

/-- What the columns of a name say. -/
def NameOf (s n : ByteArray) : Prop := (blankP (s.extract 0 5) ∧ n = cutS (s.extract 5 12) ∧ ¬ numbP n) ∨ (¬ blankP (s.extract 0 5) ∧ n = s.extract 0 5 ∧ numbP n ∧ blankP (s.extract 5 12))
end Ow
end Go.Proofs.YtaghilgfldaaiaaGreatDoor
/-
  Plain law of observations: what the columns of a magnitude say, by digits; no walk here.
-/
namespace Go.Proofs.YtaghilgfldaaiaaGreatDoor
namespace Op
open Go.RowKit Lw Go.Proofs.YtaghilgfldaaiaaGreatDoor.Ap Go.Proofs.YtaghilgfldaaiaaGreatDoor.Mp Go.Proofs.YtaghilgfldaaiaaGreatDoor.At Go.Proofs.YtaghilgfldaaiaaGreatDoor.Ow Go.Proofs.YtaghilgfldaaiaaGreatDoor.Mw

end Op
end Go.Proofs.YtaghilgfldaaiaaGreatDoor
/-
  Plain law of observations: a line's candidate, all of it but the check; no walk here.
-/
namespace Go.Proofs.YtaghilgfldaaiaaGreatDoor
namespace Op
open Go.RowKit Lw Go.Proofs.YtaghilgfldaaiaaGreatDoor.Ap Go.Proofs.YtaghilgfldaaiaaGreatDoor.Mp Go.Proofs.YtaghilgfldaaiaaGreatDoor.At Go.Proofs.YtaghilgfldaaiaaGreatDoor.Ow Go.Proofs.YtaghilgfldaaiaaGreatDoor.Mw

/-- The variance of a line, by the digits of its declination. -/
def sgOf (n : Nat) : Int := if n = 0 then 1000000 else if n = 1 then 300000 else 100000
structure Cand (s : ByteArray) (o : Ob) : Prop where
  size : s.size = 80
  mark : bt s 12 = 32 ∧ bt s 13 = 32 ∧ bt s 14 = 67
  b1 : blankP (s.extract 56 65)
  b2 : blankP (s.extract 71 77)
  p : 3 ≤ decs (cutS (s.extract 15 32)) ∧ decs (cutS (s.extract 15 32)) ≤ 6
  q : 1 ≤ decs (cutS (s.extract 32 44)) ∧ decs (cutS (s.extract 32 44)) ≤ 3
  r : decs (cutS (s.extract 44 56)) ≤ 2
  day : PDayIs (cutS (s.extract 15 32)) o.t 0
  ra : Gp.RaIs (cutS (s.extract 32 44)) o.ra 0
  dec : Gp.DecIs (cutS (s.extract 44 56)) o.dec 0
  site : o.site = s.extract 77 80
  sg : o.sg = sgOf (decs (cutS (s.extract 44 56)))
  name : NameOf s o.name
  mag : (blankP (s.extract 65 71) ∧ o.mag = 9999 ∧ o.band = 32) ∨ (¬ blankP (s.extract 65 71) ∧ MagIs (s.extract 65 70) o.mag ∧ o.band = bt s 70)
theorem Cand.good {s : ByteArray} {o : Ob} (h : Cand s o) (ok : okO o) : Good s o := ⟨h.size, h.mark, h.b1, h.b2, h.p, h.q, h.r, h.day, h.ra, h.dec, h.site, h.sg, h.name, h.mag, ok⟩
theorem nameOf_uniq {s a b : ByteArray} (h : NameOf s a) (g : NameOf s b) : a = b := by
  rcases h with ⟨x1, x2, _⟩ | ⟨x1, x2, _⟩ <;> rcases g with ⟨y1, y2, _⟩ | ⟨y1, y2, _⟩
  · rw [x2, y2]
  · exact absurd x1 y1
  · exact absurd y1 x1
  · rw [x2, y2]
theorem Cand.uniq {s : ByteArray} {o o' : Ob} (a : Cand s o) (b : Cand s o') : o = o' := by
  have e1 := (a.day.uniq b.day).1
  have e2 := (a.ra.det b.ra).1
  have e3 := (a.dec.det b.dec).1
  have e4 := a.site.trans b.site.symm
  have e5 := a.sg.trans b.sg.symm
  have e6 := nameOf_uniq (s := s) a.name b.name
  have e7 : o.mag = o'.mag ∧ o.band = o'.band := by
    rcases a.mag with ⟨x1, x2, x3⟩ | ⟨x1, x2, x3⟩ <;> rcases b.mag with ⟨y1, y2, y3⟩ | ⟨y1, y2, y3⟩
    · exact ⟨by omega, by omega⟩
    · exact absurd x1 y1
    · exact absurd y1 x1
    · exact ⟨x2.uniq y2, by omega⟩
  obtain ⟨e7, e8⟩ := e7
  cases o; cases o'
  simp only at e1 e2 e3 e4 e5 e6 e7 e8
  rw [e1, e2, e3, e4, e5, e6, e7, e8]
/-- No observation has this line. -/
def NoO (s : ByteArray) : Prop := ∀ x, ¬ Good s x
theorem ext_ext (s : ByteArray) (i j k l : Nat) (h : i + l ≤ j) : (s.extract i j).extract k l = s.extract (i + k) (i + l) := by
  rw [ByteArray.extract_extract, Nat.min_eq_left h]
end Op
end Go.Proofs.YtaghilgfldaaiaaGreatDoor
/-
  The walk of magnitude of package obs.
-/
namespace Go.Proofs.YtaghilgfldaaiaaGreatDoor
namespace Ow
open Go.RowKit Lw Go.Proofs.YtaghilgfldaaiaaGreatDoor.Ap Go.Proofs.YtaghilgfldaaiaaGreatDoor.Op Go.Proofs.YtaghilgfldaaiaaGreatDoor.Mp Go.Proofs.YtaghilgfldaaiaaGreatDoor.Mw Go.Proofs.YtaghilgfldaaiaaGreatDoor.At

end Ow
end Go.Proofs.YtaghilgfldaaiaaGreatDoor
/-
  The day texts of times: Day of the reference.
-/
namespace Go.Proofs.YtaghilgfldaaiaaGreatDoor
namespace At
open Go.RowKit Lw Ap Go.Proofs.YtaghilgfldaaiaaGreatDoor.Mp Go.Proofs.YtaghilgfldaaiaaGreatDoor.Mw

theorem XSr.call {w : World} {b : Nat} {a c : World} (h : XSr w b a) (hb : Below a.heap.size a c) : XSr w b c := ⟨Nat.lt_of_lt_of_le h.lt hb.size, below_then h.below hb⟩
end At
end Go.Proofs.YtaghilgfldaaiaaGreatDoor
/-
  Text and Day of both, for any time and number of digits.
-/
namespace Go.Proofs.YtaghilgfldaaiaaGreatDoor
namespace At
open Go.RowKit Lw Ap Go.Proofs.YtaghilgfldaaiaaGreatDoor.Mp Go.Proofs.YtaghilgfldaaiaaGreatDoor.Mw

theorem text_any (t d : Int) (w : World) (hT : Tab w) (h0 : -9223372036854775808 ≤ t) (h1 : t ≤ 9223372036854775807) :
    Calls Tryz.prog 69 #[.int .i64 t, .int .i64 d] w (TextPost t d w) := by
  by_cases hd : d < 0 ∨ 6 < d
  · exact text_bad t d w hd
  · obtain ⟨k, rfl⟩ := Int.eq_ofNat_of_zero_le (show 0 ≤ d by omega)
    by_cases ht : t < bgv (-10227) 1972 1 ∨ bgv 36525 2100 1 ≤ t
    · exact text_out t k w (by omega) h0 h1 ht
    · obtain ⟨n, y, m, z, j, h⟩ := day_ex t (by omega) (by omega)
      exact text_in t n y m z j k w (by omega) hT h (by omega) (by omega)
theorem rtext_any (t d : Int) (w : World) (h0 : -9223372036854775808 ≤ t) (h1 : t ≤ 9223372036854775807) :
    Calls Tryz.prog 43 #[.int .i64 t, .int .i64 d] w (TextPost t d w) := by
  by_cases hd : d < 0 ∨ 6 < d
  · exact rtext_bad t d w hd
  · obtain ⟨k, rfl⟩ := Int.eq_ofNat_of_zero_le (show 0 ≤ d by omega)
    by_cases ht : t < bgv (-10227) 1972 1 ∨ bgv 36525 2100 1 ≤ t
    · exact rtext_out t k w (by omega) h0 h1 ht
    · obtain ⟨n, y, m, z, j, h⟩ := day_ex t (by omega) (by omega)
      exact rtext_in t n y m z j k w (by omega) h (by omega) (by omega)
end At
end Go.Proofs.YtaghilgfldaaiaaGreatDoor
/-
  The walk of Print of package obs.
-/
namespace Go.Proofs.YtaghilgfldaaiaaGreatDoor
namespace Ow
open Go.RowKit Lw Go.Proofs.YtaghilgfldaaiaaGreatDoor.Ap Go.Proofs.YtaghilgfldaaiaaGreatDoor.Op Go.Proofs.YtaghilgfldaaiaaGreatDoor.Mp Go.Proofs.YtaghilgfldaaiaaGreatDoor.Mw Go.Proofs.YtaghilgfldaaiaaGreatDoor.At

theorem info8 : (Tryz.prog.info? 33).map (·.size) = some 8 := by kernel_rfl
theorem PX.tab {w0 w' : World} {b g p c : Nat} {o : Ob} {L' : List UInt8} (h : PX w0 b o g p c L' w') (hT : Gt.Tab w0) : Gt.Tab w' := hT.below h.ox.below
/-- Before or behind one put. -/
structure PS (w0 : World) (b : Nat) (o : Ob) (g p c : Nat) (L : List UInt8) (k : Nat) (s : ByteArray) (w : World) : Prop where
  px : ∃ L0, (L0 = L ∨ L0 = wput L k s.data.toList) ∧ PX w0 b o g p c L0 w
  tab : Gt.Tab w
  len : k + s.data.toList.length ≤ L.length
theorem PS.call {w0 w w' : World} {b g p c k : Nat} {o : Ob} {L : List UInt8} {s : ByteArray} (h : PS w0 b o g p c L k s w) (hb : Below w.heap.size w w') : PS w0 b o g p c L k s w' := by
  obtain ⟨⟨L0, h1, h2⟩, h3, h4⟩ := h
  exact ⟨⟨L0, h1, h2.call hb⟩, h3.below hb, h4⟩
theorem PS.drew {w0 w : World} {b g p c k : Nat} {o : Ob} {L : List UInt8} {s : ByteArray} (h : PS w0 b o g p c L k s w) : PS w0 b o g p c L k s w.drew := h.call (Below.refl _ _).drew
/-- The same with the cells that are read. -/
abbrev PQ (w0 : World) (b : Nat) (o : Ob) (g p c : Nat) (L : List UInt8) (k : Nat) (s : ByteArray) (w : World) : Prop := w.cell? ⟨b, 6, none⟩ = some (.int .i64 o.mag) ∧ w.cell? ⟨b, 7, none⟩ = some (.int .u8 o.band) ∧ PS w0 b o g p c L k s w
theorem PS.q {w0 w : World} {b g p c k : Nat} {o : Ob} {L : List UInt8} {s : ByteArray} (h : PS w0 b o g p c L k s w) : PQ w0 b o g p c L k s w := by
  obtain ⟨L0, h1, h2⟩ := h.px
  have a := h2.ox.row 6 _ rfl
  have b := h2.ox.row 7 _ rfl
  rw [Nat.zero_add] at a b
  exact ⟨a, b, h⟩
theorem mag_bd {m b : Int} (h : magP m b) (h9 : m ≠ 9999) : -500 ≤ m ∧ m ≤ 3000 := by
  unfold magP at h
  omega
theorem band_u8 {m b : Int} (h : magP m b) : 0 ≤ b ∧ b ≤ 255 ∧ b < 128 := by
  unfold magP ltP at h
  omega
theorem band_enc {m b : Int} (h : magP m b) : Utf8.encode b = ⟨#[UInt8.ofNat b.toNat]⟩ := by
  have hb : 0 ≤ b ∧ b < 128 := by
    unfold magP ltP at h
    omega
  unfold Utf8.encode
  have v : Utf8.valid b = true := by
    unfold Utf8.valid
    rw [decide_eq_true (show 0 ≤ b by omega), decide_eq_true (show b < 55296 by omega)]
    rfl
  simp only [v, if_true]
  rw [if_pos (by omega)]
end Ow
end Go.Proofs.YtaghilgfldaaiaaGreatDoor
/-
  ParseRa and ParseDec of package angle.
-/
namespace Go.Proofs.YtaghilgfldaaiaaGreatDoor
namespace Gp
open Go.RowKit Lw

end Gp
end Go.Proofs.YtaghilgfldaaiaaGreatDoor
/-
  The walk of Parse of package obs.
-/
namespace Go.Proofs.YtaghilgfldaaiaaGreatDoor
namespace Ow
open Go.RowKit Lw Go.Proofs.YtaghilgfldaaiaaGreatDoor.Ap Go.Proofs.YtaghilgfldaaiaaGreatDoor.Op Go.Proofs.YtaghilgfldaaiaaGreatDoor.Mp Go.Proofs.YtaghilgfldaaiaaGreatDoor.Mw Go.Proofs.YtaghilgfldaaiaaGreatDoor.At

/-- The result's box. -/
structure Res (w0 w : World) : Prop where
  below : Below w0.heap.size w0 w
  lt : w0.heap.size < w.heap.size
  th : w.there w0.heap.size 0 8
theorem Res.new (w : World) : Res w (w.alloc (.cells (obsC zeroO).toArray 33)) := ⟨(Below.refl _ _).alloc (Nat.le_refl _) _, by simp, there_new _ _ _ 8 (by show 8 ≤ 8; omega)⟩
theorem Res.call {w0 w w' : World} (h : Res w0 w) (hb : Below w.heap.size w w') : Res w0 w' := ⟨below_then h.below hb, Nat.lt_of_lt_of_le h.lt hb.size, there_below h.th hb h.lt⟩
end Ow
end Go.Proofs.YtaghilgfldaaiaaGreatDoor
/-
  The walk of Parse of package obs: the main way.
-/
namespace Go.Proofs.YtaghilgfldaaiaaGreatDoor
namespace Ow
open Go.RowKit Lw Go.Proofs.YtaghilgfldaaiaaGreatDoor.Ap Go.Proofs.YtaghilgfldaaiaaGreatDoor.Op Go.Proofs.YtaghilgfldaaiaaGreatDoor.Mp Go.Proofs.YtaghilgfldaaiaaGreatDoor.Mw Go.Proofs.YtaghilgfldaaiaaGreatDoor.At

/-- The result's box, and an observation in a box of its own. -/
structure OY (w0 : World) (b : Nat) (o : Ob) (w : World) : Prop where
  res : Res w0 w
  hb : w0.heap.size < b
  lt : b < w.heap.size
  row : w.rangeAt b 0 (obsC o)
  th : w.there b 0 8
theorem OY.call {w0 w w' : World} {b : Nat} {o : Ob} (h : OY w0 b o w) (hb : Below w.heap.size w w') : OY w0 b o w' := ⟨h.res.call hb, h.hb, Nat.lt_of_lt_of_le h.lt hb.size, rangeAt_below h.row hb h.lt, there_below h.th hb h.lt⟩
theorem OY.set {w0 w : World} {b : Nat} {o : Ob} (h : OY w0 b o w) (i : Nat) (v : Value) (o' : Ob) (_hi : i < 8) (e : obsC o' = (obsC o).set i v) : OY w0 b o' (w.setCell ⟨b, i, none⟩ v) := by
  have hw0 : w0.heap.size ≠ b := Nat.ne_of_lt h.hb
  have out := World.cell?_setCells_out b [v] i w
  have inn := World.cell?_setCells_in b [v] i w (fun j hj => by
    have hj : j < 1 := hj
    have := (h.th (i + j) (by omega)).1
    rwa [Nat.zero_add] at this)
  have ew : w.setCells b i [v] = w.setCell ⟨b, i, none⟩ v := rfl
  have fz : ∀ p, (w.setCell ⟨b, i, none⟩ v).frozen? p = w.frozen? p := fun p => by rw [← ew, World.frozen?_setCells]
  rw [ew] at out inn
  refine ⟨⟨?_, ?_, ?_⟩, h.hb, ?_, ?_, ?_⟩
  · exact h.res.below.setCell (p := ⟨b, i, none⟩) (Nat.le_of_lt h.hb) v
  · have := sets_size b [v] i w
    rw [ew] at this
    rw [this]; exact h.res.lt
  · intro j hj
    rw [fz, out _ (fun e => absurd e hw0)]
    exact h.res.th j hj
  · have := sets_size b [v] i w
    rw [ew] at this
    rw [this]; exact h.lt
  · intro j x hx
    rw [e] at hx
    rw [Nat.zero_add]
    by_cases hj : j = i
    · subst hj
      have hl : j < (obsC o).length := _hi
      rw [List.getElem?_set_self hl] at hx
      have := inn 0 (by show 0 < 1; omega)
      rw [Nat.add_zero] at this
      rw [this]; exact hx
    · rw [List.getElem?_set_ne (fun h => hj h.symm)] at hx
      rw [out _ (fun _ _ => by show j < i ∨ i + 1 ≤ j; omega)]
      have := h.row j x hx
      rwa [Nat.zero_add] at this
  · intro j hj
    refine ⟨?_, by rw [fz]; exact (h.th j hj).2⟩
    rw [Nat.zero_add]
    by_cases hj2 : j = i
    · subst hj2
      have := inn 0 (by show 0 < 1; omega)
      rw [Nat.add_zero] at this
      rw [this]; rfl
    · rw [out _ (fun _ _ => by show j < i ∨ i + 1 ≤ j; omega)]
      have := (h.th j hj).1
      rwa [Nat.zero_add] at this
end Ow
end Go.Proofs.YtaghilgfldaaiaaGreatDoor
/-
  Plain law of observations: the line of an observation is read as the rounded observation; rounding again changes nothing; no walk here.
-/
namespace Go.Proofs.YtaghilgfldaaiaaGreatDoor
namespace Op
open Go.RowKit Lw Go.Proofs.YtaghilgfldaaiaaGreatDoor.Ap Go.Proofs.YtaghilgfldaaiaaGreatDoor.Mp Go.Proofs.YtaghilgfldaaiaaGreatDoor.At Go.Proofs.YtaghilgfldaaiaaGreatDoor.Ow Go.Proofs.YtaghilgfldaaiaaGreatDoor.Mw

theorem line_seg {day : ByteArray} {o : Ob} (ok : okO o) (hd : DayIs o.t 6 day 0) : ∃ n1 n2, NameIs n1 n2 o.name ∧
    Seg ⟨(lineL day o).toArray⟩ n1 n2 [32, 32] day.data.toList (Gt.raL o.ra 3) (Gt.decL o.dec 2) (magF o.mag o.band) o.site.data.toList := by
  obtain ⟨_, hn, hs, _, _, _, d0, d1, _, _, hm⟩ := ok
  obtain ⟨n1, n2, e, l1, l2, hN⟩ := name_split hn
  refine ⟨n1, n2, hN, ?_, l1, l2, rfl, day_len17 hd, ra_len _, dec_len d0 d1, ?_, by rw [← size_L]; exact hs⟩
  · rw [toL_mk]
    unfold lineL rowL
    rw [e]
    simp only [List.append_assoc]
  · unfold magF
    by_cases c : o.mag = 9999
    · rw [if_pos c, spL_len]
    · rw [if_neg c, List.length_append]
      rcases hm with ⟨h, _⟩ | ⟨h1, h2, _⟩
      · exact absurd h c
      · rw [magL_len (by omega) (by omega)]; rfl
/-- The rounded observation. -/
structure Rnd (day : ByteArray) (o r : Ob) : Prop where
  name : r.name = o.name
  site : r.site = o.site
  mag : r.mag = o.mag
  band : r.band = o.band
  sg : r.sg = 100000
  le : r.t ≤ o.t
  near : o.t - r.t < 100000
  pday : PDayIs day r.t 0
  day : DayIs r.t 6 day 0
  pra : Gp.RaIs ⟨(Gt.raL o.ra 3).toArray⟩ r.ra 0
  ra : Gt.raL r.ra 3 = Gt.raL o.ra 3
  ra0 : 0 ≤ r.ra
  ra1 : r.ra < 1296000000000
  dif1 : 2 * Pl.dif r.ra o.ra ≤ 15000
  dif2 : -15000 ≤ 2 * Pl.dif r.ra o.ra
  pdec : Gp.DecIs ⟨(Gt.decL o.dec 2).toArray⟩ r.dec 0
  dec0 : -324000000000 ≤ r.dec
  dec1 : r.dec ≤ 324000000000
  dd1 : r.dec - o.dec ≤ 5000
  dd2 : -5000 ≤ r.dec - o.dec
  dec : (o.dec < 0 ∧ r.dec = 0 ∧ Gt.decL o.dec 2 = 45 :: Gt.clockL 0 2) ∨ Gt.decL r.dec 2 = Gt.decL o.dec 2
theorem Rnd.okO {day : ByteArray} {o r : Ob} (h : Rnd day o r) (ok : okO o) : Op.okO r := by
  obtain ⟨_, a2, a3, a4, _, _, _, _, _, _, a9⟩ := ok
  have := h.sg
  exact ⟨day_time h.day, by rw [h.name]; exact a2, by rw [h.site]; exact a3, by rw [h.site]; exact a4, h.ra0, h.ra1, h.dec0, h.dec1, by omega, by omega, by rw [h.mag, h.band]; exact a9⟩
theorem band_u8 {m b : Int} (h : magP m b) : 0 ≤ b ∧ b ≤ 255 ∧ ((UInt8.ofNat b.toNat).toNat : Int) = b := by
  have hb : 0 ≤ b ∧ b ≤ 255 := by
    unfold magP ltP at h
    omega
  refine ⟨hb.1, hb.2, ?_⟩
  rw [UInt8.toNat_ofNat', Nat.mod_eq_of_lt (show b.toNat < 2 ^ 8 by omega)]
  omega
end Op
end Go.Proofs.YtaghilgfldaaiaaGreatDoor
/-
  The contracts of package obs: Print, Parse, Round, for any observation and string.
-/
namespace Go.Proofs.YtaghilgfldaaiaaGreatDoor
namespace Ow
open Go.RowKit Lw Go.Proofs.YtaghilgfldaaiaaGreatDoor.Ap Go.Proofs.YtaghilgfldaaiaaGreatDoor.Op Go.Proofs.YtaghilgfldaaiaaGreatDoor.Mp Go.Proofs.YtaghilgfldaaiaaGreatDoor.Mw Go.Proofs.YtaghilgfldaaiaaGreatDoor.At

/-- The bounds of a Go observation. -/
structure OB (o : Ob) : Prop where
  t0 : -9223372036854775808 ≤ o.t
  t1 : o.t ≤ 9223372036854775807
  b0 : 0 ≤ o.band
  b1 : o.band ≤ 255
  n1 : o.name.size ≤ maxLen
  n2 : o.site.size ≤ maxLen
/-- What Round returns. -/
def RoundIs (o q : Ob) (c : Int) : Prop := (∃ s, PrintIs o s 0 ∧ ObsIs s q c) ∨ (¬ okO o ∧ q = zeroO ∧ c = 8)
theorem RoundIs.uniq {o q q' : Ob} {c c' : Int} (a : RoundIs o q c) (b : RoundIs o q' c') : q = q' ∧ c = c' := by
  have ok : ∀ {s}, PrintIs o s 0 → okO o := fun h => by
    rcases h with ⟨h, _⟩ | ⟨_, _, h⟩
    · exact h
    · cases h
  rcases a with ⟨s, a1, a2⟩ | ⟨a1, a2, a3⟩ <;> rcases b with ⟨s', b1, b2⟩ | ⟨b1, b2, b3⟩
  · obtain ⟨rfl, _⟩ := a1.uniq b1
    exact a2.uniq b2
  · exact absurd (ok a1) b1
  · exact absurd (ok b1) a1
  · exact ⟨by rw [a2, b2], by omega⟩
/-- The boxes of Round. -/
structure RX (w0 : World) (o : Ob) (w : World) : Prop where
  below : Below w0.heap.size w0 w
  lt : w0.heap.size + 1 < w.heap.size
  row : w.rangeAt w0.heap.size 0 (obsC o)
  th : w.there (w0.heap.size + 1) 0 8
theorem RX.call {w0 w w' : World} {o : Ob} (h : RX w0 o w) (hb : Below w.heap.size w w') : RX w0 o w' :=
  ⟨below_then h.below hb, Nat.lt_of_lt_of_le h.lt hb.size, rangeAt_below h.row hb (by have := h.lt; omega), there_below h.th hb h.lt⟩
theorem RX.new (w : World) (o : Ob) : RX w o ((w.alloc (.cells (obsC o).toArray 33)).alloc (.cells (obsC zeroO).toArray 33)) := by
  have b1 : Below w.heap.size w (w.alloc (.cells (obsC o).toArray 33)) := (Below.refl _ _).alloc (Nat.le_refl _) _
  refine ⟨b1.alloc (by simp) _, by simp, rangeAt_below (rangeAt_new w _ _) ((Below.refl _ _).alloc (Nat.le_refl _) _) (by simp), ?_⟩
  have := there_new (w.alloc (.cells (obsC o).toArray 33)) (obsC zeroO).toArray 33 8 (by show 8 ≤ 8; omega)
  rwa [show (w.alloc (.cells (obsC o).toArray 33)).heap.size = w.heap.size + 1 by simp] at this
end Ow
end Go.Proofs.YtaghilgfldaaiaaGreatDoor
/-
  Plain law of lists of observations: what PrintAll, ParseAll say; no walk here.
-/
namespace Go.Proofs.YtaghilgfldaaiaaGreatDoor
namespace Op
open Go.RowKit Lw Go.Proofs.YtaghilgfldaaiaaGreatDoor.Ap Go.Proofs.YtaghilgfldaaiaaGreatDoor.Mp Go.Proofs.YtaghilgfldaaiaaGreatDoor.At Go.Proofs.YtaghilgfldaaiaaGreatDoor.Ow Go.Proofs.YtaghilgfldaaiaaGreatDoor.Mw

def nlS : ByteArray := ⟨#[10]⟩
/-- The error of a list. -/
def allC (l : List Ob) : Int := if 500 < l.length then 4 else if ∀ o ∈ l, okO o then 0 else 8
theorem allC_zero {l : List Ob} (h : l.length ≤ 500) (g : ∀ o ∈ l, okO o) : allC l = 0 := by unfold allC; rw [if_neg (by omega), if_pos g]
theorem allC_many {l : List Ob} (h : 500 < l.length) : allC l = 4 := by unfold allC; rw [if_pos h]
theorem allC_bad {l : List Ob} {i : Nat} (h : l.length ≤ 500) (hi : i < l.length) (g : ¬ okO l[i]) : allC l = 8 := by
  unfold allC; rw [if_neg (by omega), if_neg (fun k => g (k _ (List.getElem_mem hi)))]
theorem allC_ok {l : List Ob} (h : allC l = 0) : l.length ≤ 500 ∧ ∀ o ∈ l, okO o := by
  unfold allC at h
  by_cases c : 500 < l.length
  · rw [if_pos c] at h; cases h
  · rw [if_neg c] at h
    by_cases d : ∀ o ∈ l, okO o
    · exact ⟨by omega, d⟩
    · rw [if_neg d] at h; cases h
/-- The lines of the first k observations. -/
def LinesTo (l : List Ob) : Nat → ByteArray → Prop
  | 0, s => s = ByteArray.empty
  | k + 1, s => ∃ a b o, LinesTo l k a ∧ l[k]? = some o ∧ PrintIs o b 0 ∧ s = a ++ (b ++ nlS)
theorem LinesTo.uniq {l : List Ob} : ∀ {k : Nat} {s s' : ByteArray}, LinesTo l k s → LinesTo l k s' → s = s'
  | 0, _, _, h, h' => h.trans h'.symm
  | _ + 1, _, _, ⟨_, _, _, h1, h2, h3, h4⟩, ⟨_, _, _, g1, g2, g3, g4⟩ => by
    obtain rfl := LinesTo.uniq h1 g1
    obtain rfl := Option.some.inj (h2.symm.trans g2)
    obtain ⟨rfl, _⟩ := h3.uniq g3
    rw [h4, g4]
theorem print0_size {o : Ob} {s : ByteArray} (h : PrintIs o s 0) : s.size = 80 := by
  rcases h with ⟨ok, ⟨day, hd, rfl⟩, _⟩ | ⟨_, _, h⟩
  · obtain ⟨n1, n2, _, G⟩ := line_seg ok hd
    rw [G.size]
  · cases h
theorem LinesTo.size {l : List Ob} : ∀ {k : Nat} {s : ByteArray}, LinesTo l k s → s.size = 81 * k
  | 0, _, h => by rw [h]; rfl
  | k + 1, _, ⟨_, _, _, h1, _, h3, h4⟩ => by
    rw [h4, ByteArray.size_append, ByteArray.size_append, h1.size, print0_size h3, show nlS.size = 1 from rfl]; omega
/-- What PrintAll returns. -/
def PrintAllIs (l : List Ob) (s : ByteArray) (c : Int) : Prop := (allC l = 0 ∧ LinesTo l l.length s ∧ c = 0) ∨ (allC l ≠ 0 ∧ s = ByteArray.empty ∧ c = allC l)
theorem PrintAllIs.uniq {l : List Ob} {s s' : ByteArray} {c c' : Int} (a : PrintAllIs l s c) (b : PrintAllIs l s' c') : s = s' ∧ c = c' := by
  rcases a with ⟨a1, a2, a3⟩ | ⟨a1, a2, a3⟩ <;> rcases b with ⟨b1, b2, b3⟩ | ⟨b1, b2, b3⟩
  · exact ⟨a2.uniq b2, by omega⟩
  · exact absurd a1 b1
  · exact absurd b1 a1
  · exact ⟨by rw [a2, b2], by omega⟩
/-- A line of a file. -/
def StepAt (s : ByteArray) (k : Nat) (o : Ob) : Prop := 81 * k + 81 ≤ s.size ∧ Good (s.extract (81 * k) (81 * k + 80)) o ∧ bt s (81 * k + 80) = 10
/-- The first k lines are read. -/
def PartTo (s : ByteArray) : Nat → List Ob → Prop
  | 0, l => l = []
  | k + 1, l => ∃ l' o, PartTo s k l' ∧ StepAt s k o ∧ l = l' ++ [o]
theorem PartTo.uniq {s : ByteArray} : ∀ {k : Nat} {l l' : List Ob}, PartTo s k l → PartTo s k l' → l = l'
  | 0, _, _, h, h' => h.trans h'.symm
  | _ + 1, _, _, ⟨_, _, h1, h2, h3⟩, ⟨_, _, g1, g2, g3⟩ => by
    obtain rfl := PartTo.uniq h1 g1
    obtain rfl := h2.2.1.uniq g2.2.1
    rw [h3, g3]
theorem PartTo.len {s : ByteArray} : ∀ {k : Nat} {l : List Ob}, PartTo s k l → l.length = k ∧ 81 * k ≤ s.size
  | 0, _, h => by rw [h]; exact ⟨rfl, by omega⟩
  | k + 1, _, ⟨_, _, h1, h2, h3⟩ => by
    obtain ⟨e1, e2⟩ := h1.len
    rw [h3]
    refine ⟨by simp [e1], ?_⟩
    have := h2.1
    omega
theorem PartTo.step {s : ByteArray} : ∀ {k : Nat} {l : List Ob}, PartTo s k l → ∀ j, j < k → ∃ o, StepAt s j o
  | 0, _, _, j, hj => by omega
  | k + 1, _, ⟨_, o, h1, h2, _⟩, j, hj => by
    by_cases e : j = k
    · subst e; exact ⟨o, h2⟩
    · exact h1.step j (by omega)
/-- What ParseAll returns. -/
def ParseAllIs (s : ByteArray) (l : List Ob) (c : Int) : Prop := ∃ k l', PartTo s k l' ∧
  ((81 * k = s.size ∧ k ≤ 500 ∧ l = l' ∧ c = 0) ∨ (81 * k = s.size ∧ 500 < k ∧ l = [] ∧ c = 4) ∨ (81 * k < s.size ∧ (∀ o, ¬ StepAt s k o) ∧ l = [] ∧ c = 12))
theorem ParseAllIs.uniq {s : ByteArray} {l l' : List Ob} {c c' : Int} (a : ParseAllIs s l c) (b : ParseAllIs s l' c') : l = l' ∧ c = c' := by
  obtain ⟨k, m, a1, a2⟩ := a
  obtain ⟨k', m', b1, b2⟩ := b
  have e : k = k' := by
    rcases Nat.lt_trichotomy k k' with h | h | h
    · obtain ⟨o, ho⟩ := b1.step k h
      have := b1.len.2
      have := ho.1
      rcases a2 with ⟨e, _⟩ | ⟨e, _⟩ | ⟨_, e, _⟩
      · omega
      · omega
      · exact absurd ho (e o)
    · exact h
    · obtain ⟨o, ho⟩ := a1.step k' h
      have := a1.len.2
      have := ho.1
      rcases b2 with ⟨e, _⟩ | ⟨e, _⟩ | ⟨_, e, _⟩
      · omega
      · omega
      · exact absurd ho (e o)
  subst e
  obtain rfl := a1.uniq b1
  rcases a2 with ⟨a3, a4, a5, a6⟩ | ⟨a3, a4, a5, a6⟩ | ⟨a3, a4, a5, a6⟩ <;> rcases b2 with ⟨b3, b4, b5, b6⟩ | ⟨b3, b4, b5, b6⟩ | ⟨b3, b4, b5, b6⟩
  · exact ⟨a5.trans b5.symm, by omega⟩
  · omega
  · omega
  · omega
  · exact ⟨a5.trans b5.symm, by omega⟩
  · omega
  · omega
  · omega
  · exact ⟨a5.trans b5.symm, by omega⟩
end Op
end Go.Proofs.YtaghilgfldaaiaaGreatDoor
/-
  Plain law of observations: comparing them is a total order, and what Sort returns; no walk here.
-/
namespace Go.Proofs.YtaghilgfldaaiaaGreatDoor
namespace Op
open Go.RowKit Lw Go.Proofs.YtaghilgfldaaiaaGreatDoor.Ap Go.Proofs.YtaghilgfldaaiaaGreatDoor.Mp Go.Proofs.YtaghilgfldaaiaaGreatDoor.At Go.Proofs.YtaghilgfldaaiaaGreatDoor.Ow Go.Proofs.YtaghilgfldaaiaaGreatDoor.Mw

def cI (x y : Int) : Int := if x < y then -1 else if y < x then 1 else 0
def cS (x y : ByteArray) : Int := if x.data.toList < y.data.toList then -1 else if y.data.toList < x.data.toList then 1 else 0
/-- The first number that is not 0. -/
def orL : List Int → Int
  | [] => 0
  | x :: r => if x ≠ 0 then x else orL r
theorem orL_zero {l : List Int} (h : ∀ i (hi : i < l.length), l[i] = 0) : orL l = 0 := by
  induction l with
  | nil => rfl
  | cons x r ih =>
    have h0 : x = 0 := h 0 (by simp)
    unfold orL
    rw [if_neg (by simp [h0])]
    exact ih fun i hi => by have := h (i + 1) (by simp; omega); simpa using this
theorem orL_at {l : List Int} {k : Nat} (hk : k < l.length) (h : ∀ i (hi : i < l.length), i < k → l[i] = 0) (g : l[k] ≠ 0) : orL l = l[k] := by
  induction l generalizing k with
  | nil => simp at hk
  | cons x r ih =>
    unfold orL
    match k, hk, g with
    | 0, _, g => rw [if_pos (by simpa using g)]; rfl
    | k + 1, hk, g =>
      have h0 : x = 0 := h 0 (by simp) (by omega)
      rw [if_neg (by simp [h0])]
      have := ih (k := k) (by simpa using hk) (fun i hi hik => by have := h (i + 1) (by simp; omega) (by omega); simpa using this) (by simpa using g)
      rw [this]; rfl
def cmpL (a b : Ob) : List Int := [cI a.t b.t, cS a.site b.site, cS a.name b.name, cI a.ra b.ra, cI a.dec b.dec, cI a.sg b.sg, cI a.mag b.mag, cI a.band b.band]
def cmpO (a b : Ob) : Int := orL (cmpL a b)
structure Cmp {α : Type} (c : α → α → Int) : Prop where
  anti : ∀ x y, c y x = - c x y
  trans : ∀ x y z, c x y ≤ 0 → c y z ≤ 0 → c x z ≤ 0
theorem Cmp.lt_le {α : Type} {c : α → α → Int} (h : Cmp c) {x y z : α} (a : c x y < 0) (b : c y z ≤ 0) : c x z < 0 := by
  rcases Int.lt_or_le (c x z) 0 with g | g
  · exact g
  · have e := h.anti x z
    have := h.trans y z x b (by omega)
    have e2 := h.anti x y
    omega
theorem Cmp.le_lt {α : Type} {c : α → α → Int} (h : Cmp c) {x y z : α} (a : c x y ≤ 0) (b : c y z < 0) : c x z < 0 := by
  rcases Int.lt_or_le (c x z) 0 with g | g
  · exact g
  · have e := h.anti x z
    have := h.trans z x y (by omega) a
    have e2 := h.anti y z
    omega
theorem Cmp.lex {α : Type} {c d : α → α → Int} (hc : Cmp c) (hd : Cmp d) : Cmp (fun x y => if c x y ≠ 0 then c x y else d x y) := by
  constructor
  · intro x y
    have e := hc.anti x y
    have f := hd.anti x y
    by_cases h : c x y = 0
    · rw [if_neg (by omega), if_neg (by omega)]; exact f
    · rw [if_pos (by omega), if_pos (by omega)]; exact e
  · intro x y z h1 h2
    by_cases a : c x y = 0
    · rw [if_neg (by omega)] at h1
      by_cases b : c y z = 0
      · rw [if_neg (by omega)] at h2
        have t1 := hc.trans x y z (by omega) (by omega)
        have e1 := hc.anti x y
        have e2 := hc.anti y z
        have e3 := hc.anti x z
        have t2 := hc.trans z y x (by omega) (by omega)
        rw [if_neg (by omega)]
        exact hd.trans x y z h1 h2
      · rw [if_pos b] at h2
        have := hc.le_lt (x := x) (y := y) (z := z) (by omega) (by omega)
        rw [if_pos (by omega)]; omega
    · rw [if_pos a] at h1
      have : c y z ≤ 0 := by
        by_cases b : c y z = 0
        · omega
        · rw [if_pos b] at h2; exact h2
      have := hc.lt_le (x := x) (y := y) (z := z) (by omega) this
      rw [if_pos (by omega)]; omega
theorem Cmp.on {α β : Type} {c : α → α → Int} (hc : Cmp c) (f : β → α) : Cmp (fun x y => c (f x) (f y)) := ⟨fun _ _ => hc.anti _ _, fun _ _ _ => hc.trans _ _ _⟩
theorem Cmp.none {α : Type} : Cmp (fun _ _ : α => (0 : Int)) := ⟨fun _ _ => rfl, fun _ _ _ _ _ => Int.le_refl _⟩
theorem cmp_I : Cmp cI := ⟨fun x y => by unfold cI; split <;> split <;> (first | omega | (split <;> omega)), fun x y z h1 h2 => by unfold cI at *; split at h1 <;> split at h2 <;> (repeat' split at h1) <;> (repeat' split at h2) <;> (repeat' split) <;> omega⟩
theorem cS_le {x y : ByteArray} : cS x y ≤ 0 ↔ ¬ y.data.toList < x.data.toList := by
  unfold cS
  by_cases h : x.data.toList < y.data.toList
  · rw [if_pos h]
    exact ⟨fun _ g => List.lt_irrefl _ (List.lt_trans h g), fun _ => by decide⟩
  · rw [if_neg h]
    by_cases g : y.data.toList < x.data.toList
    · rw [if_pos g]; exact ⟨fun k => absurd k (by decide), fun k => absurd g k⟩
    · rw [if_neg g]; exact ⟨fun _ => g, fun _ => Int.le_refl _⟩
theorem cmp_S : Cmp cS := by
  constructor
  · intro x y
    unfold cS
    by_cases h : x.data.toList < y.data.toList
    · rw [if_pos h, if_neg (fun g => List.lt_irrefl _ (List.lt_trans h g)), if_pos h]; rfl
    · rw [if_neg h]
      by_cases g : y.data.toList < x.data.toList
      · rw [if_pos g, if_pos g, if_neg h]
      · rw [if_neg g, if_neg g, if_neg h]; rfl
  · intro x y z h1 h2
    rw [cS_le] at *
    rw [List.not_lt] at *
    exact List.le_trans h1 h2
theorem cI_zero {x y : Int} (h : cI x y = 0) : x = y := by
  unfold cI at h
  split at h
  · cases h
  · split at h
    · cases h
    · omega
theorem cS_zero {x y : ByteArray} (h : cS x y = 0) : x = y := by
  have a := cS_le (x := x) (y := y)
  have b := cS_le (x := y) (y := x)
  have e := cmp_S.anti x y
  apply toL_inj
  exact List.le_antisymm (List.not_lt.1 (a.1 (by omega))) (List.not_lt.1 (b.1 (by omega)))
theorem cmpO_eq : cmpO = fun a b : Ob => if cI a.t b.t ≠ 0 then cI a.t b.t else if cS a.site b.site ≠ 0 then cS a.site b.site else if cS a.name b.name ≠ 0 then cS a.name b.name else if cI a.ra b.ra ≠ 0 then cI a.ra b.ra else if cI a.dec b.dec ≠ 0 then cI a.dec b.dec else if cI a.sg b.sg ≠ 0 then cI a.sg b.sg else if cI a.mag b.mag ≠ 0 then cI a.mag b.mag else if cI a.band b.band ≠ 0 then cI a.band b.band else 0 := rfl
theorem cmp_O : Cmp cmpO := by
  rw [cmpO_eq]
  exact (cmp_I.on Ob.t).lex ((cmp_S.on Ob.site).lex ((cmp_S.on Ob.name).lex ((cmp_I.on Ob.ra).lex ((cmp_I.on Ob.dec).lex ((cmp_I.on Ob.sg).lex ((cmp_I.on Ob.mag).lex ((cmp_I.on Ob.band).lex Cmp.none)))))))
theorem orL_eq0 {l : List Int} (h : orL l = 0) : ∀ x ∈ l, x = 0 := by
  induction l with
  | nil => intro x hx; cases hx
  | cons y r ih =>
    unfold orL at h
    by_cases g : y = 0
    · rw [if_neg (by omega)] at h
      intro x hx
      rcases List.mem_cons.1 hx with rfl | hx
      · exact g
      · exact ih h x hx
    · rw [if_pos g] at h; exact absurd h g
theorem cmpO_zero {a b : Ob} (h : cmpO a b = 0) : a = b := by
  have k := orL_eq0 (l := cmpL a b) h
  unfold cmpL at k
  have e1 := cI_zero (k (cI a.t b.t) (by simp))
  have e2 := cS_zero (k (cS a.site b.site) (by simp))
  have e3 := cS_zero (k (cS a.name b.name) (by simp))
  have e4 := cI_zero (k (cI a.ra b.ra) (by simp))
  have e5 := cI_zero (k (cI a.dec b.dec) (by simp))
  have e6 := cI_zero (k (cI a.sg b.sg) (by simp))
  have e7 := cI_zero (k (cI a.mag b.mag) (by simp))
  have e8 := cI_zero (k (cI a.band b.band) (by simp))
  cases a; cases b
  simp only at e1 e2 e3 e4 e5 e6 e7 e8
  rw [e1, e2, e3, e4, e5, e6, e7, e8]
theorem cmpO_refl (a : Ob) : cmpO a a = 0 := by have := cmp_O.anti a a; omega
def ordL (x : List Ob) : Prop := x.Pairwise fun a b => cmpO a b ≤ 0
/-- What Sort returns. -/
def SortIs (l x : List Ob) (c : Int) : Prop := (allC l = 0 ∧ x.Perm l ∧ ordL x ∧ c = 0) ∨ (allC l ≠ 0 ∧ x = [] ∧ c = allC l)
theorem ordL_uniq {x y : List Ob} (hp : x.Perm y) (hx : ordL x) (hy : ordL y) : x = y :=
  List.Perm.eq_of_pairwise (le := fun a b => cmpO a b ≤ 0) (fun a b _ _ h1 h2 => cmpO_zero (by have := cmp_O.anti a b; omega)) hx hy hp
theorem SortIs.uniq {l x y : List Ob} {c d : Int} (a : SortIs l x c) (b : SortIs l y d) : x = y ∧ c = d := by
  rcases a with ⟨a1, a2, a3, a4⟩ | ⟨a1, a2, a3⟩ <;> rcases b with ⟨b1, b2, b3, b4⟩ | ⟨b1, b2, b3⟩
  · exact ⟨ordL_uniq (a2.trans b2.symm) a3 b3, by omega⟩
  · exact absurd a1 b1
  · exact absurd b1 a1
  · exact ⟨by rw [a2, b2], by omega⟩
end Op
end Go.Proofs.YtaghilgfldaaiaaGreatDoor
/-
  Plain law of merging: which observations are kept; no walk here.
-/
namespace Go.Proofs.YtaghilgfldaaiaaGreatDoor
namespace Vp
open Go.RowKit Lw Go.Proofs.YtaghilgfldaaiaaGreatDoor.Ap Go.Proofs.YtaghilgfldaaiaaGreatDoor.Op Go.Proofs.YtaghilgfldaaiaaGreatDoor.Mp Go.Proofs.YtaghilgfldaaiaaGreatDoor.Mw

/-- What tells duplicates. -/
structure Ky where
  name : ByteArray
  site : ByteArray
  t : Int
deriving DecidableEq
def kyOf (o : Ob) : Ky := ⟨o.name, o.site, o.t⟩
def betP (a b : Ob) : Prop := a.sg < b.sg ∨ (a.sg = b.sg ∧ cmpO a b < 0)
instance (a b : Ob) : Decidable (betP a b) := by unfold betP; infer_instance
instance (a b : Ob) : Decidable (kyOf a = kyOf b) := inferInstance
theorem betP_irrefl (a : Ob) : ¬ betP a a := by
  unfold betP
  rw [cmpO_refl]
  omega
theorem betP_total {a b : Ob} (h : a ≠ b) : betP a b ∨ betP b a := by
  unfold betP
  have := cmp_O.anti a b
  have : cmpO a b ≠ 0 := fun e => h (cmpO_zero e)
  omega
/-- The k-th of a list beats the i-th. -/
def beats (l : List Ob) (i k : Nat) : Prop := ∃ (hi : i < l.length) (hk : k < l.length), k ≠ i ∧ kyOf l[i] = kyOf l[k] ∧ (betP l[k] l[i] ∨ (k < i ∧ ¬ betP l[i] l[k]))
instance (l : List Ob) (i k : Nat) : Decidable (beats l i k) := by unfold beats; infer_instance
/-- None of the first n beats the i-th. -/
def bestN (l : List Ob) (i n : Nat) : Prop := ∀ k, k < n → ¬ beats l i k
instance (l : List Ob) (i n : Nat) : Decidable (bestN l i n) := by unfold bestN; infer_instance
abbrev bestP (l : List Ob) (i : Nat) : Prop := bestN l i l.length
theorem bestN_zero (l : List Ob) (i : Nat) : bestN l i 0 := fun k h => by omega
theorem bestN_succ {l : List Ob} {i n : Nat} : bestN l i (n + 1) ↔ bestN l i n ∧ ¬ beats l i n := by
  constructor
  · exact fun h => ⟨fun k hk => h k (by omega), h n (by omega)⟩
  · rintro ⟨h, g⟩ k hk
    by_cases e : k = n
    · rw [e]; exact g
    · exact h k (by omega)
/-- What is kept of the first n, and what is dropped. -/
def keptTo (l : List Ob) (n : Nat) : List Ob := ((List.range n).filter fun i => decide (bestP l i)).filterMap fun i => l[i]?
def dropTo (l : List Ob) (n : Nat) : List Nat := (List.range n).filter fun i => decide (¬ bestP l i)
theorem keptTo_yes {l : List Ob} {n : Nat} (hn : n < l.length) (h : bestP l n) : keptTo l (n + 1) = keptTo l n ++ [l[n]] := by
  unfold keptTo
  rw [List.range_succ, List.filter_append, List.filterMap_append]
  simp [h, hn]
theorem keptTo_no {l : List Ob} {n : Nat} (h : ¬ bestP l n) : keptTo l (n + 1) = keptTo l n := by
  unfold keptTo
  rw [List.range_succ, List.filter_append, List.filterMap_append]
  simp [h]
theorem dropTo_yes {l : List Ob} {n : Nat} (h : bestP l n) : dropTo l (n + 1) = dropTo l n := by
  unfold dropTo
  rw [List.range_succ, List.filter_append]
  simp [h]
theorem dropTo_no {l : List Ob} {n : Nat} (h : ¬ bestP l n) : dropTo l (n + 1) = dropTo l n ++ [n] := by
  unfold dropTo
  rw [List.range_succ, List.filter_append]
  simp [h]
theorem keptTo_len (l : List Ob) : ∀ n, (keptTo l n).length + (dropTo l n).length ≤ n ∧ (n ≤ l.length → (keptTo l n).length + (dropTo l n).length = n)
  | 0 => ⟨Nat.le_refl _, fun _ => rfl⟩
  | n + 1 => by
    have ih := keptTo_len l n
    by_cases h : bestP l n
    · rw [dropTo_yes h]
      by_cases hn : n < l.length
      · rw [keptTo_yes hn h, List.length_append]
        simp only [List.length_cons, List.length_nil]
        omega
      · refine ⟨?_, fun g => by omega⟩
        have : keptTo l (n + 1) = keptTo l n := by
          unfold keptTo
          rw [List.range_succ, List.filter_append, List.filterMap_append]
          simp [h, hn]
        rw [this]
        omega
    · rw [dropTo_no h, keptTo_no h, List.length_append]
      simp only [List.length_cons, List.length_nil]
      omega
theorem keptTo_mem {l : List Ob} {n : Nat} {o : Ob} (h : o ∈ keptTo l n) : ∃ i, ∃ hi : i < l.length, i < n ∧ bestP l i ∧ l[i] = o := by
  unfold keptTo at h
  obtain ⟨i, hi, e⟩ := List.mem_filterMap.1 h
  obtain ⟨h1, h2⟩ := List.mem_filter.1 hi
  obtain ⟨h3, h4⟩ := List.getElem?_eq_some_iff.1 e
  exact ⟨i, h3, List.mem_range.1 h1, of_decide_eq_true h2, h4⟩
theorem kept_ok {l : List Ob} (h : allC l = 0) (n : Nat) (hn : n ≤ l.length) : allC (keptTo l n) = 0 := by
  obtain ⟨h1, h2⟩ := allC_ok h
  have := keptTo_len l n
  refine allC_zero (by omega) fun o ho => ?_
  obtain ⟨i, hi, _, _, rfl⟩ := keptTo_mem ho
  exact h2 _ (List.getElem_mem hi)
/-- What Merge returns. -/
def MergeIs (l kept : List Ob) (dropped : List Nat) (c : Int) : Prop := (allC l = 0 ∧ kept.Perm (keptTo l l.length) ∧ ordL kept ∧ dropped = dropTo l l.length ∧ c = 0) ∨ (allC l ≠ 0 ∧ kept = [] ∧ dropped = [] ∧ c = allC l)
theorem MergeIs.uniq {l x y : List Ob} {p q : List Nat} {c d : Int} (a : MergeIs l x p c) (b : MergeIs l y q d) : x = y ∧ p = q ∧ c = d := by
  rcases a with ⟨a1, a2, a3, a4, a5⟩ | ⟨a1, a2, a3, a4⟩ <;> rcases b with ⟨b1, b2, b3, b4, b5⟩ | ⟨b1, b2, b3, b4⟩
  · exact ⟨ordL_uniq (a2.trans b2.symm) a3 b3, by rw [a4, b4], by omega⟩
  · exact absurd a1 b1
  · exact absurd b1 a1
  · exact ⟨by rw [a2, b2], by rw [a3, b3], by omega⟩

/-! ### The program's way: the best of each key, out of the sorted list -/
/-- The best of those that have a key. -/
def BstOf (x : List Ob) (k : Ky) (r : Option Ob) : Prop := match r with
  | none => ∀ o ∈ x, kyOf o ≠ k
  | some m => m ∈ x ∧ kyOf m = k ∧ ∀ o ∈ x, kyOf o = k → ¬ betP o m
theorem BstOf.nil (k : Ky) : BstOf [] k none := fun o h => by cases h
theorem bst_other {x : List Ob} {k : Ky} {r : Option Ob} {o : Ob} (h : BstOf x k r) (g : kyOf o ≠ k) : BstOf (x ++ [o]) k r := by
  cases r with
  | none =>
    intro p hp
    rcases List.mem_append.1 hp with hp | hp
    · exact h p hp
    · rw [List.mem_singleton.1 hp]; exact g
  | some m =>
    obtain ⟨h1, h2, h3⟩ := h
    refine ⟨List.mem_append_left _ h1, h2, fun p hp e => ?_⟩
    rcases List.mem_append.1 hp with hp | hp
    · exact h3 p hp e
    · rw [List.mem_singleton.1 hp] at e; exact absurd e g
theorem bst_first {x : List Ob} {o : Ob} (h : BstOf x (kyOf o) none) : BstOf (x ++ [o]) (kyOf o) (some o) := by
  refine ⟨List.mem_append_right _ (List.mem_singleton.2 rfl), rfl, fun p hp e => ?_⟩
  rcases List.mem_append.1 hp with hp | hp
  · exact absurd e (h p hp)
  · rw [List.mem_singleton.1 hp]; exact betP_irrefl o
theorem bst_less {x : List Ob} {o b : Ob} (h : BstOf x (kyOf o) (some b)) (g : o.sg < b.sg) : BstOf (x ++ [o]) (kyOf o) (some o) := by
  obtain ⟨_, _, h3⟩ := h
  refine ⟨List.mem_append_right _ (List.mem_singleton.2 rfl), rfl, fun p hp e => ?_⟩
  rcases List.mem_append.1 hp with hp | hp
  · have := h3 p hp e
    unfold betP at *
    omega
  · rw [List.mem_singleton.1 hp]; exact betP_irrefl o
theorem bst_keep {x : List Ob} {o b : Ob} (h : BstOf x (kyOf o) (some b)) (g : ¬ o.sg < b.sg) (so : ∀ p ∈ x, cmpO p o ≤ 0) : BstOf (x ++ [o]) (kyOf o) (some b) := by
  obtain ⟨h1, h2, h3⟩ := h
  refine ⟨List.mem_append_left _ h1, h2, fun p hp e => ?_⟩
  rcases List.mem_append.1 hp with hp | hp
  · exact h3 p hp e
  · rw [List.mem_singleton.1 hp]
    have := so b h1
    have e := cmp_O.anti b o
    unfold betP
    omega
theorem BstOf.perm {x y : List Ob} {k : Ky} {r : Option Ob} (h : BstOf x k r) (p : x.Perm y) : BstOf y k r := by
  cases r with
  | none => exact fun o ho => h o (p.mem_iff.2 ho)
  | some m =>
    obtain ⟨h1, h2, h3⟩ := h
    exact ⟨p.mem_iff.1 h1, h2, fun o ho e => h3 o (p.mem_iff.2 ho) e⟩
theorem ordL_take {x : List Ob} (h : ordL x) {j : Nat} (hj : j < x.length) : ∀ p ∈ x.take j, cmpO p x[j] ≤ 0 := by
  intro p hp
  obtain ⟨i, hi, e⟩ := List.getElem_of_mem hp
  rw [List.length_take] at hi
  rw [← e, List.getElem_take]
  exact List.pairwise_iff_getElem.1 h i j (by omega) hj (by omega)
def updF (f : Ky → Option Ob) (k : Ky) (r : Option Ob) : Ky → Option Ob := fun k' => if k' = k then r else f k'
theorem bsts_first {x : List Ob} {j : Nat} (hj : j < x.length) {f : Ky → Option Ob} {o : Ob} (ho : x[j] = o) (H : ∀ k, BstOf (x.take j) k (f k)) (hf : f (kyOf o) = none) : ∀ k, BstOf (x.take (j + 1)) k (updF f (kyOf o) (some o) k) := fun k => by
  rw [List.take_succ_eq_append_getElem hj, ho]
  unfold updF
  by_cases e : k = kyOf o
  · rw [if_pos e, e]
    have := H (kyOf o)
    rw [hf] at this
    exact bst_first this
  · rw [if_neg e]
    exact bst_other (H k) (Ne.symm e)
theorem bsts_less {x : List Ob} {j : Nat} (hj : j < x.length) {f : Ky → Option Ob} {o b : Ob} (ho : x[j] = o) (H : ∀ k, BstOf (x.take j) k (f k)) (hf : f (kyOf o) = some b) (g : o.sg < b.sg) : ∀ k, BstOf (x.take (j + 1)) k (updF f (kyOf o) (some o) k) := fun k => by
  rw [List.take_succ_eq_append_getElem hj, ho]
  unfold updF
  by_cases e : k = kyOf o
  · rw [if_pos e, e]
    have := H (kyOf o)
    rw [hf] at this
    exact bst_less this g
  · rw [if_neg e]
    exact bst_other (H k) (Ne.symm e)
theorem bsts_keep {x : List Ob} {j : Nat} (hj : j < x.length) (hx : ordL x) {f : Ky → Option Ob} {o b : Ob} (ho : x[j] = o) (H : ∀ k, BstOf (x.take j) k (f k)) (hf : f (kyOf o) = some b) (g : ¬ o.sg < b.sg) : ∀ k, BstOf (x.take (j + 1)) k (f k) := fun k => by
  have so := ordL_take hx hj
  rw [List.take_succ_eq_append_getElem hj, ho]
  rw [ho] at so
  by_cases e : k = kyOf o
  · rw [e, hf]
    have := H (kyOf o)
    rw [hf] at this
    exact bst_keep this g so
  · exact bst_other (H k) (Ne.symm e)
/-- What the map holds behind i of the list: the best of a key, if it is still to come. -/
def LeftOf (l : List Ob) (i : Nat) (k : Ky) (r : Option Ob) : Prop := (BstOf l k none ∧ r = none) ∨ ∃ o, BstOf l k (some o) ∧ ((o ∈ l.take i ∧ r = none) ∨ (¬ o ∈ l.take i ∧ r = some o))
theorem left_start {l : List Ob} {k : Ky} {r : Option Ob} (h : BstOf l k r) : LeftOf l 0 k r := by
  cases r with
  | none => exact Or.inl ⟨h, rfl⟩
  | some o => exact Or.inr ⟨o, h, Or.inr ⟨by simp, rfl⟩⟩
theorem take_mem {l : List Ob} {i : Nat} (hi : i < l.length) {o : Ob} : o ∈ l.take (i + 1) ↔ o ∈ l.take i ∨ o = l[i] := by
  rw [List.take_succ_eq_append_getElem hi, List.mem_append, List.mem_singleton]
theorem left_other {l : List Ob} {i : Nat} (hi : i < l.length) {k : Ky} {r : Option Ob} (h : LeftOf l i k r) (g : kyOf l[i] ≠ k) : LeftOf l (i + 1) k r := by
  rcases h with h | ⟨o, hm, h⟩
  · exact Or.inl h
  · have : o ≠ l[i] := fun x => g (by rw [← x]; exact hm.2.1)
    refine Or.inr ⟨o, hm, ?_⟩
    rw [take_mem hi]
    rcases h with ⟨h1, h2⟩ | ⟨h1, h2⟩
    · exact Or.inl ⟨Or.inl h1, h2⟩
    · exact Or.inr ⟨fun x => by rcases x with x | x; exact h1 x; exact this x, h2⟩
/-- The i-th is kept just where it is what the map holds. -/
theorem left_best {l : List Ob} {i : Nat} (hi : i < l.length) {r : Option Ob} (h : LeftOf l i (kyOf l[i]) r) : r = some l[i] ↔ bestP l i := by
  rcases h with ⟨hm, _⟩ | ⟨o, ⟨h1, h2, h3⟩, h⟩
  · exact absurd rfl (hm _ (List.getElem_mem hi))
  · constructor
    · intro q
      rcases h with ⟨_, e⟩ | ⟨hn, e⟩
      · rw [q] at e; cases e
      · rw [q] at e
        have eo := Option.some.inj e
        intro k hk hb
        obtain ⟨_, hk', hne, hky, hor⟩ := hb
        rcases hor with hor | ⟨hlt, hor⟩
        · rw [eo] at hor
          exact h3 _ (List.getElem_mem hk') hky.symm hor
        · by_cases hq : l[k] = l[i]
          · apply hn
            rw [← eo, ← hq]
            exact List.mem_take_iff_getElem.2 ⟨k, by omega, rfl⟩
          · rcases betP_total hq with hb | hb
            · rw [eo] at hb
              exact h3 _ (List.getElem_mem hk') hky.symm hb
            · exact hor hb
    · intro hb
      have ho : o = l[i] := by
        refine Classical.byContradiction fun hne => ?_
        obtain ⟨k, hk, ek⟩ := List.getElem_of_mem h1
        have hb1 : betP o l[i] := by
          rcases betP_total hne with hb1 | hb1
          · exact hb1
          · exact absurd hb1 (h3 _ (List.getElem_mem hi) rfl)
        refine hb k hk ⟨hi, hk, fun e => ?_, ?_, Or.inl (by rw [ek]; exact hb1)⟩
        · subst e; exact hne ek.symm
        · rw [ek]; exact h2.symm
      have hn : ¬ o ∈ l.take i := by
        intro hin
        obtain ⟨k, hk, ek⟩ := List.mem_take_iff_getElem.1 hin
        refine hb k (by omega) ⟨hi, by omega, by omega, ?_, Or.inr ⟨by omega, ?_⟩⟩
        · rw [ek, ho]
        · rw [ek, ho]; exact betP_irrefl _
      rcases h with ⟨h, _⟩ | ⟨_, e⟩
      · exact absurd h hn
      · rw [e, ho]
theorem left_gone {l : List Ob} {i : Nat} (hi : i < l.length) {k : Ky} (h : LeftOf l i k (some l[i])) : LeftOf l (i + 1) k none := by
  rcases h with ⟨_, h⟩ | ⟨o, hm, h⟩
  · cases h
  · rcases h with ⟨_, h⟩ | ⟨_, h⟩
    · cases h
    · have e := Option.some.inj h
      exact Or.inr ⟨o, hm, Or.inl ⟨(take_mem hi).2 (Or.inr e.symm), rfl⟩⟩
theorem left_same {l : List Ob} {i : Nat} (hi : i < l.length) {k : Ky} {r : Option Ob} (h : LeftOf l i k r) (g : r ≠ some l[i]) : LeftOf l (i + 1) k r := by
  rcases h with h | ⟨o, hm, h⟩
  · exact Or.inl h
  · refine Or.inr ⟨o, hm, ?_⟩
    rw [take_mem hi]
    rcases h with ⟨h1, h2⟩ | ⟨h1, h2⟩
    · exact Or.inl ⟨Or.inl h1, h2⟩
    · exact Or.inr ⟨fun x => by
        rcases x with x | x
        · exact h1 x
        · rw [x] at h2; exact g h2, h2⟩
theorem lefts_start {l x : List Ob} {f : Ky → Option Ob} (hp : x.Perm l) (H : ∀ k, BstOf x k (f k)) : ∀ k, LeftOf l 0 k (f k) := fun k => left_start ((H k).perm hp)
theorem lefts_kept {l : List Ob} {i : Nat} (hi : i < l.length) {f : Ky → Option Ob} {o : Ob} (ho : l[i] = o) (H : ∀ k, LeftOf l i k (f k)) (hf : f (kyOf o) = some o) : (∀ k, LeftOf l (i + 1) k (updF f (kyOf o) none k)) ∧ keptTo l (i + 1) = keptTo l i ++ [o] ∧ dropTo l (i + 1) = dropTo l i := by
  subst ho
  have b : bestP l i := (left_best hi (H (kyOf l[i]))).1 hf
  refine ⟨fun k => ?_, keptTo_yes hi b, dropTo_yes b⟩
  unfold updF
  by_cases e : k = kyOf l[i]
  · rw [if_pos e]
    subst e
    have := H (kyOf l[i])
    rw [hf] at this
    exact left_gone hi this
  · rw [if_neg e]
    exact left_other hi (H k) (Ne.symm e)
theorem lefts_dropped {l : List Ob} {i : Nat} (hi : i < l.length) {f : Ky → Option Ob} {o : Ob} (ho : l[i] = o) (H : ∀ k, LeftOf l i k (f k)) (hf : f (kyOf o) ≠ some o) : (∀ k, LeftOf l (i + 1) k (f k)) ∧ keptTo l (i + 1) = keptTo l i ∧ dropTo l (i + 1) = dropTo l i ++ [i] := by
  subst ho
  have b : ¬ bestP l i := fun g => hf ((left_best hi (H (kyOf l[i]))).2 g)
  refine ⟨fun k => ?_, keptTo_no b, dropTo_no b⟩
  by_cases e : k = kyOf l[i]
  · subst e
    exact left_same hi (H _) hf
  · exact left_other hi (H k) (Ne.symm e)
end Vp
end Go.Proofs.YtaghilgfldaaiaaGreatDoor
