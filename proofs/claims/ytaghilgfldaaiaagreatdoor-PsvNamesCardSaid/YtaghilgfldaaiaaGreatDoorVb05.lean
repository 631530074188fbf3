/-
  Lemmas and walks, texts joined: VMag, ONumb, OCheck, VCell, OMag, OLine, OPut, OLine2, OSeg, ORMag, OGood, OName, OCand, MRDay, MTDAny, OPrint, OParse, OParse2, OGood2, OAny.
-/
import Derived.Deep.Cut
import Derived.Deep.RegionHeld3
import Derived.Laws.IdiomCopy
import Derived.Laws.DeepBits32
import Derived.RegionTactic
import Derived.BigRegion
import Derived.StillTailTactics
import Derived.Test.YtaghilgfldaaiaaGreatDoorVb04
import Derived.Test.YtaghilgfldaaiaaGreatDoorVb02
import Derived.Test.YtaghilgfldaaiaaGreatDoorVb01
import Derived.Test.YtaghilgfldaaiaaGreatDoorVb03
set_option linter.unusedSimpArgs false
set_option linter.unusedVariables false
/-
  The reader of a magnitude of psv.
-/
namespace Go.Proofs.YtaghilgfldaaiaaGreatDoor
namespace Vw
open Go.RowKit Lw Go.Proofs.YtaghilgfldaaiaaGreatDoor.Ap Go.Proofs.YtaghilgfldaaiaaGreatDoor.Vp Go.Proofs.YtaghilgfldaaiaaGreatDoor.Op Go.Proofs.YtaghilgfldaaiaaGreatDoor.Ow

theorem pre_minus (l : List UInt8) : Lib.hasPrefix l [45] = (l.head? == some 45) ∧ Lib.trimPrefix l [45] = if (l.head? == some 45) then l.tail else l := by
  cases l with
  | nil => exact ⟨rfl, rfl⟩
  | cons a l =>
    have e1 : Lib.hasPrefix (a :: l) [45] = ((a :: l).head? == some 45) := by
      unfold Lib.hasPrefix
      simp only [List.isPrefixOf, Bool.and_true, List.head?_cons]
      by_cases h : a = 45
      · subst h; rfl
      · rw [show ((45 : UInt8) == a) = false from beq_eq_false_iff_ne.2 (fun e => h e.symm)]
        exact (beq_eq_false_iff_ne.2 (fun e => h (Option.some.inj e))).symm
    refine ⟨e1, ?_⟩
    unfold Lib.trimPrefix
    rw [e1]
    rfl
set_option maxRecDepth 100000 in
set_option maxHeartbeats 8000000 in
theorem rd6_any (s : ByteArray) (b : Nat) (o : Ob) (w : World) (hb : Rw w b (obsC o)) (hM : MX w) (hs : s.size ≤ 100000) :
    Calls Tryz.prog 79 #[.pointer (some ⟨b, 0, none⟩), .string s] w (RdrPost 6 s b o w) := by
  have HB := Lib.hid hb
  obtain ⟨_, m, hm⟩ := hM
  clear hb
  by_cases z : s.size = 0
  · have em := sz_yes z
    have F := Lib.hid (show readF 6 s o = some o by show (if s.size = 0 then _ else _) = _; rw [if_pos z])
    clear hm
    go_enter Tryz.func79, Tryz.ntmps79
    go_wp2_with fail
    first
      | (go_end0; exact ⟨Or.inl ⟨_, F.out, rfl, HB.out⟩, Only.refl b w⟩)
      | (refine bodyPost_ret (results_none rfl _ _ _) rfl ?_; exact ⟨Or.inl ⟨_, F.out, rfl, HB.out⟩, Only.refl b w⟩)
  have em := sz_no z
  have FF : readF 6 s o = (magR s.data.toList).map fun n => { o with mag := n } := by show (if s.size = 0 then _ else _) = _; rw [if_neg z]
  obtain ⟨p1, p2⟩ := pre_minus s.data.toList
  have CP := Lib.hid (fun w => Tryz.strings_CutPrefix s ⟨#[45]⟩ w)
  have e45 : (⟨#[45]⟩ : ByteArray).data.toList = [45] := rfl
  rw [e45, p1, p2] at CP
  unfold magR at FF
  obtain ⟨mn, hmn⟩ : ∃ mn, (s.data.toList.head? == some 45) = mn := ⟨_, rfl⟩
  rw [hmn] at CP FF
  obtain ⟨R, hR⟩ : ∃ R, (if mn = true then s.data.toList.tail else s.data.toList) = R := ⟨_, rfl⟩
  have lR : R.length ≤ s.size := by
    have zl : s.data.toList.length = s.size := rfl
    rw [← hR]
    cases mn
    · exact Nat.le_of_eq zl
    · simp only [if_true, List.length_tail]; omega
  rw [hR] at CP FF
  have CU := Lib.hid (Tryz.strings_Cut ⟨R.toArray⟩ ⟨#[46]⟩ m w (by rw [show (⟨R.toArray⟩ : ByteArray).size = R.length by simp [ByteArray.size]]; omega) hm)
  have e46 : (⟨#[46]⟩ : ByteArray).data.toList = [46] := rfl
  have eR : (⟨R.toArray⟩ : ByteArray).data.toList = R := rfl
  rw [e46, eR] at CU
  have lc : (Lib.cut R [46]).1.length ≤ R.length ∧ (Lib.cut R [46]).2.1.length ≤ R.length := by
    unfold Lib.cut
    split
    · exact ⟨by simp only [List.length_take]; omega, by simp only [List.length_drop]; omega⟩
    · exact ⟨Nat.le_refl _, by simp⟩
  generalize Lib.cut R [46] = C at *
  obtain ⟨F, G, pt⟩ := C
  unfold magC at FF
  try simp only at FF
  try simp only at CU
  try simp only at lc
  have N1 := Lib.hid (fun w => numr_any ⟨F.toArray⟩ 1 2 w (by rw [show (⟨F.toArray⟩ : ByteArray).size = F.length by simp [ByteArray.size]]; unfold maxLen; omega) (by omega))
  have N2 := Lib.hid (fun w => numr_any ⟨G.toArray⟩ 1 2 w (by rw [show (⟨G.toArray⟩ : ByteArray).size = G.length by simp [ByteArray.size]]; unfold maxLen; omega) (by omega))
  have eG : (⟨G.toArray⟩ : ByteArray).size = G.length := by simp [ByteArray.size]
  have EF : (⟨F.toArray⟩ : ByteArray).data.toList = F := rfl
  have EG : (⟨G.toArray⟩ : ByteArray).data.toList = G := rfl
  have H1 := Lib.hid EF
  have H2 := Lib.hid EG
  have FQ := Lib.hid FF
  clear FF hR hmn p1 p2 e45 e46 eR lR hm EF EG z lc
  obtain ⟨SR, hSR⟩ : ∃ SR : ByteArray, ⟨R.toArray⟩ = SR := ⟨_, rfl⟩
  obtain ⟨SF, hSF⟩ : ∃ SF : ByteArray, ⟨F.toArray⟩ = SF := ⟨_, rfl⟩
  obtain ⟨SG, hSG⟩ : ∃ SG : ByteArray, ⟨G.toArray⟩ = SG := ⟨_, rfl⟩
  rw [hSR] at CP CU
  rw [hSF] at CU N1 H1
  rw [hSG] at CU N2 H2 eG
  clear hSR hSF hSG
  go_enter Tryz.func79, Tryz.ntmps79
  go_wp2_with fail
  refine (CP.out _).mono ?_
  rintro e w1 ⟨rfl, rfl⟩
  clear CP
  go_wp2_with fail
  refine CU.out.mono ?_
  rintro e w2 ⟨rfl, n, rfl⟩
  have B2 := Lib.hid (drewN_below2 (Below.refl w1.heap.size w1) n)
  have R2 := Lib.hid (HB.out.call B2.out)
  have O2 := Lib.hid (show Only b w1 (w1.drewN n) from Only.of (Nat.le_of_lt HB.out.lt) B2.out)
  clear CU HB B2
  generalize w1.drewN n = w2 at *
  go_wp2_with fail
  refine (N1.out _).mono ?_
  rintro e w3 ⟨h, hb3⟩
  have R3 := Lib.hid (R2.out.call hb3)
  have O3 := Lib.hid (O2.out.trans (Only.of (Nat.le_of_lt R2.out.lt) hb3))
  clear N1 R2 O2 hb3
  rw [H1.out] at h
  rcases h with ⟨a, h, a0, a1, rfl⟩ | ⟨h, rfl⟩
  · replace FQ := Lib.hid (show readF 6 s o = ((if pt = true then (numR G 1 2).map fun k => 100 * a + (if G.length = 1 then 10 * k else k) else some (100 * a)).bind fun n => if n ≤ 3000 ∧ (0 < n ∨ mn = false) then some (if mn = true then -n else n) else none).map fun n => { o with mag := n } from by rw [FQ.out, h]; rfl)
    clear h
    cases pt
    · replace FQ := Lib.hid (show readF 6 s o = (if 100 * a ≤ 3000 ∧ (0 < 100 * a ∨ mn = false) then some (if mn = true then -(100 * a) else 100 * a) else none).map fun n => { o with mag := n } from FQ.out)
      clear N2
      go_upto_region 9 with fail
      obtain ⟨N, hN⟩ : ∃ N, 100 * a = N := ⟨_, rfl⟩
      rw [hN] at FQ
      try rw [hN]
      have NB : -100000000000000 ≤ N ∧ N ≤ 100000000000000 := by omega
      clear hN a0 a1
      by_cases z1 : N ≤ 3000
      · by_cases z2 : 0 < N
        · have d2 : decide (0 < N) = true := decide_eq_true z2
          cases mn
          · have NN : N ≤ 3000 ∧ (0 < N ∨ false = false) := ⟨z1, Or.inl z2⟩
            have F2 := Lib.hid (show readF 6 s o = some { o with mag := N } from by rw [FQ.out, if_pos NN]; rfl)
            have c := R3.out.cell (j := 6) (v := .int .i64 o.mag) rfl
            have f := R3.out.free (j := 6) (by show 6 < 8; decide)
            have P := Lib.hid (R3.out.put 6 (.int .i64 (N)) { o with mag := N } (by decide) rfl)
            clear FQ NN R3
            go_wp2_with fail
            refine (need_yes _).mono ?_
            rintro e w5 ⟨rfl, rfl⟩
            go_wp2_with fail
            go_end0
            exact ⟨Or.inl ⟨_, F2.out, rfl, P.out⟩, O3.out.trans (Only.set b 6 _ w3)⟩
          · have NN : N ≤ 3000 ∧ (0 < N ∨ true = false) := ⟨z1, Or.inl z2⟩
            have F2 := Lib.hid (show readF 6 s o = some { o with mag := -N } from by rw [FQ.out, if_pos NN]; rfl)
            have c := R3.out.cell (j := 6) (v := .int .i64 o.mag) rfl
            have f := R3.out.free (j := 6) (by show 6 < 8; decide)
            have P := Lib.hid (R3.out.put 6 (.int .i64 (-N)) { o with mag := -N } (by decide) rfl)
            clear FQ NN R3
            go_wp2_with fail
            refine (need_yes _).mono ?_
            rintro e w5 ⟨rfl, rfl⟩
            go_wp2_with fail
            go_end0
            exact ⟨Or.inl ⟨_, F2.out, rfl, P.out⟩, O3.out.trans (Only.set b 6 _ w3)⟩
        · have d2 : decide (0 < N) = false := decide_eq_false z2
          cases mn
          · have NN : N ≤ 3000 ∧ (0 < N ∨ false = false) := ⟨z1, Or.inr rfl⟩
            have F2 := Lib.hid (show readF 6 s o = some { o with mag := N } from by rw [FQ.out, if_pos NN]; rfl)
            have c := R3.out.cell (j := 6) (v := .int .i64 o.mag) rfl
            have f := R3.out.free (j := 6) (by show 6 < 8; decide)
            have P := Lib.hid (R3.out.put 6 (.int .i64 (N)) { o with mag := N } (by decide) rfl)
            clear FQ NN R3
            go_wp2_with fail
            refine (need_yes _).mono ?_
            rintro e w5 ⟨rfl, rfl⟩
            go_wp2_with fail
            go_end0
            exact ⟨Or.inl ⟨_, F2.out, rfl, P.out⟩, O3.out.trans (Only.set b 6 _ w3)⟩
          · have NN : ¬ (N ≤ 3000 ∧ (0 < N ∨ true = false)) := fun h => h.2.elim z2 (fun h => by cases h)
            have F2 := Lib.hid (show readF 6 s o = none from by rw [FQ.out, if_neg NN]; rfl)
            clear FQ NN R3
            go_wp2_with fail
            refine (need_no _).mono ?_
            rintro e w5 ⟨rfl, rfl⟩
            exact ⟨rfl, Or.inr ⟨F2.out, rfl⟩, O3.out⟩
      · have NN : ¬ (N ≤ 3000 ∧ (0 < N ∨ mn = false)) := fun h => z1 h.1
        have F2 := Lib.hid (show readF 6 s o = none from by rw [FQ.out, if_neg NN]; rfl)
        clear FQ NN R3
        go_wp2_with fail
        refine (need_no _).mono ?_
        rintro e w5 ⟨rfl, rfl⟩
        exact ⟨rfl, Or.inr ⟨F2.out, rfl⟩, O3.out⟩
    · go_wp2_with fail
      refine (N2.out _).mono ?_
      rintro e w4 ⟨h, hb4⟩
      have R4 := Lib.hid (R3.out.call hb4)
      have O4 := Lib.hid (O3.out.trans (Only.of (Nat.le_of_lt R3.out.lt) hb4))
      clear N2 R3 O3 hb4
      rw [H2.out] at h
      rcases h with ⟨k, h, k0, k1, rfl⟩ | ⟨h, rfl⟩
      · have R3 := R4
        have O3 := O4
        clear R4 O4
        by_cases l1 : G.length = 1
        · replace FQ := Lib.hid (show readF 6 s o = (if 100 * a + 10 * k ≤ 3000 ∧ (0 < 100 * a + 10 * k ∨ mn = false) then some (if mn = true then -(100 * a + 10 * k) else 100 * a + 10 * k) else none).map fun n => { o with mag := n } from by rw [FQ.out, h, l1]; rfl)
          have c1 : ((SG.size : Int) == 1) = true := by rw [eG, l1]; rfl
          clear h l1 eG
          go_upto_region 9 with fail
          have ek : k * 10 = 10 * k := Int.mul_comm _ _
          try rw [ek]
          obtain ⟨N, hN⟩ : ∃ N, 100 * a + 10 * k = N := ⟨_, rfl⟩
          rw [hN] at FQ
          try rw [hN]
          have NB : -100000000000000 ≤ N ∧ N ≤ 100000000000000 := by omega
          clear hN a0 a1 k0 k1
          by_cases z1 : N ≤ 3000
          · by_cases z2 : 0 < N
            · have d2 : decide (0 < N) = true := decide_eq_true z2
              cases mn
              · have NN : N ≤ 3000 ∧ (0 < N ∨ false = false) := ⟨z1, Or.inl z2⟩
                have F2 := Lib.hid (show readF 6 s o = some { o with mag := N } from by rw [FQ.out, if_pos NN]; rfl)
                have c := R3.out.cell (j := 6) (v := .int .i64 o.mag) rfl
                have f := R3.out.free (j := 6) (by show 6 < 8; decide)
                have P := Lib.hid (R3.out.put 6 (.int .i64 (N)) { o with mag := N } (by decide) rfl)
                clear FQ NN R3
                go_wp2_with fail
                refine (need_yes _).mono ?_
                rintro e w5 ⟨rfl, rfl⟩
                go_wp2_with fail
                go_end0
                exact ⟨Or.inl ⟨_, F2.out, rfl, P.out⟩, O3.out.trans (Only.set b 6 _ w4)⟩
              · have NN : N ≤ 3000 ∧ (0 < N ∨ true = false) := ⟨z1, Or.inl z2⟩
                have F2 := Lib.hid (show readF 6 s o = some { o with mag := -N } from by rw [FQ.out, if_pos NN]; rfl)
                have c := R3.out.cell (j := 6) (v := .int .i64 o.mag) rfl
                have f := R3.out.free (j := 6) (by show 6 < 8; decide)
                have P := Lib.hid (R3.out.put 6 (.int .i64 (-N)) { o with mag := -N } (by decide) rfl)
                clear FQ NN R3
                go_wp2_with fail
                refine (need_yes _).mono ?_
                rintro e w5 ⟨rfl, rfl⟩
                go_wp2_with fail
                go_end0
                exact ⟨Or.inl ⟨_, F2.out, rfl, P.out⟩, O3.out.trans (Only.set b 6 _ w4)⟩
            · have d2 : decide (0 < N) = false := decide_eq_false z2
              cases mn
              · have NN : N ≤ 3000 ∧ (0 < N ∨ false = false) := ⟨z1, Or.inr rfl⟩
                have F2 := Lib.hid (show readF 6 s o = some { o with mag := N } from by rw [FQ.out, if_pos NN]; rfl)
                have c := R3.out.cell (j := 6) (v := .int .i64 o.mag) rfl
                have f := R3.out.free (j := 6) (by show 6 < 8; decide)
                have P := Lib.hid (R3.out.put 6 (.int .i64 (N)) { o with mag := N } (by decide) rfl)
                clear FQ NN R3
                go_wp2_with fail
                refine (need_yes _).mono ?_
                rintro e w5 ⟨rfl, rfl⟩
                go_wp2_with fail
                go_end0
                exact ⟨Or.inl ⟨_, F2.out, rfl, P.out⟩, O3.out.trans (Only.set b 6 _ w4)⟩
              · have NN : ¬ (N ≤ 3000 ∧ (0 < N ∨ true = false)) := fun h => h.2.elim z2 (fun h => by cases h)
                have F2 := Lib.hid (show readF 6 s o = none from by rw [FQ.out, if_neg NN]; rfl)
                clear FQ NN R3
                go_wp2_with fail
                refine (need_no _).mono ?_
                rintro e w5 ⟨rfl, rfl⟩
                exact ⟨rfl, Or.inr ⟨F2.out, rfl⟩, O3.out⟩
          · have NN : ¬ (N ≤ 3000 ∧ (0 < N ∨ mn = false)) := fun h => z1 h.1
            have F2 := Lib.hid (show readF 6 s o = none from by rw [FQ.out, if_neg NN]; rfl)
            clear FQ NN R3
            go_wp2_with fail
            refine (need_no _).mono ?_
            rintro e w5 ⟨rfl, rfl⟩
            exact ⟨rfl, Or.inr ⟨F2.out, rfl⟩, O3.out⟩
        · replace FQ := Lib.hid (show readF 6 s o = (if 100 * a + k ≤ 3000 ∧ (0 < 100 * a + k ∨ mn = false) then some (if mn = true then -(100 * a + k) else 100 * a + k) else none).map fun n => { o with mag := n } from by rw [FQ.out, h]; simp only [if_true, Option.map_some, if_neg l1]; rfl)
          have c1 : ((SG.size : Int) == 1) = false := beq_eq_false_iff_ne.2 (by omega)
          clear h l1 eG
          go_upto_region 9 with fail
          obtain ⟨N, hN⟩ : ∃ N, 100 * a + k = N := ⟨_, rfl⟩
          rw [hN] at FQ
          try rw [hN]
          have NB : -100000000000000 ≤ N ∧ N ≤ 100000000000000 := by omega
          clear hN a0 a1 k0 k1
          by_cases z1 : N ≤ 3000
          · by_cases z2 : 0 < N
            · have d2 : decide (0 < N) = true := decide_eq_true z2
              cases mn
              · have NN : N ≤ 3000 ∧ (0 < N ∨ false = false) := ⟨z1, Or.inl z2⟩
                have F2 := Lib.hid (show readF 6 s o = some { o with mag := N } from by rw [FQ.out, if_pos NN]; rfl)
                have c := R3.out.cell (j := 6) (v := .int .i64 o.mag) rfl
                have f := R3.out.free (j := 6) (by show 6 < 8; decide)
                have P := Lib.hid (R3.out.put 6 (.int .i64 (N)) { o with mag := N } (by decide) rfl)
                clear FQ NN R3
                go_wp2_with fail
                refine (need_yes _).mono ?_
                rintro e w5 ⟨rfl, rfl⟩
                go_wp2_with fail
                go_end0
                exact ⟨Or.inl ⟨_, F2.out, rfl, P.out⟩, O3.out.trans (Only.set b 6 _ w4)⟩
              · have NN : N ≤ 3000 ∧ (0 < N ∨ true = false) := ⟨z1, Or.inl z2⟩
                have F2 := Lib.hid (show readF 6 s o = some { o with mag := -N } from by rw [FQ.out, if_pos NN]; rfl)
                have c := R3.out.cell (j := 6) (v := .int .i64 o.mag) rfl
                have f := R3.out.free (j := 6) (by show 6 < 8; decide)
                have P := Lib.hid (R3.out.put 6 (.int .i64 (-N)) { o with mag := -N } (by decide) rfl)
                clear FQ NN R3
                go_wp2_with fail
                refine (need_yes _).mono ?_
                rintro e w5 ⟨rfl, rfl⟩
                go_wp2_with fail
                go_end0
                exact ⟨Or.inl ⟨_, F2.out, rfl, P.out⟩, O3.out.trans (Only.set b 6 _ w4)⟩
            · have d2 : decide (0 < N) = false := decide_eq_false z2
              cases mn
              · have NN : N ≤ 3000 ∧ (0 < N ∨ false = false) := ⟨z1, Or.inr rfl⟩
                have F2 := Lib.hid (show readF 6 s o = some { o with mag := N } from by rw [FQ.out, if_pos NN]; rfl)
                have c := R3.out.cell (j := 6) (v := .int .i64 o.mag) rfl
                have f := R3.out.free (j := 6) (by show 6 < 8; decide)
                have P := Lib.hid (R3.out.put 6 (.int .i64 (N)) { o with mag := N } (by decide) rfl)
                clear FQ NN R3
                go_wp2_with fail
                refine (need_yes _).mono ?_
                rintro e w5 ⟨rfl, rfl⟩
                go_wp2_with fail
                go_end0
                exact ⟨Or.inl ⟨_, F2.out, rfl, P.out⟩, O3.out.trans (Only.set b 6 _ w4)⟩
              · have NN : ¬ (N ≤ 3000 ∧ (0 < N ∨ true = false)) := fun h => h.2.elim z2 (fun h => by cases h)
                have F2 := Lib.hid (show readF 6 s o = none from by rw [FQ.out, if_neg NN]; rfl)
                clear FQ NN R3
                go_wp2_with fail
                refine (need_no _).mono ?_
                rintro e w5 ⟨rfl, rfl⟩
                exact ⟨rfl, Or.inr ⟨F2.out, rfl⟩, O3.out⟩
          · have NN : ¬ (N ≤ 3000 ∧ (0 < N ∨ mn = false)) := fun h => z1 h.1
            have F2 := Lib.hid (show readF 6 s o = none from by rw [FQ.out, if_neg NN]; rfl)
            clear FQ NN R3
            go_wp2_with fail
            refine (need_no _).mono ?_
            rintro e w5 ⟨rfl, rfl⟩
            exact ⟨rfl, Or.inr ⟨F2.out, rfl⟩, O3.out⟩
      · have F2 := Lib.hid (show readF 6 s o = none from by rw [FQ.out, h]; rfl)
        exact ⟨rfl, Or.inr ⟨F2.out, rfl⟩, O4.out⟩
  · have F2 := Lib.hid (show readF 6 s o = none from by rw [FQ.out, h]; rfl)
    exact ⟨rfl, Or.inr ⟨F2.out, rfl⟩, O3.out⟩
end Vw
end Go.Proofs.YtaghilgfldaaiaaGreatDoor
/-
  The walks of isNumbered, isName of package obs, and of Numbered, Name of the reference.
-/
namespace Go.Proofs.YtaghilgfldaaiaaGreatDoor
namespace Ow
open Go.RowKit Lw Go.Proofs.YtaghilgfldaaiaaGreatDoor.Ap Go.Proofs.YtaghilgfldaaiaaGreatDoor.Op

/-- The variable ErrSyntax reads as an error. -/
def ES (w : World) : Prop := 6 < w.heap.size ∧ ∃ ev, w.cell? ⟨6, 0, none⟩ = some ev ∧ (ev = .nilIface ∨ ∃ te pe, ev = .iface te pe)
theorem ES.below {w w' : World} (h : ES w) (hb : Below w.heap.size w w') : ES w' := by
  obtain ⟨lt, ev, h1, h2⟩ := h
  exact ⟨Nat.lt_of_lt_of_le lt hb.size, ev, (hb.cell (p := ⟨6, 0, none⟩) lt).trans h1, h2⟩
theorem pu_step {M acc : Nat} {c : UInt8} {r : List UInt8} (h : 48 ≤ c.toNat ∧ c.toNat ≤ 57) (ha : acc ≤ 1000) (hM : 65535 ≤ M) : Lib.parseUintM M acc (c :: r) = Lib.parseUintM M (acc * 10 + (c.toNat - 48)) r := by
  rw [Lib.parseUintM, if_pos h, if_neg (by omega), if_neg (by omega)]
/-- What is answered for no number. -/
def noNum : Lib.NumEnd Nat := Lib.parseUintB 16 []
theorem pu_stop {M acc : Nat} {c : UInt8} {r : List UInt8} (h : ¬ (48 ≤ c.toNat ∧ c.toNat ≤ 57)) : Lib.parseUintM M acc (c :: r) = noNum := by
  rw [Lib.parseUintM, if_neg h]
  rfl
/-- Four bytes are digits, or no number. -/
theorem pu_cases {l : List UInt8} (h : l.length = 4) : (digsB l = true ∧ ∃ u, Lib.parseUintB 16 l = .ok u) ∨ (digsB l = false ∧ Lib.parseUintB 16 l = noNum) := by
  match l, h with
  | [a, b, c, d], _ =>
    unfold Lib.parseUintB
    rw [if_neg (by simp)]
    have nd : ∀ x ∈ [a, b, c, d], ¬ (48 ≤ x.toNat ∧ x.toNat ≤ 57) → digsB [a, b, c, d] = false := fun x hx hn => decide_eq_false fun g => hn (by have := g.2 x hx; omega)
    by_cases ha : 48 ≤ a.toNat ∧ a.toNat ≤ 57
    · rw [pu_step ha (by omega) (by omega)]
      by_cases hb : 48 ≤ b.toNat ∧ b.toNat ≤ 57
      · rw [pu_step hb (by omega) (by omega)]
        by_cases hc : 48 ≤ c.toNat ∧ c.toNat ≤ 57
        · rw [pu_step hc (by omega) (by omega)]
          by_cases hd : 48 ≤ d.toNat ∧ d.toNat ≤ 57
          · rw [pu_step hd (by omega) (by omega)]
            refine Or.inl ⟨decide_eq_true ⟨by simp, fun x hx => ?_⟩, _, rfl⟩
            simp only [List.mem_cons, List.not_mem_nil, or_false] at hx
            rcases hx with rfl | rfl | rfl | rfl <;> omega
          · rw [pu_stop hd]; exact Or.inr ⟨nd d (by simp) hd, rfl⟩
        · rw [pu_stop hc]; exact Or.inr ⟨nd c (by simp) hc, rfl⟩
      · rw [pu_stop hb]; exact Or.inr ⟨nd b (by simp) hb, rfl⟩
    · rw [pu_stop ha]; exact Or.inr ⟨nd a (by simp) ha, rfl⟩
theorem numb_of {s : ByteArray} (hs : s.size = 5) : numbB s = ((decide (bt s 0 = 126) && wordB (s.extract 1 5).data.toList) || (wordB (s.extract 0 1).data.toList && digsB (s.extract 1 5).data.toList)) := by
  unfold numbB numbP wordB digsB
  simp only [hs, true_and, Bool.decide_or, Bool.decide_and]
theorem dig_word {l : List UInt8} (h : digsB l = true) : wordB l = true := by
  have := of_decide_eq_true h
  exact decide_eq_true fun c hc => Or.inl (this.2 c hc)
/-- What ParseUint returns of four bytes. -/
theorem pu_any (l : ByteArray) (w : World) (hE : ES w) (h : l.size = 4) :
    Calls Tryz.prog 201 #[.string l, .int .i64 10, .int .i64 16] w fun e w' => ∃ u V, e = .returned (.tuple #[.int .u64 u, V]) ∧ ((digsB l.data.toList = true ∧ V = .nilIface) ∨ (digsB l.data.toList = false ∧ ∃ t p, V = .iface t (.pointer (some p)))) ∧ Below w.heap.size w w' := by
  rcases pu_cases (l := l.data.toList) (by simpa using h) with ⟨d, u, hu⟩ | ⟨d, hu⟩
  · refine (Tryz.strconv_ParseUint_10_at16_ok l (by omega) u hu w).mono ?_
    rintro e w' ⟨rfl, hw⟩
    refine ⟨_, _, rfl, Or.inl ⟨d, rfl⟩, ?_⟩
    rcases hw with rfl | rfl
    · exact Below.refl _ _
    · exact Lib.bytesWorld_below _ _ _
  · obtain ⟨lt, ev, h1, h2⟩ := hE
    refine (Tryz.strconv_ParseUint_10_at16_syntax l (by omega) hu ev w h1 h2).mono ?_
    rintro e w' ⟨N, rfl, -, -, hb⟩
    exact ⟨_, _, rfl, Or.inr ⟨d, _, _, rfl⟩, hb⟩
set_option maxRecDepth 100000 in
set_option maxHeartbeats 4000000 in
theorem isNumb_any (s : ByteArray) (w : World) (hE : ES w) (hs : s.size ≤ maxLen) :
    Calls Tryz.prog 174 #[.string s] w fun e w' => e = .returned (.bool (numbB s)) ∧ Below w.heap.size w w' := by
  by_cases h5 : s.size = 5
  · have N := numb_of h5
    have z1 : (s.extract 1 5).size = 4 := by simp; omega
    have z0 : (s.extract 0 1).size ≤ maxLen := by simp; unfold maxLen; omega
    have PU := Lib.hid (pu_any (s.extract 1 5) w hE z1)
    have W1 := Lib.hid (fun w' => isWord_any (s.extract 1 5) w' (by unfold maxLen; omega))
    have W0 := Lib.hid (fun w' => isWord_any (s.extract 0 1) w' z0)
    have DW := Lib.hid (fun (h : digsB (s.extract 1 5).data.toList = true) => dig_word h)
    obtain ⟨c, hc⟩ : ∃ c : UInt8, s[0]'(by omega) = c := ⟨_, rfl⟩
    have b0 : bt s 0 = (c.toNat : Int) := by rw [bt_of s 0 (by omega), hc]
    rw [b0] at N
    have N := Lib.hid N
    generalize wordB (s.extract 1 5).data.toList = q1 at *
    generalize wordB (s.extract 0 1).data.toList = q0 at *
    generalize digsB (s.extract 1 5).data.toList = dd at *
    have i0 : 0 < s.size := by omega
    clear z1 z0 hE hs b0
    go_enter Tryz.func174, Tryz.ntmps174
    go_wp2_with fail
    refine PU.out.mono ?_
    rintro e w1 ⟨u, V, rfl, hV, hb⟩
    have B1 := Lib.hid hb
    clear hb PU
    by_cases h126 : (c.toNat : Int) = 126
    · have N2 := Lib.hid (N.out.trans (by rw [decide_eq_true h126]; rfl : _ = (q1 || (q0 && dd))))
      clear N
      cases q1
      · have d0 : dd = false := by
          cases dd
          · rfl
          · exact absurd (DW.out rfl) (by simp)
        subst d0
        cases q0
        all_goals
          rcases hV with ⟨hd, rfl⟩ | ⟨hd, t, p, rfl⟩
          · cases hd
          go_wp2_with (first | ((with_reducible refine (W1.out _).mono ?_); rintro e w2 ⟨rfl, hb2⟩) | ((with_reducible refine (W0.out _).mono ?_); rintro e w3 ⟨rfl, hb3⟩))
          go_ret
          refine ⟨?_, ?_⟩
          · rw [N2.out]; rfl
          · first | exact below_then (below_then B1.out hb2) hb3 | exact below_then B1.out hb2
      · clear hV
        go_wp2_with (first | ((with_reducible refine (W1.out _).mono ?_); rintro e w2 ⟨rfl, hb2⟩) | ((with_reducible refine (W0.out _).mono ?_); rintro e w3 ⟨rfl, hb3⟩))
        go_ret
        refine ⟨?_, ?_⟩
        · rw [N2.out]; rfl
        · exact below_then B1.out hb2
    · have N2 := Lib.hid (N.out.trans (by rw [decide_eq_false h126]; rfl : _ = (q0 && dd)))
      clear N
      cases q0
      · clear hV
        go_wp2_with (first | ((with_reducible refine (W1.out _).mono ?_); rintro e w2 ⟨rfl, hb2⟩) | ((with_reducible refine (W0.out _).mono ?_); rintro e w3 ⟨rfl, hb3⟩))
        go_ret
        refine ⟨?_, ?_⟩
        · rw [N2.out]; rfl
        · exact below_then B1.out hb3
      · rcases hV with ⟨rfl, rfl⟩ | ⟨rfl, t, p, rfl⟩
        · obtain rfl := DW.out rfl
          go_wp2_with fail
          refine (W0.out _).mono ?_
          rintro e w3 ⟨rfl, hb3⟩
          have B3 := Lib.hid (below_then B1.out hb3)
          clear hb3
          go_wp2_with fail
          refine (W1.out _).mono ?_
          rintro e w4 ⟨rfl, hb4⟩
          have B4 := Lib.hid (below_then B3.out hb4)
          clear hb4
          go_wp2_with fail
          go_ret
          exact ⟨by rw [N2.out]; rfl, B4.out⟩
        · go_wp2_with fail
          refine (W0.out _).mono ?_
          rintro e w3 ⟨rfl, hb3⟩
          have B3 := Lib.hid (below_then B1.out hb3)
          clear hb3
          go_wp2_with fail
          go_ret
          exact ⟨by rw [N2.out]; rfl, B3.out⟩
  · have N := Lib.hid (show numbB s = false from decide_eq_false fun g => h5 g.1)
    have h5' : ¬ (s.size : Int) = 5 := by omega
    have h6 : ((s.size : Int) == 5) = false := by simpa using h5'
    have h7 : ((s.size : Int) != 5) = true := by simpa using h5'
    go_enter Tryz.func174, Tryz.ntmps174
    go_wp2_with fail
    go_ret
    exact ⟨by rw [N.out]; rfl, Below.refl _ _⟩
set_option maxRecDepth 100000 in
set_option maxHeartbeats 4000000 in
theorem rnumb_any (s : ByteArray) (w : World) (hs : s.size ≤ maxLen) :
    Calls Tryz.prog 86 #[.string s] w fun e w' => e = .returned (.bool (numbB s)) ∧ w = w' := by
  by_cases h5 : s.size = 5
  · have N := numb_of h5
    have z1 : (s.extract 1 5).size = 4 := by simp; omega
    have z0 : (s.extract 0 1).size ≤ maxLen := by simp; unfold maxLen; omega
    have W1 := Lib.hid (fun w' => rword_any (s.extract 1 5) w' (by unfold maxLen; omega))
    have W0 := Lib.hid (fun w' => rword_any (s.extract 0 1) w' z0)
    have DG := Lib.hid (fun w' => rdigits_any (s.extract 1 5) w' (by unfold maxLen; omega))
    obtain ⟨c, hc⟩ : ∃ c : UInt8, s[0]'(by omega) = c := ⟨_, rfl⟩
    have b0 : bt s 0 = (c.toNat : Int) := by rw [bt_of s 0 (by omega), hc]
    rw [b0] at N
    have N := Lib.hid N
    generalize wordB (s.extract 1 5).data.toList = q1 at *
    generalize wordB (s.extract 0 1).data.toList = q0 at *
    generalize digsB (s.extract 1 5).data.toList = dd at *
    have i0 : 0 < s.size := by omega
    clear z1 z0 hs b0
    by_cases h126 : (c.toNat : Int) = 126
    · have N2 := Lib.hid (N.out.trans (by rw [decide_eq_true h126]; rfl : _ = (q1 || (q0 && dd))))
      clear N
      cases q1 <;> cases q0 <;> cases dd
      all_goals
        go_enter Tryz.func86, Tryz.ntmps86
        go_wp2_with (first | ((with_reducible refine (W1.out _).mono ?_); rintro e w2 ⟨rfl, rfl⟩) | ((with_reducible refine (W0.out _).mono ?_); rintro e w3 ⟨rfl, rfl⟩) | ((with_reducible refine (DG.out _).mono ?_); rintro e w4 ⟨rfl, rfl⟩))
        go_ret
        exact ⟨by rw [N2.out]; rfl, rfl⟩
    · have N2 := Lib.hid (N.out.trans (by rw [decide_eq_false h126]; rfl : _ = (q0 && dd)))
      clear N
      cases q0 <;> cases dd
      all_goals
        go_enter Tryz.func86, Tryz.ntmps86
        go_wp2_with (first | ((with_reducible refine (W0.out _).mono ?_); rintro e w3 ⟨rfl, rfl⟩) | ((with_reducible refine (DG.out _).mono ?_); rintro e w4 ⟨rfl, rfl⟩))
        go_ret
        exact ⟨by rw [N2.out]; rfl, rfl⟩
  · have N := Lib.hid (show numbB s = false from decide_eq_false fun g => h5 g.1)
    have h5' : ¬ (s.size : Int) = 5 := by omega
    have h6 : ((s.size : Int) == 5) = false := by simpa using h5'
    have h7 : ((s.size : Int) != 5) = true := by simpa using h5'
    go_enter Tryz.func86, Tryz.ntmps86
    go_wp2_with fail
    go_ret
    exact ⟨by rw [N.out]; rfl, rfl⟩
theorem name_cases (s : ByteArray) : (numbB s = true ∧ nameB s = true) ∨ (numbB s = false ∧ ((s.size < 1 ∧ nameB s = false) ∨ (1 ≤ s.size ∧ 7 < s.size ∧ nameB s = false) ∨ (1 ≤ s.size ∧ s.size ≤ 7 ∧ nameB s = wordB s.data.toList))) := by
  by_cases h : numbP s
  · exact Or.inl ⟨decide_eq_true h, decide_eq_true (Or.inl h)⟩
  · refine Or.inr ⟨decide_eq_false h, ?_⟩
    by_cases a : s.size < 1
    · exact Or.inl ⟨a, decide_eq_false fun g => g.elim h (fun x => by omega)⟩
    · by_cases b : 7 < s.size
      · exact Or.inr (Or.inl ⟨by omega, b, decide_eq_false fun g => g.elim h (fun x => by omega)⟩)
      · refine Or.inr (Or.inr ⟨by omega, by omega, decide_eq_decide.2 ⟨fun g => g.elim (fun x => absurd x h) (fun x => x.2.2), fun g => Or.inr ⟨by omega, by omega, g⟩⟩⟩)
set_option maxRecDepth 100000 in
set_option maxHeartbeats 4000000 in
theorem isName_any (s : ByteArray) (w : World) (hE : ES w) (hs : s.size ≤ maxLen) :
    Calls Tryz.prog 119 #[.string s] w fun e w' => e = .returned (.bool (nameB s)) ∧ Below w.heap.size w w' := by
  have C1 := Lib.hid (isNumb_any s w hE hs)
  have C2 := Lib.hid (fun w' => isWord_any s w' hs)
  have NC := name_cases s
  generalize nameB s = nb at *
  generalize numbB s = ub at *
  generalize wordB s.data.toList = wb at *
  clear hE
  unfold maxLen at hs
  rcases NC with ⟨rfl, rfl⟩ | ⟨rfl, ⟨h, rfl⟩ | ⟨h, g, rfl⟩ | ⟨h, g, rfl⟩⟩
  · go_enter Tryz.func119, Tryz.ntmps119
    go_wp2_with fail
    refine C1.out.mono ?_
    rintro e w1 ⟨rfl, hb⟩
    go_wp2_with fail
    go_ret
    exact ⟨rfl, hb⟩
  · have h' : (s.size : Int) < 1 := by omega
    go_enter Tryz.func119, Tryz.ntmps119
    go_wp2_with fail
    refine C1.out.mono ?_
    rintro e w1 ⟨rfl, hb⟩
    go_wp2_with fail
    go_ret
    exact ⟨rfl, hb⟩
  · have h' : (1 : Int) ≤ s.size := by omega
    have g' : (7 : Int) < s.size := by omega
    go_enter Tryz.func119, Tryz.ntmps119
    go_wp2_with fail
    refine C1.out.mono ?_
    rintro e w1 ⟨rfl, hb⟩
    go_wp2_with fail
    go_ret
    exact ⟨rfl, hb⟩
  · have h' : (1 : Int) ≤ s.size := by omega
    have g' : (s.size : Int) ≤ 7 := by omega
    go_enter Tryz.func119, Tryz.ntmps119
    go_wp2_with fail
    refine C1.out.mono ?_
    rintro e w1 ⟨rfl, hb⟩
    have B1 := Lib.hid hb
    clear hb
    go_wp2_with fail
    refine (C2.out _).mono ?_
    rintro e w2 ⟨rfl, hb⟩
    have B2 := Lib.hid (below_then B1.out hb)
    clear hb
    go_wp2_with fail
    go_ret
    exact ⟨rfl, B2.out⟩
set_option maxRecDepth 100000 in
set_option maxHeartbeats 4000000 in
theorem rname_any (s : ByteArray) (w : World) (hs : s.size ≤ maxLen) :
    Calls Tryz.prog 40 #[.string s] w fun e w' => e = .returned (.bool (nameB s)) ∧ w = w' := by
  have C1 := Lib.hid (fun w' => rnumb_any s w' hs)
  have C2 := Lib.hid (fun w' => rword_any s w' hs)
  have NC := name_cases s
  generalize nameB s = nb at *
  generalize numbB s = ub at *
  generalize wordB s.data.toList = wb at *
  unfold maxLen at hs
  rcases NC with ⟨rfl, rfl⟩ | ⟨rfl, ⟨h, rfl⟩ | ⟨h, g, rfl⟩ | ⟨h, g, rfl⟩⟩
  · go_enter Tryz.func40, Tryz.ntmps40
    go_wp2_with (refine (C1.out _).mono ?_; rintro e w1 ⟨rfl, rfl⟩)
    go_ret
    exact ⟨rfl, rfl⟩
  · have h' : (s.size : Int) < 1 := by omega
    go_enter Tryz.func40, Tryz.ntmps40
    go_wp2_with (refine (C1.out _).mono ?_; rintro e w1 ⟨rfl, rfl⟩)
    go_ret
    exact ⟨rfl, rfl⟩
  · have h' : (1 : Int) ≤ s.size := by omega
    have g' : (7 : Int) < s.size := by omega
    go_enter Tryz.func40, Tryz.ntmps40
    go_wp2_with (refine (C1.out _).mono ?_; rintro e w1 ⟨rfl, rfl⟩)
    go_ret
    exact ⟨rfl, rfl⟩
  · have h' : (1 : Int) ≤ s.size := by omega
    have g' : (s.size : Int) ≤ 7 := by omega
    go_enter Tryz.func40, Tryz.ntmps40
    go_wp2_with fail
    refine (C1.out _).mono ?_
    rintro e w1 ⟨rfl, rfl⟩
    go_wp2_with fail
    refine (C2.out _).mono ?_
    rintro e w2 ⟨rfl, rfl⟩
    go_wp2_with fail
    go_ret
    exact ⟨rfl, rfl⟩
end Ow
end Go.Proofs.YtaghilgfldaaiaaGreatDoor
/-
  The walks of Check of package obs and of the reference.
-/
namespace Go.Proofs.YtaghilgfldaaiaaGreatDoor
namespace Ow
open Go.RowKit Lw Go.Proofs.YtaghilgfldaaiaaGreatDoor.Ap Go.Proofs.YtaghilgfldaaiaaGreatDoor.Op Go.Proofs.YtaghilgfldaaiaaGreatDoor.Mp Go.Proofs.YtaghilgfldaaiaaGreatDoor.Mw

def TimePost (t : Int) (w : World) (e : Ending) (w' : World) : Prop := ∃ y m d h i s u c : Int, e = .returned (.tuple #[dateV y m d h i s u, .int .i64 c]) ∧ ((timeP t ∧ c = 0) ∨ (¬ timeP t ∧ c = 16)) ∧ Below w.heap.size w w'
theorem time_any (t : Int) (w : World) (h0 : -9223372036854775808 ≤ t) (h1 : t ≤ 9223372036854775807) : Calls Tryz.prog 118 #[.int .i64 t] w (TimePost t w) := by
  by_cases h : t < bgv (-10227) 1972 1 ∨ bgv 36525 2100 1 ≤ t
  · exact (toutc_out t w h0 h1 h).mono fun e w' ⟨he, hb⟩ => ⟨0, 0, 0, 0, 0, 0, 0, 16, he, Or.inr ⟨fun g => by unfold timeP at g; omega, rfl⟩, hb⟩
  · obtain ⟨n, y, m, z, k, hd⟩ := day_ex t (by omega) (by omega)
    exact (toutc_in t n y m z k w hd (by omega) (by omega)).mono fun e w' ⟨he, hb⟩ => ⟨_, _, _, _, _, _, _, _, he, Or.inl ⟨by unfold timeP; omega, rfl⟩, hb⟩
theorem rtime_any (t : Int) (w : World) (h0 : -9223372036854775808 ≤ t) (h1 : t ≤ 9223372036854775807) : Calls Tryz.prog 39 #[.int .i64 t] w (TimePost t w) := by
  by_cases h : t < bgv (-10227) 1972 1 ∨ bgv 36525 2100 1 ≤ t
  · exact (rtoutc_out t w h0 h1 h).mono fun e w' ⟨he, hb⟩ => ⟨0, 0, 0, 0, 0, 0, 0, 16, he, Or.inr ⟨fun g => by unfold timeP at g; omega, rfl⟩, hb⟩
  · obtain ⟨n, y, m, z, k, hd⟩ := day_ex t (by omega) (by omega)
    exact (rtoutc_in t n y m z k w hd (by omega) (by omega)).mono fun e w' ⟨he, hb⟩ => ⟨_, _, _, _, _, _, _, _, he, Or.inl ⟨by unfold timeP; omega, rfl⟩, hb⟩
/-- An observation in its box. -/
structure OX (w0 : World) (b : Nat) (o : Ob) (w : World) : Prop where
  below : Below w0.heap.size w0 w
  lt : b < w.heap.size
  row : w.rangeAt b 0 (obsC o)
theorem OX.call {w0 w w' : World} {b : Nat} {o : Ob} (h : OX w0 b o w) (hb : Below w.heap.size w w') : OX w0 b o w' := ⟨below_then h.below hb, Nat.lt_of_lt_of_le h.lt hb.size, rangeAt_below h.row hb h.lt⟩
theorem OX.new (w : World) (o : Ob) : OX w w.heap.size o (w.alloc (.cells (obsC o).toArray 33)) := ⟨(Below.refl _ _).alloc (Nat.le_refl _) _, by simp, rangeAt_new w _ _⟩
/-- The numbers of an observation are in their ranges. -/
def rngP (ra dec sg : Int) : Prop := 0 ≤ ra ∧ ra < 1296000000000 ∧ -324000000000 ≤ dec ∧ dec ≤ 324000000000 ∧ 1 ≤ sg ∧ sg ≤ 10000000000
instance (ra dec sg : Int) : Decidable (rngP ra dec sg) := by unfold rngP; infer_instance
theorem rng_cases (ra dec sg : Int) : rngP ra dec sg ∨ (¬ rngP ra dec sg ∧ (ra < 0 ∨ (0 ≤ ra ∧ 1296000000000 ≤ ra) ∨ (0 ≤ ra ∧ ra < 1296000000000 ∧ dec < -324000000000) ∨ (0 ≤ ra ∧ ra < 1296000000000 ∧ -324000000000 ≤ dec ∧ 324000000000 < dec) ∨ (0 ≤ ra ∧ ra < 1296000000000 ∧ -324000000000 ≤ dec ∧ dec ≤ 324000000000 ∧ sg < 1) ∨ (0 ≤ ra ∧ ra < 1296000000000 ∧ -324000000000 ≤ dec ∧ dec ≤ 324000000000 ∧ 1 ≤ sg ∧ 10000000000 < sg))) := by
  unfold rngP; omega
theorem mag_cases (m b : Int) : (m = 9999 ∧ b = 32 ∧ magP m b) ∨ (m ≠ 9999 ∧ b = 32 ∧ m < -500 ∧ ¬ magP m b) ∨ (m ≠ 9999 ∧ b = 32 ∧ -500 ≤ m ∧ 3000 < m ∧ ¬ magP m b) ∨ (m ≠ 9999 ∧ b = 32 ∧ -500 ≤ m ∧ m ≤ 3000 ∧ magP m b) ∨
    (b ≠ 32 ∧ m < -500 ∧ ¬ magP m b) ∨ (b ≠ 32 ∧ -500 ≤ m ∧ 3000 < m ∧ m ≠ 9999 ∧ ¬ magP m b) ∨ (b ≠ 32 ∧ m = 9999 ∧ ¬ magP m b) ∨ (b ≠ 32 ∧ -500 ≤ m ∧ m ≤ 3000 ∧ m ≠ 9999 ∧ (magP m b ↔ ltP b)) := by
  by_cases hb : b = 32
  · by_cases h9 : m = 9999
    · exact Or.inl ⟨h9, hb, Or.inl ⟨h9, hb⟩⟩
    · by_cases h1 : m < -500
      · exact Or.inr (Or.inl ⟨h9, hb, h1, fun g => by unfold magP at g; omega⟩)
      · by_cases h2 : 3000 < m
        · exact Or.inr (Or.inr (Or.inl ⟨h9, hb, by omega, h2, fun g => by unfold magP at g; omega⟩))
        · exact Or.inr (Or.inr (Or.inr (Or.inl ⟨h9, hb, by omega, by omega, Or.inr ⟨by omega, by omega, Or.inl hb⟩⟩)))
  · refine Or.inr (Or.inr (Or.inr (Or.inr ?_)))
    by_cases h1 : m < -500
    · exact Or.inl ⟨hb, h1, fun g => by unfold magP at g; omega⟩
    · by_cases h9 : m = 9999
      · exact Or.inr (Or.inr (Or.inl ⟨hb, h9, fun g => by unfold magP at g; omega⟩))
      · by_cases h2 : 3000 < m
        · exact Or.inr (Or.inl ⟨hb, by omega, h2, h9, fun g => by unfold magP at g; omega⟩)
        · refine Or.inr (Or.inr (Or.inr ⟨hb, by omega, by omega, h9, fun g => ?_, fun g => Or.inr ⟨by omega, by omega, Or.inr g⟩⟩))
          rcases g with ⟨_, g⟩ | ⟨_, _, g | g⟩
          · exact absurd g hb
          · exact absurd g hb
          · exact g
/-- What is asked of an observation, but for its magnitude. -/
def preB (o : Ob) : Bool := decide (timeP o.t ∧ nameP o.name ∧ o.site.size = 3 ∧ wordP o.site.data.toList ∧ rngP o.ra o.dec o.sg)
/-- The first four of these. -/
def preA (o : Ob) : Bool := decide (timeP o.t ∧ nameP o.name ∧ o.site.size = 3 ∧ wordP o.site.data.toList)
theorem preB_of (o : Ob) : preB o = (preA o && decide (rngP o.ra o.dec o.sg)) := by
  unfold preB preA
  rw [← Bool.decide_and]
  exact decide_eq_decide.2 ⟨fun ⟨a, b, c, d, e⟩ => ⟨⟨a, b, c, d⟩, e⟩, fun ⟨⟨a, b, c, d⟩, e⟩ => ⟨a, b, c, d, e⟩⟩
theorem okO_pre (o : Ob) : okO o ↔ preB o = true ∧ magP o.mag o.band := by
  unfold okO preB rngP
  rw [decide_eq_true_eq]
  constructor
  · rintro ⟨a, b, c, d, e, f, g, h, i, j, k⟩; exact ⟨⟨a, b, c, d, e, f, g, h, i, j⟩, k⟩
  · rintro ⟨⟨a, b, c, d, e, f, g, h, i, j⟩, k⟩; exact ⟨a, b, c, d, e, f, g, h, i, j, k⟩
theorem check_ok {o : Ob} (h : preB o = true) (g : magP o.mag o.band) : checkC o = 0 := if_pos ((okO_pre o).2 ⟨h, g⟩)
theorem check_m {o : Ob} (g : ¬ magP o.mag o.band) : checkC o = 8 := if_neg fun x => g ((okO_pre o).1 x).2
theorem check_p {o : Ob} (h : preB o = false) : checkC o = 8 := if_neg fun x => by rw [((okO_pre o).1 x).1] at h; cases h
set_option maxRecDepth 100000 in
set_option maxHeartbeats 16000000 in
theorem check_any (o : Ob) (w : World) (hE : ES w) (h0 : -9223372036854775808 ≤ o.t) (h1 : o.t ≤ 9223372036854775807) (b0 : 0 ≤ o.band) (b1 : o.band ≤ 255) (n1 : o.name.size ≤ maxLen) (n2 : o.site.size ≤ maxLen) :
    Calls Tryz.prog 68 #[obsV o] w fun e w' => e = .returned (.int .i64 (checkC o)) ∧ Below w.heap.size w w' := by
  have K1 := Lib.hid (fun (a : preB o = true) (b : magP o.mag o.band) => check_ok a b)
  have K2 := Lib.hid (fun (b : ¬ magP o.mag o.band) => check_m b)
  have K3 := Lib.hid (fun (b : preB o = false) => check_p b)
  have PD := Lib.hid (show preA o = decide (timeP o.t ∧ nameP o.name ∧ o.site.size = 3 ∧ wordP o.site.data.toList) from rfl)
  have PB := Lib.hid (preB_of o)
  have X0 := OX.new w o
  obtain ⟨nm, st, tt, ra, dec, sg, mg, bd⟩ := o
  simp only at h0 h1 b0 b1 n1 n2 K1 K2 PD PB
  generalize checkC ⟨nm, st, tt, ra, dec, sg, mg, bd⟩ = cc at *
  generalize preB ⟨nm, st, tt, ra, dec, sg, mg, bd⟩ = pb at *
  generalize preA ⟨nm, st, tt, ra, dec, sg, mg, bd⟩ = pa at *
  have C1 := Lib.hid (fun w' => time_any tt w' h0 h1)
  have C2 := Lib.hid (fun w' (h : ES w') => isName_any nm w' h n1)
  have C3 := Lib.hid (fun w' => isWord_any st w' n2)
  have HE := Lib.hid (hE.below X0.below)
  have q0 := X0.row 0 _ rfl
  have q1 := X0.row 1 _ rfl
  have q2 := X0.row 2 _ rfl
  have q3 := X0.row 3 _ rfl
  have q4 := X0.row 4 _ rfl
  have q5 := X0.row 5 _ rfl
  have q6 := X0.row 6 _ rfl
  have q7 := X0.row 7 _ rfl
  simp only [Nat.zero_add] at q0 q1 q2 q3 q4 q5 q6 q7
  have XX := Lib.hid X0
  have NB := Lib.hid (show nameB nm = true ↔ nameP nm from decide_eq_true_iff)
  have WB := Lib.hid (show wordB st.data.toList = true ↔ wordP st.data.toList from decide_eq_true_iff)
  clear hE X0 h0 h1 n1
  unfold maxLen at n2
  generalize nameB nm = nb at *
  generalize wordB st.data.toList = wb at *
  go_enter Tryz.func68, Tryz.ntmps68
  go_wp2_with fail
  refine (C1.out _).mono ?_
  rintro e w1 ⟨y, m, d, h, i, s, u, c, rfl, hc, hb⟩
  have bb := below_then hb ((Below.refl _ w1).alloc (Nat.le_refl _) (.cells (dateC y m d h i s u).toArray 75))
  have X1 := XX.out.call bb
  have lt1 : w.heap.size < w1.heap.size := by have := hb.size; simp at this; omega
  have HE1 := Lib.hid (HE.out.below bb)
  clear q0 q1 q2 q3 q4 q5 q6 q7
  have q0 := (XX.out.call hb).row 0 _ rfl
  have q1 := (XX.out.call hb).row 1 _ rfl
  have q2 := (XX.out.call hb).row 2 _ rfl
  have q3 := (XX.out.call hb).row 3 _ rfl
  have q4 := (XX.out.call hb).row 4 _ rfl
  have q5 := (XX.out.call hb).row 5 _ rfl
  have q6 := (XX.out.call hb).row 6 _ rfl
  have q7 := (XX.out.call hb).row 7 _ rfl
  simp only [Nat.zero_add] at q0 q1 q2 q3 q4 q5 q6 q7
  have XX1 := Lib.hid X1
  have HC := Lib.hid hc
  clear hb bb X1 XX HE C1 hc
  go_upto_region 2 with (refine wpList_store_new rfl _ (.tmp 3) (.tmp 12) rfl _ _ rfl rfl info7 rfl ?_ ?_; simp [Value.oneCell'])
  go_cut [5] (fun q wx => q = .bool pa ∧ OX w w.heap.size ⟨nm, st, tt, ra, dec, sg, mg, bd⟩ wx)
  case first =>
    rcases HC.out with ⟨ht, rfl⟩ | ⟨ht, rfl⟩
    · have HT := Lib.hid ht
      clear ht HC
      go_wp2_with (refine wpList_store_new rfl _ (.tmp 3) (.tmp 12) rfl _ _ rfl rfl info7 rfl ?_ ?_; simp [Value.oneCell'])
      refine (C2.out _ HE1.out).mono ?_
      rintro e w2 ⟨rfl, hb⟩
      have X2 := XX1.out.call hb
      clear q0 q1 q2 q3 q4 q5 q6 q7
      have q0 := X2.row 0 _ rfl
      have q1 := X2.row 1 _ rfl
      have q2 := X2.row 2 _ rfl
      have q3 := X2.row 3 _ rfl
      have q4 := X2.row 4 _ rfl
      have q5 := X2.row 5 _ rfl
      have q6 := X2.row 6 _ rfl
      have q7 := X2.row 7 _ rfl
      simp only [Nat.zero_add] at q0 q1 q2 q3 q4 q5 q6 q7
      have XX2 := Lib.hid X2
      clear hb X2 XX1 HE1 C2 lt1
      cases nb
      · have P := Lib.hid (PD.out.trans (decide_eq_false fun g => by have := NB.out.2 g.2.1; cases this))
        clear PD
        go_wp2_with fail
        go_meet
        exact ⟨by rw [P.out], XX2.out⟩
      · by_cases h3 : st.size = 3
        · have k3 : (st.size : Int) = 3 := by omega
          go_wp2_with fail
          refine (C3.out _).mono ?_
          rintro e w3 ⟨rfl, hb⟩
          have X3 := XX2.out.call hb
          clear q0 q1 q2 q3 q4 q5 q6 q7
          have q0 := X3.row 0 _ rfl
          have q1 := X3.row 1 _ rfl
          have q2 := X3.row 2 _ rfl
          have q3 := X3.row 3 _ rfl
          have q4 := X3.row 4 _ rfl
          have q5 := X3.row 5 _ rfl
          have q6 := X3.row 6 _ rfl
          have q7 := X3.row 7 _ rfl
          simp only [Nat.zero_add] at q0 q1 q2 q3 q4 q5 q6 q7
          have XX3 := Lib.hid X3
          clear hb X3 XX2 C3
          cases wb
          · have P := Lib.hid (PD.out.trans (decide_eq_false fun g => by have := WB.out.2 g.2.2.2; cases this))
            clear PD
            go_wp2_with fail
            go_meet
            exact ⟨by rw [P.out], XX3.out⟩
          · have P := Lib.hid (PD.out.trans (decide_eq_true ⟨HT.out, NB.out.1 (by first | rfl | trivial), h3, WB.out.1 (by first | rfl | trivial)⟩))
            clear PD h3 k3
            go_wp2_with fail
            go_meet
            exact ⟨by rw [P.out], XX3.out⟩
        · have P := Lib.hid (PD.out.trans (decide_eq_false fun g => h3 g.2.2.1))
          have k3 : ¬ (st.size : Int) = 3 := by omega
          clear PD
          go_wp2_with fail
          go_meet
          exact ⟨by rw [P.out], XX2.out⟩
    · have P := Lib.hid (PD.out.trans (decide_eq_false fun g => ht g.1))
      clear PD HC ht
      go_wp2_with (refine wpList_store_new rfl _ (.tmp 3) (.tmp 12) rfl _ _ rfl rfl info7 rfl ?_ ?_; simp [Value.oneCell'])
      go_meet
      exact ⟨by rw [P.out], XX1.out⟩
  case rest =>
    obtain ⟨rfl, X4⟩ := hcut
    clear q0 q1 q2 q3 q4 q5 q6 q7
    have q0 := X4.row 0 _ rfl
    have q1 := X4.row 1 _ rfl
    have q2 := X4.row 2 _ rfl
    have q3 := X4.row 3 _ rfl
    have q4 := X4.row 4 _ rfl
    have q5 := X4.row 5 _ rfl
    have q6 := X4.row 6 _ rfl
    have q7 := X4.row 7 _ rfl
    simp only [Nat.zero_add] at q0 q1 q2 q3 q4 q5 q6 q7
    have XX4 := Lib.hid X4
    clear X4 XX1 HE1 HC PD C2 C3 NB WB lt1
    go_upto_region 3 with (fail)
    go_cut [5] (fun q wx => q = .bool pb ∧ OX w w.heap.size ⟨nm, st, tt, ra, dec, sg, mg, bd⟩ wx)
    case first =>
      cases pa
      · have P2 := Lib.hid PB.out
        clear PB
        go_wp2_with fail
        go_meet
        exact ⟨by rw [P2.out]; rfl, XX4.out⟩
      · rcases rng_cases ra dec sg with g | ⟨g, g'⟩
        · have P2 := Lib.hid (PB.out.trans (by rw [decide_eq_true g]; rfl : _ = true))
          obtain ⟨r1, r2, r3, r4, r5, r6⟩ := g
          clear PB
          go_wp2_with fail
          go_meet
          exact ⟨by rw [P2.out], XX4.out⟩
        · have P2 := Lib.hid (PB.out.trans (by rw [decide_eq_false g]; rfl : _ = false))
          clear PB g
          rcases g' with r1 | ⟨r1, r2⟩ | ⟨r1, r2, r3⟩ | ⟨r1, r2, r3, r4⟩ | ⟨r1, r2, r3, r4, r5⟩ | ⟨r1, r2, r3, r4, r5, r6⟩
          all_goals
            go_wp2_with fail
            go_meet
            first
              | exact ⟨by rw [P2.out]; congr 1; exact decide_eq_false (by omega), XX4.out⟩
              | exact ⟨by rw [P2.out], XX4.out⟩
    case rest =>
      obtain ⟨rfl, X4⟩ := hcut
      clear q0 q1 q2 q3 q4 q5 q6 q7
      have q0 := X4.row 0 _ rfl
      have q1 := X4.row 1 _ rfl
      have q2 := X4.row 2 _ rfl
      have q3 := X4.row 3 _ rfl
      have q4 := X4.row 4 _ rfl
      have q5 := X4.row 5 _ rfl
      have q6 := X4.row 6 _ rfl
      have q7 := X4.row 7 _ rfl
      simp only [Nat.zero_add] at q0 q1 q2 q3 q4 q5 q6 q7
      clear XX4
      have XX4 := Lib.hid X4
      clear X4 PB
      cases pb
      · have E := Lib.hid (K3.out rfl)
        clear K1 K2 K3
        rcases (show bd = 32 ∨ bd ≠ 32 by omega) with hb | hb <;> rcases (show mg = 9999 ∨ mg ≠ 9999 by omega) with hm | hm
        all_goals
          go_wp2_with fail
          go_ret
          exact ⟨by rw [E.out]; rfl, XX4.out.below⟩
      · have L1 := Lib.hid (fun w' => isLetter_any bd w')
        rcases mag_cases mg bd with ⟨rfl, rfl, g⟩ | ⟨h9, rfl, h1, g⟩ | ⟨h9, rfl, h1, h2, g⟩ | ⟨h9, rfl, h1, h2, g⟩ | ⟨hb, h1, g⟩ | ⟨hb, h1, h2, h9, g⟩ | ⟨hb, rfl, g⟩ | ⟨hb, h1, h2, h9, g⟩
        · have E := Lib.hid (K1.out rfl g)
          clear K1 K2 K3 g
          go_wp2_with fail
          go_ret
          exact ⟨by rw [E.out]; rfl, XX4.out.below⟩
        · have E := Lib.hid (K2.out g)
          clear K1 K2 K3 g
          go_wp2_with fail
          go_ret
          exact ⟨by rw [E.out]; rfl, XX4.out.below⟩
        · have E := Lib.hid (K2.out g)
          clear K1 K2 K3 g
          go_wp2_with fail
          go_ret
          exact ⟨by rw [E.out]; rfl, XX4.out.below⟩
        · have E := Lib.hid (K1.out rfl g)
          clear K1 K2 K3 g
          go_wp2_with fail
          go_ret
          exact ⟨by rw [E.out]; rfl, XX4.out.below⟩
        · have E := Lib.hid (K2.out g)
          clear K1 K2 K3 g
          have h9 : mg ≠ 9999 := by omega
          have hb2 : (bd == 32) = false := beq_eq_false_iff_ne.2 hb
          have hm2 : (mg == 9999) = false := beq_eq_false_iff_ne.2 h9
          go_wp2_with fail
          go_ret
          exact ⟨by rw [E.out]; rfl, XX4.out.below⟩
        · have E := Lib.hid (K2.out g)
          clear K1 K2 K3 g
          have hb2 : (bd == 32) = false := beq_eq_false_iff_ne.2 hb
          have hm2 : (mg == 9999) = false := beq_eq_false_iff_ne.2 h9
          go_wp2_with fail
          go_ret
          exact ⟨by rw [E.out]; rfl, XX4.out.below⟩
        · have E := Lib.hid (K2.out g)
          clear K1 K2 K3 g
          have hb2 : (bd == 32) = false := beq_eq_false_iff_ne.2 hb
          go_wp2_with fail
          go_ret
          exact ⟨by rw [E.out]; rfl, XX4.out.below⟩
        · have hb2 : (bd == 32) = false := beq_eq_false_iff_ne.2 hb
          have hm2 : (mg == 9999) = false := beq_eq_false_iff_ne.2 h9
          rcases lt_cases bd with ⟨hl, el⟩ | ⟨hl, el⟩
          · have E := Lib.hid (K1.out rfl (g.2 hl))
            rw [el] at L1
            clear K1 K2 K3 g hl el
            go_wp2_with (refine (L1.out _).mono ?_; rintro e w5 ⟨rfl, rfl⟩)
            go_ret
            exact ⟨by rw [E.out]; rfl, XX4.out.below⟩
          · have E := Lib.hid (K2.out (fun x => hl (g.1 x)))
            rw [el] at L1
            clear K1 K2 K3 g hl el
            go_wp2_with (refine (L1.out _).mono ?_; rintro e w5 ⟨rfl, rfl⟩)
            go_ret
            exact ⟨by rw [E.out]; rfl, XX4.out.below⟩
end Ow
end Go.Proofs.YtaghilgfldaaiaaGreatDoor
/-
  Rows of a table: the walk of row of psv.
-/
namespace Go.Proofs.YtaghilgfldaaiaaGreatDoor
namespace Vw
open Go.RowKit Lw Go.Proofs.YtaghilgfldaaiaaGreatDoor.Ap Go.Proofs.YtaghilgfldaaiaaGreatDoor.Vp Go.Proofs.YtaghilgfldaaiaaGreatDoor.Op Go.Proofs.YtaghilgfldaaiaaGreatDoor.Ow

/-- Strings, one behind another; numbers, one behind another. -/
def StA (w : World) (x : Option Addr) (l : List ByteArray) : Prop := l = [] ∨ ∃ b off, x = some ⟨b, off, none⟩ ∧ b < w.heap.size ∧ ∀ i (h : i < l.length), w.cell? ⟨b, off + i, none⟩ = some (.string (l[i]'h))
theorem StA.below {w w' : World} {x : Option Addr} {l : List ByteArray} (h : StA w x l) (hb : Below w.heap.size w w') : StA w' x l := by
  rcases h with h | ⟨b, off, h1, h2, h3⟩
  · exact Or.inl h
  · exact Or.inr ⟨b, off, h1, Nat.lt_of_lt_of_le h2 hb.size, fun i hi => (hb.cell (p := ⟨b, off + i, none⟩) h2).trans (h3 i hi)⟩
theorem StA.get {w : World} {x : Option Addr} {l : List ByteArray} (h : StA w x l) {k : Nat} (hk : k < l.length) : ∃ b off, x = some ⟨b, off, none⟩ ∧ b < w.heap.size ∧ w.cell? ⟨b, off + k, none⟩ = some (.string (l[k]'hk)) := by
  rcases h with rfl | ⟨b, off, h1, h2, h3⟩
  · exact absurd hk (Nat.not_lt_zero k)
  · exact ⟨b, off, h1, h2, h3 k hk⟩
def InA (w : World) (x : Option Addr) (l : List Nat) : Prop := l = [] ∨ ∃ b off, x = some ⟨b, off, none⟩ ∧ b < w.heap.size ∧ ∀ i (h : i < l.length), w.cell? ⟨b, off + i, none⟩ = some (.int .i64 ((l[i]'h : Nat) : Int))
theorem InA.below {w w' : World} {x : Option Addr} {l : List Nat} (h : InA w x l) (hb : Below w.heap.size w w') : InA w' x l := by
  rcases h with h | ⟨b, off, h1, h2, h3⟩
  · exact Or.inl h
  · exact Or.inr ⟨b, off, h1, Nat.lt_of_lt_of_le h2 hb.size, fun i hi => (hb.cell (p := ⟨b, off + i, none⟩) h2).trans (h3 i hi)⟩
theorem InA.get {w : World} {x : Option Addr} {l : List Nat} (h : InA w x l) {k : Nat} (hk : k < l.length) : ∃ b off, x = some ⟨b, off, none⟩ ∧ b < w.heap.size ∧ w.cell? ⟨b, off + k, none⟩ = some (.int .i64 ((l[k]'hk : Nat) : Int)) := by
  rcases h with rfl | ⟨b, off, h1, h2, h3⟩
  · exact absurd hk (Nat.not_lt_zero k)
  · exact ⟨b, off, h1, h2, h3 k hk⟩
/-- A field without spaces at its ends. -/
def trimS (s : ByteArray) : ByteArray := stL (Lib.trimB s.data.toList 32)
def fnV (b : Nat) : List Value := [.func (.func 73) #[.pointer (some ⟨b, 0, none⟩)] #[], .func (.func 74) #[.pointer (some ⟨b, 0, none⟩)] #[], .func (.func 75) #[.pointer (some ⟨b, 0, none⟩)] #[], .func (.func 76) #[.pointer (some ⟨b, 0, none⟩)] #[], .func (.func 77) #[.pointer (some ⟨b, 0, none⟩)] #[], .func (.func 78) #[.pointer (some ⟨b, 0, none⟩)] #[], .func (.func 79) #[.pointer (some ⟨b, 0, none⟩)] #[], .func (.func 80) #[.pointer (some ⟨b, 0, none⟩)] #[]]
/-- What row keeps: the result's box, the reader's, and the readers. -/
structure RX (w0 : World) (o : Ob) (w : World) : Prop where
  res : Rw w w0.heap.size (obsC zeroO)
  rd : Rw w (w0.heap.size + 1) (obsC o)
  fn : Rw w (w0.heap.size + 2) (fnV (w0.heap.size + 1))
  below : Below w0.heap.size w0 w
theorem RX.call {w0 w w' : World} {o : Ob} (h : RX w0 o w) (hb : Below w.heap.size w w') : RX w0 o w' := ⟨h.res.call hb, h.rd.call hb, h.fn.call hb, below_then h.below hb⟩
theorem RX.read {w0 w w' : World} {o o' : Ob} (h : RX w0 o w) (hr : Rw w' (w0.heap.size + 1) (obsC o')) (ho : Only (w0.heap.size + 1) w w') : RX w0 o' w' :=
  ⟨h.res.only ho (by omega), hr, h.fn.only ho (by omega), h.below.trans (ho.below.mono (Nat.le_succ _))⟩
/-- What the readers find first. -/
structure VW (w : World) : Prop where
  mx : MX w
theorem VW.below {w w' : World} (h : VW w) (hb : Below w.heap.size w w') : VW w' := ⟨h.mx.below hb⟩
end Vw
end Go.Proofs.YtaghilgfldaaiaaGreatDoor
/-
  The walk of magText of package obs.
-/
namespace Go.Proofs.YtaghilgfldaaiaaGreatDoor
namespace Ow
open Go.RowKit Lw Go.Proofs.YtaghilgfldaaiaaGreatDoor.Ap Go.Proofs.YtaghilgfldaaiaaGreatDoor.Op Go.Proofs.YtaghilgfldaaiaaGreatDoor.Mp Go.Proofs.YtaghilgfldaaiaaGreatDoor.Mw Go.Proofs.YtaghilgfldaaiaaGreatDoor.At

theorem itoa_dg (n : Nat) (h : n < 10) : Lib.itoa (n : Int) = [dg n] := by
  unfold Lib.itoa
  rw [if_neg (by omega), Int.toNat_natCast, Lib.decDigits_one h]
  rfl
theorem itoa_any (n : Int) (w : World) (hT : Gt.Tab w) (h0 : 0 ≤ n) (h1 : n ≤ 1000000000000000000) :
    Calls Tryz.prog 128 #[.int .i64 n] w fun e w' => e = .returned (.string ⟨(Lib.itoa n).toArray⟩) ∧ Below w.heap.size w w' :=
  (Tryz.strconv_Itoa n (by omega) (by omega) w hT).mono fun _ _ ⟨x, k, os, y⟩ => ⟨x, by rw [y]; exact Gt.below_grow w k os⟩
theorem size_mk (l : List UInt8) : (⟨l.toArray⟩ : ByteArray).size = l.length := by simp [ByteArray.size]
theorem str_app (a b : List UInt8) : ((⟨a.toArray⟩ : ByteArray) ++ ⟨b.toArray⟩) = ⟨(a ++ b).toArray⟩ := by
  apply ByteArray.ext
  simp [ByteArray.data_append]
end Ow
end Go.Proofs.YtaghilgfldaaiaaGreatDoor
/-
  Plain law of observations: the line of an observation is read as the rounded observation; no walk here.
-/
namespace Go.Proofs.YtaghilgfldaaiaaGreatDoor
namespace Op
open Go.RowKit Lw Go.Proofs.YtaghilgfldaaiaaGreatDoor.Ap Go.Proofs.YtaghilgfldaaiaaGreatDoor.Mp Go.Proofs.YtaghilgfldaaiaaGreatDoor.At

/-- A line: the day's text is handed over. -/
def lineL (day : ByteArray) (o : Ob) : List UInt8 := nameF o.name ++ (67 :: (day.data.toList ++ (Gt.raL o.ra 3 ++ (Gt.decL o.dec 2 ++ (spL 9 ++ (magF o.mag o.band ++ (spL 6 ++ o.site.data.toList)))))))
/-- What Print returns. -/
def PrintIs (o : Ob) (s : ByteArray) (c : Int) : Prop := (okO o ∧ (∃ day, DayIs o.t 6 day 0 ∧ s = ⟨(lineL day o).toArray⟩) ∧ c = 0) ∨ (¬ okO o ∧ s = ByteArray.empty ∧ c = 8)
theorem PrintIs.uniq {o : Ob} {s s' : ByteArray} {c c' : Int} (a : PrintIs o s c) (b : PrintIs o s' c') : s = s' ∧ c = c' := by
  rcases a with ⟨a1, ⟨d, a2, a3⟩, a4⟩ | ⟨a1, a2, a3⟩ <;> rcases b with ⟨b1, ⟨d', b2, b3⟩, b4⟩ | ⟨b1, b2, b3⟩
  · obtain ⟨rfl, _⟩ := a2.uniq b2
    exact ⟨by rw [a3, b3], by omega⟩
  · exact absurd a1 b1
  · exact absurd b1 a1
  · exact ⟨by rw [a2, b2], by omega⟩
theorem ext_seg {s : ByteArray} {A B C : List UInt8} {i j : Nat} (h : s.data.toList = A ++ (B ++ C)) (hi : A.length = i) (hj : i + B.length = j) : s.extract i j = ⟨B.toArray⟩ := by
  have sz : s.size = A.length + (B.length + C.length) := by have := congrArg List.length h; simpa using this
  apply toL_inj
  rw [ext_L s i j (by omega), h, ← hi, List.drop_left, show j - A.length = B.length by omega, List.take_left]
theorem cut_id {l : List UInt8} {c : UInt8} (h : c ≠ 32) : cutL (l ++ [c]) = l ++ [c] := by
  unfold cutL
  rw [List.reverse_append, List.reverse_singleton, List.singleton_append, List.dropWhile_cons_of_neg (by simpa using h), List.reverse_cons, List.reverse_reverse]
theorem spL_len (n : Nat) : (spL n).length = n := List.length_replicate
theorem dec_of_pad {r d : Nat} (hd : 1 ≤ d) (h : r < 10 ^ d) : Gt.padL (r : Int) d = decL r d := pad_dec r d hd h
/-- A clock of two digits each. -/
theorem clock_dec {n d : Nat} (hd : 1 ≤ d) (h : n / 10 ^ d < 360000) : Gt.clockL n d = decL (n / 10 ^ d / 3600) 2 ++ ([32] ++ (decL (n / 10 ^ d / 60 % 60) 2 ++ ([32] ++ (decL (n / 10 ^ d % 60) 2 ++ (46 :: decL (n % 10 ^ d) d))))) := by
  unfold Gt.clockL Gt.glueL
  rw [if_pos (by omega), dec_of_pad (by omega) (by omega), dec_of_pad (by omega) (by omega), dec_of_pad (by omega) (by omega), dec_of_pad hd (Nat.mod_lt _ (Nat.pow_pos (by omega)))]
  simp only [List.append_assoc]
end Op
end Go.Proofs.YtaghilgfldaaiaaGreatDoor
/-
  The walk of the closure of Print of package obs: bytes are put into the line.
-/
namespace Go.Proofs.YtaghilgfldaaiaaGreatDoor
namespace Ow
open Go.RowKit Lw Go.Proofs.YtaghilgfldaaiaaGreatDoor.Ap Go.Proofs.YtaghilgfldaaiaaGreatDoor.Op Go.Proofs.YtaghilgfldaaiaaGreatDoor.Mp Go.Proofs.YtaghilgfldaaiaaGreatDoor.Mw Go.Proofs.YtaghilgfldaaiaaGreatDoor.At

def bytesV (l : List UInt8) : List Value := l.map (fun b => .int .u8 (b.toNat : Int))
theorem bytesV_len (l : List UInt8) : (bytesV l).length = l.length := List.length_map _
theorem size_L (s : ByteArray) : s.size = s.data.toList.length := (Array.length_toList (xs := s.data)).symm
theorem below_sets {B : Nat} {a : World} (b : Nat) (hb : B ≤ b) : ∀ (vs : List Value) (o : Nat) {w : World}, Below B a w → Below B a (w.setCells b o vs)
  | [], _, _, h => h
  | v :: r, o, _, h => below_sets b hb r (o + 1) (h.setCell (p := ⟨b, o, none⟩) hb v)
theorem sets_size (b : Nat) : ∀ (vs : List Value) (o : Nat) (w : World), (w.setCells b o vs).heap.size = w.heap.size
  | [], _, _ => rfl
  | v :: r, o, w => by rw [World.setCells, sets_size b r (o + 1)]; simp
/-- An observation in its box; a line of eighty bytes; the variable that holds the line. -/
structure PX (w0 : World) (b : Nat) (o : Ob) (g p c : Nat) (L : List UInt8) (w : World) : Prop where
  ox : OX w0 b o w
  hb : b < g
  hg : w0.heap.size ≤ g
  hp : g < p
  lt : p < w.heap.size
  var : w.rangeAt p 0 [.slice (some ⟨g, 0, none⟩) 80 c]
  len : L.length = 80
  row : w.rangeAt g 0 (bytesV L)
  free : w.there g 0 80
theorem PX.call {w0 w w' : World} {b g p c : Nat} {o : Ob} {L : List UInt8} (h : PX w0 b o g p c L w) (hb : Below w.heap.size w w') : PX w0 b o g p c L w' :=
  ⟨h.ox.call hb, h.hb, h.hg, h.hp, Nat.lt_of_lt_of_le h.lt hb.size, rangeAt_below h.var hb h.lt, h.len, rangeAt_below h.row hb (Nat.lt_trans h.hp h.lt), there_below h.free hb (Nat.lt_trans h.hp h.lt)⟩
/-- Bytes put into a line. -/
def wput (L : List UInt8) (k : Nat) (s : List UInt8) : List UInt8 := L.take k ++ (s ++ L.drop (k + s.length))
theorem wput_len {L : List UInt8} {k : Nat} {s : List UInt8} (h : k + s.length ≤ L.length) : (wput L k s).length = L.length := by
  unfold wput; simp; omega
theorem wput_in {L : List UInt8} {k : Nat} {s : List UInt8} (h : k + s.length ≤ L.length) (j : Nat) (hj : j < s.length) : (wput L k s)[k + j]? = s[j]? := by
  unfold wput
  rw [List.getElem?_append_right (by simp; omega), List.length_take, Nat.min_eq_left (by omega), Nat.add_sub_cancel_left, List.getElem?_append_left hj]
theorem wput_lo {L : List UInt8} {k : Nat} {s : List UInt8} (h : k + s.length ≤ L.length) (j : Nat) (hj : j < k) : (wput L k s)[j]? = L[j]? := by
  unfold wput
  rw [List.getElem?_append_left (by simp; omega), List.getElem?_take_of_lt hj]
theorem wput_hi {L : List UInt8} {k : Nat} {s : List UInt8} (h : k + s.length ≤ L.length) (j : Nat) (hj : k + s.length ≤ j) : (wput L k s)[j]? = L[j]? := by
  unfold wput
  rw [List.getElem?_append_right (by simp; omega), List.length_take, Nat.min_eq_left (by omega), List.getElem?_append_right (by omega), List.getElem?_drop]
  congr 1; omega
theorem PX.put {w0 w : World} {b g p c : Nat} {o : Ob} {L : List UInt8} (h : PX w0 b o g p c L w) (k : Nat) (s : List UInt8) (hs : k + s.length ≤ 80) : PX w0 b o g p c (wput L k s) (w.setCells g k (bytesV s)) := by
  have hl := h.len
  have bl : (bytesV s).length = s.length := bytesV_len s
  have bL : (bytesV L).length = L.length := bytesV_len L
  have hout := World.cell?_setCells_out g (bytesV s) k w
  have hin := World.cell?_setCells_in g (bytesV s) k w (fun j hj => (by have := (h.free (k + j) (by omega)).1; rwa [Nat.zero_add] at this))
  refine ⟨⟨below_sets g h.hg _ _ h.ox.below, ?_, ?_⟩, h.hb, h.hg, h.hp, ?_, ?_, ?_, ?_, ?_⟩
  · rw [sets_size]; exact h.ox.lt
  · intro i x hi
    rw [hout _ (fun e => absurd e (Nat.ne_of_lt h.hb))]
    exact h.ox.row i x hi
  · rw [sets_size]; exact h.lt
  · intro i x hi
    rw [hout _ (fun e => absurd e (Nat.ne_of_gt h.hp))]
    exact h.var i x hi
  · rw [wput_len (by omega), hl]
  · intro i x hi
    rw [Nat.zero_add]
    unfold bytesV at hi
    rw [List.getElem?_map] at hi
    obtain ⟨y, hy, rfl⟩ := Option.map_eq_some_iff.1 hi
    by_cases h1 : i < k
    · rw [wput_lo (by omega) i h1] at hy
      rw [hout _ (fun _ _ => Or.inl h1)]
      have := h.row i (.int .u8 (y.toNat : Int)) (by unfold bytesV; rw [List.getElem?_map, hy]; rfl)
      rwa [Nat.zero_add] at this
    · by_cases h2 : k + s.length ≤ i
      · rw [wput_hi (by omega) i h2] at hy
        rw [hout _ (fun _ _ => Or.inr (by show k + (bytesV s).length ≤ i; omega))]
        have := h.row i (.int .u8 (y.toNat : Int)) (by unfold bytesV; rw [List.getElem?_map, hy]; rfl)
        rwa [Nat.zero_add] at this
      · obtain ⟨j, rfl⟩ : ∃ j, i = k + j := ⟨i - k, by omega⟩
        rw [wput_in (by omega) j (by omega)] at hy
        rw [hin j (by omega)]
        unfold bytesV
        rw [List.getElem_map]
        rw [(List.getElem?_eq_some_iff.1 hy).2]
  · intro j hj
    refine ⟨?_, by rw [World.frozen?_setCells]; exact (h.free j hj).2⟩
    by_cases h1 : k ≤ j ∧ j < k + s.length
    · obtain ⟨i, rfl⟩ : ∃ i, j = k + i := ⟨j - k, by omega⟩
      rw [Nat.zero_add, hin i (by omega)]
      rfl
    · rw [hout _ (fun _ _ => by show 0 + j < _ ∨ _ ≤ 0 + j; omega)]
      exact (h.free j hj).1

end Ow
end Go.Proofs.YtaghilgfldaaiaaGreatDoor
/-
  Plain law of observations: bytes put into eighty spaces make the line; lengths of the parts; no walk here.
-/
namespace Go.Proofs.YtaghilgfldaaiaaGreatDoor
namespace Op
open Go.RowKit Lw Go.Proofs.YtaghilgfldaaiaaGreatDoor.Ap Go.Proofs.YtaghilgfldaaiaaGreatDoor.Mp Go.Proofs.YtaghilgfldaaiaaGreatDoor.At Go.Proofs.YtaghilgfldaaiaaGreatDoor.Ow

theorem spL_add (a b : Nat) : spL (a + b) = spL a ++ spL b := by unfold spL; exact (List.replicate_append_replicate).symm
theorem clock_len12 {n d : Nat} (hd : 1 ≤ d) (h : n / 10 ^ d < 360000) : (Gt.clockL n d).length = 9 + d := by
  rw [clock_dec hd h]
  simp [decL_len]; omega
theorem ra_len (a : Int) : (Gt.raL a 3).length = 12 := by
  unfold Gt.raL
  refine clock_len12 (by omega) ?_
  have := Nat.mod_lt (Gt.rndN (a % 1296000000000).toNat (15000000 / 10 ^ 3)) (show 0 < 86400 * 10 ^ 3 by decide)
  omega
theorem rnd_le2 (a u : Nat) : Gt.rndN a u ≤ a / u + 1 := by
  have h := Gt.rndN_eq a u
  have e : ((a / u : Nat) : Int) = (a : Int) / u := by omega
  unfold Gp.rndI at h
  split at h <;> omega
theorem dec_len {a : Int} (h0 : -324000000000 ≤ a) (h1 : a ≤ 324000000000) : (Gt.decL a 2).length = 12 := by
  unfold Gt.decL
  rw [List.length_cons, clock_len12 (by omega)]
  have := rnd_le2 a.natAbs (1000000 / 10 ^ 2)
  have e : 1000000 / 10 ^ 2 = 10000 := by decide
  rw [e] at this ⊢
  omega
theorem day_len17 {t : Int} {s : ByteArray} (h : DayIs t 6 s 0) : s.data.toList.length = 17 := by
  rw [← size_L]
  rcases h with ⟨_, _, h⟩ | ⟨_, _, _, _, h⟩ | ⟨_, _, _, _, n, y, m, z, k, _, rfl, _⟩
  · cases h
  · cases h
  · unfold daytS dbS
    rw [if_pos (by decide)]
    simp only [ByteArray.size_append, dS_size]
    rfl
theorem magB_len {m : Int} (h0 : -999 ≤ m) (h1 : m ≤ 9999) : (magB m).length ≤ 5 ∧ 4 ≤ (magB m).length := by
  unfold magB
  have h2 : (decL m.natAbs 2).length = 2 := decL_len _ _
  have l : (m.natAbs / 100 < 10 → (Lib.itoa ((m.natAbs / 100 : Nat) : Int)).length = 1) ∧ (Lib.itoa ((m.natAbs / 100 : Nat) : Int)).length ≤ 2 ∧ 1 ≤ (Lib.itoa ((m.natAbs / 100 : Nat) : Int)).length := by
    by_cases c : m.natAbs / 100 < 10
    · rw [itoa_dg _ c]; simp
    · refine ⟨fun h => absurd h c, ?_⟩
      unfold Lib.itoa
      rw [if_neg (by omega), Int.toNat_natCast, Lib.decDigits_two c (by omega)]; simp
  rw [List.length_append, List.length_append, List.length_append, h2, List.length_singleton]
  by_cases c : m < 0
  · rw [if_pos c, List.length_singleton, l.1 (by omega)]; omega
  · rw [if_neg c, List.length_nil]; omega
theorem magL_len {m : Int} (h0 : -999 ≤ m) (h1 : m ≤ 9999) : (magL m).length = 5 := by
  have := magB_len h0 h1
  unfold magL
  rw [List.length_append, spL_len]; omega
end Op
end Go.Proofs.YtaghilgfldaaiaaGreatDoor
/-
  Plain law of observations: the columns of a line that is made of its parts; no walk here.
-/
namespace Go.Proofs.YtaghilgfldaaiaaGreatDoor
namespace Op
open Go.RowKit Lw Go.Proofs.YtaghilgfldaaiaaGreatDoor.Ap Go.Proofs.YtaghilgfldaaiaaGreatDoor.Mp Go.Proofs.YtaghilgfldaaiaaGreatDoor.At Go.Proofs.YtaghilgfldaaiaaGreatDoor.Ow Go.Proofs.YtaghilgfldaaiaaGreatDoor.Mw

/-- A line made of its parts. -/
def rowL (n1 n2 n3 D R E M S : List UInt8) : List UInt8 := n1 ++ (n2 ++ (n3 ++ (67 :: (D ++ (R ++ (E ++ (spL 9 ++ (M ++ (spL 6 ++ S)))))))))
structure Seg (s : ByteArray) (n1 n2 n3 D R E M S : List UInt8) : Prop where
  eq : s.data.toList = rowL n1 n2 n3 D R E M S
  l1 : n1.length = 5
  l2 : n2.length = 7
  l3 : n3 = [32, 32]
  d : D.length = 17
  r : R.length = 12
  e : E.length = 12
  m : M.length = 6
  s : S.length = 3
section
variable {s : ByteArray} {n1 n2 n3 D R E M S : List UInt8}
theorem Seg.size (h : Seg s n1 n2 n3 D R E M S) : s.size = 80 := by
  have := congrArg List.length h.eq
  have e : s.data.toList.length = s.size := Array.length_toList (xs := s.data)
  unfold rowL at this
  simp only [List.length_append, List.length_cons, spL_len, h.l1, h.l2, h.l3, h.d, h.r, h.e, h.m, h.s, List.length_nil] at this
  omega
theorem Seg.x0 (h : Seg s n1 n2 n3 D R E M S) : s.extract 0 5 = ⟨n1.toArray⟩ := by
  refine ext_seg (A := []) (C := n2 ++ (n3 ++ (67 :: (D ++ (R ++ (E ++ (spL 9 ++ (M ++ (spL 6 ++ S))))))))) ?_ rfl (by rw [h.l1])
  rw [h.eq]; rfl
theorem Seg.x5 (h : Seg s n1 n2 n3 D R E M S) : s.extract 5 12 = ⟨n2.toArray⟩ := by
  refine ext_seg (A := n1) (C := (n3 ++ (67 :: (D ++ (R ++ (E ++ (spL 9 ++ (M ++ (spL 6 ++ S))))))))) ?_ h.l1 (by rw [h.l2])
  rw [h.eq]; rfl
end
/-! ### Points and ends -/
theorem ptL_app {r : List UInt8} : ∀ {l : List UInt8}, (∀ c ∈ l, c ≠ 46) → ptL (l ++ 46 :: r) = l.length := by
  intro l h
  refine ptL_uniq (by simp) (fun j g hj => ?_) (fun g => ?_)
  · rw [List.getElem_append_left hj]
    intro e
    refine h _ (List.getElem_mem hj) ?_
    apply UInt8.toNat_inj.1
    exact Int.ofNat.inj e
  · rw [List.getElem_append_right (Nat.le_refl _)]
    simp
theorem decs_app {l r : List UInt8} (h : ∀ c ∈ l, c ≠ 46) : decs ⟨(l ++ 46 :: r).toArray⟩ = r.length := by
  unfold decs ptS
  rw [size_mk]
  have : (⟨(l ++ 46 :: r).toArray⟩ : ByteArray).data.toList = l ++ 46 :: r := by simp
  rw [this, ptL_app h]
  simp
theorem allD_ne46 {l : List UInt8} (h : allD l) : ∀ c ∈ l, c ≠ 46 := fun c hc e => by have := h c hc; rw [e] at this; have := this.1; exact absurd this (by decide)
theorem mem3 {P : UInt8 → Prop} {a b c : List UInt8} {x y : UInt8} (ha : ∀ z ∈ a, P z) (hx : P x) (hb : ∀ z ∈ b, P z) (hy : P y) (hc : ∀ z ∈ c, P z) : ∀ z ∈ a ++ ([x] ++ (b ++ ([y] ++ c))), P z := by
  intro z hz
  simp only [List.mem_append, List.mem_singleton] at hz
  rcases hz with h | rfl | h | rfl | h
  · exact ha z h
  · exact hx
  · exact hb z h
  · exact hy
  · exact hc z h
end Op
end Go.Proofs.YtaghilgfldaaiaaGreatDoor
/-
  The walk of mag of the reference of observations.
-/
namespace Go.Proofs.YtaghilgfldaaiaaGreatDoor
namespace Ow
open Go.RowKit Lw Go.Proofs.YtaghilgfldaaiaaGreatDoor.Ap Go.Proofs.YtaghilgfldaaiaaGreatDoor.Op Go.Proofs.YtaghilgfldaaiaaGreatDoor.Mp Go.Proofs.YtaghilgfldaaiaaGreatDoor.Mw Go.Proofs.YtaghilgfldaaiaaGreatDoor.At

theorem itoa_two (n : Nat) (h1 : ¬ n < 10) (h : n < 100) : Lib.itoa (n : Int) = [dg (n / 10), dg (n % 10)] := by
  unfold Lib.itoa
  rw [if_neg (by omega), Int.toNat_natCast, Lib.decDigits_two h1 h]
  rfl
end Ow
end Go.Proofs.YtaghilgfldaaiaaGreatDoor
/-
  Plain law of observations: the line of an observation is read as the rounded observation; no walk here.
-/
namespace Go.Proofs.YtaghilgfldaaiaaGreatDoor
namespace Op
open Go.RowKit Lw Go.Proofs.YtaghilgfldaaiaaGreatDoor.Ap Go.Proofs.YtaghilgfldaaiaaGreatDoor.Mp Go.Proofs.YtaghilgfldaaiaaGreatDoor.At Go.Proofs.YtaghilgfldaaiaaGreatDoor.Ow Go.Proofs.YtaghilgfldaaiaaGreatDoor.Mw

theorem cutL_sp (l : List UInt8) : ∀ k, cutL (l ++ spL k) = cutL l
  | 0 => by simp [spL]
  | k + 1 => by
    have ih := cutL_sp l k
    have e : spL (k + 1) = spL k ++ [32] := by unfold spL; rw [List.replicate_succ']
    rw [e, ← List.append_assoc]
    unfold cutL at ih ⊢
    have e2 : (l ++ spL k ++ [32]).reverse = 32 :: (l ++ spL k).reverse := by simp
    rw [e2, List.dropWhile_cons_of_pos (by decide)]
    exact ih
theorem toL_mk (l : List UInt8) : (⟨l.toArray⟩ : ByteArray).data.toList = l := by simp
theorem mk_toL (s : ByteArray) : (⟨s.data.toList.toArray⟩ : ByteArray) = s := toL_inj (by simp)
theorem blank_sp (n : Nat) : blankP ⟨(spL n).toArray⟩ := fun c hc => by rw [toL_mk] at hc; exact (List.mem_replicate.1 hc).2
theorem word_ne {c : UInt8} (h : dgP (c.toNat : Int) ∨ ltP (c.toNat : Int)) : c ≠ 32 := fun e => by
  rw [e] at h
  revert h
  decide
/-- What the columns of a name say. -/
def NameIs (n1 n2 : List UInt8) (nm : ByteArray) : Prop := (blankP ⟨n1.toArray⟩ ∧ nm = cutS ⟨n2.toArray⟩ ∧ ¬ numbP nm) ∨ (¬ blankP ⟨n1.toArray⟩ ∧ nm = ⟨n1.toArray⟩ ∧ numbP nm ∧ blankP ⟨n2.toArray⟩)
theorem numb_first {s : ByteArray} (h : numbP s) : ¬ blankP s := by
  intro b
  obtain ⟨z, h⟩ := h
  have e : s.data.toList.length = s.size := Array.length_toList (xs := s.data)
  match hl : s.data.toList with
  | [] => rw [hl] at e; simp at e; omega
  | x :: l =>
    have hx : x = 32 := b x (by rw [hl]; exact List.mem_cons_self)
    rcases h with ⟨h, _⟩ | ⟨h, _⟩
    · rw [bt_L s 0 (by omega), hl, hx] at h
      change ((32 : UInt8).toNat : Int) = 126 at h
      exact absurd h (by decide)
    · have := h x (by rw [ext_L s 0 1 (by omega), hl]; simp)
      exact word_ne this hx
theorem name_split {nm : ByteArray} (h : nameP nm) : ∃ n1 n2, nameF nm = n1 ++ (n2 ++ [32, 32]) ∧ n1.length = 5 ∧ n2.length = 7 ∧ NameIs n1 n2 nm := by
  have e : nm.data.toList.length = nm.size := Array.length_toList (xs := nm.data)
  unfold nameF
  by_cases c : numbP nm
  · rw [if_pos c]
    refine ⟨nm.data.toList, spL 7, by rfl, by rw [e]; exact c.1, spL_len 7, Or.inr ⟨?_, (mk_toL nm).symm, c, blank_sp 7⟩⟩
    rw [mk_toL]
    exact numb_first c
  · rw [if_neg c]
    rcases h with h | ⟨h1, h2, h3⟩
    · exact absurd h c
    · refine ⟨spL 5, nm.data.toList ++ spL (7 - nm.size), ?_, spL_len 5, by rw [List.length_append, e, spL_len]; omega, Or.inl ⟨blank_sp 5, ?_, c⟩⟩
      · rw [show 9 - nm.size = (7 - nm.size) + 2 by omega, spL_add]
        simp only [List.append_assoc]
        rfl
      · obtain ⟨l, x, hl⟩ : ∃ l x, nm.data.toList = l ++ [x] := ⟨_, _, (List.dropLast_concat_getLast (by intro hn; rw [hn] at e; simp at e; omega)).symm⟩
        unfold cutS
        rw [toL_mk, cutL_sp, hl, cut_id (word_ne (h3 x (by rw [hl]; simp))), ← hl, mk_toL]
/-! ### Magnitudes -/
/-! ### Angles -/
/-! ### Days -/
theorem day_time {t d : Int} {s : ByteArray} (h : DayIs t d s 0) : timeP t := by
  rcases h with ⟨_, _, h⟩ | ⟨_, _, _, _, h⟩ | ⟨_, _, h1, h2, _⟩
  · cases h
  · cases h
  · exact ⟨h1, h2⟩
end Op
end Go.Proofs.YtaghilgfldaaiaaGreatDoor
/-
  The walk of name of package obs.
-/
namespace Go.Proofs.YtaghilgfldaaiaaGreatDoor
namespace Ow
open Go.RowKit Lw Go.Proofs.YtaghilgfldaaiaaGreatDoor.Ap Go.Proofs.YtaghilgfldaaiaaGreatDoor.Op Go.Proofs.YtaghilgfldaaiaaGreatDoor.Mp Go.Proofs.YtaghilgfldaaiaaGreatDoor.Mw Go.Proofs.YtaghilgfldaaiaaGreatDoor.At

/-- What the columns of a name say. -/
def NameOf (s n : ByteArray) : Prop := (blankP (s.extract 0 5) ∧ n = cutS (s.extract 5 12) ∧ ¬ numbP n) ∨ (¬ blankP (s.extract 0 5) ∧ n = s.extract 0 5 ∧ numbP n ∧ blankP (s.extract 5 12))
end Ow
end Go.Proofs.YtaghilgfldaaiaaGreatDoor
/-
  Plain law of observations: a line's candidate, all of it but the check; no walk here.
-/
namespace Go.Proofs.YtaghilgfldaaiaaGreatDoor
namespace Op
open Go.RowKit Lw Go.Proofs.YtaghilgfldaaiaaGreatDoor.Ap Go.Proofs.YtaghilgfldaaiaaGreatDoor.Mp Go.Proofs.YtaghilgfldaaiaaGreatDoor.At Go.Proofs.YtaghilgfldaaiaaGreatDoor.Ow Go.Proofs.YtaghilgfldaaiaaGreatDoor.Mw

/-- The variance of a line, by the digits of its declination. -/
def sgOf (n : Nat) : Int := if n = 0 then 1000000 else if n = 1 then 300000 else 100000
structure Cand (s : ByteArray) (o : Ob) : Prop where
  size : s.size = 80
  mark : bt s 12 = 32 ∧ bt s 13 = 32 ∧ bt s 14 = 67
  b1 : blankP (s.extract 56 65)
  b2 : blankP (s.extract 71 77)
  p : 3 ≤ decs (cutS (s.extract 15 32)) ∧ decs (cutS (s.extract 15 32)) ≤ 6
  q : 1 ≤ decs (cutS (s.extract 32 44)) ∧ decs (cutS (s.extract 32 44)) ≤ 3
  r : decs (cutS (s.extract 44 56)) ≤ 2
  day : PDayIs (cutS (s.extract 15 32)) o.t 0
  ra : Gp.RaIs (cutS (s.extract 32 44)) o.ra 0
  dec : Gp.DecIs (cutS (s.extract 44 56)) o.dec 0
  site : o.site = s.extract 77 80
  sg : o.sg = sgOf (decs (cutS (s.extract 44 56)))
  name : NameOf s o.name
  mag : (blankP (s.extract 65 71) ∧ o.mag = 9999 ∧ o.band = 32) ∨ (¬ blankP (s.extract 65 71) ∧ MagIs (s.extract 65 70) o.mag ∧ o.band = bt s 70)
theorem Cand.good {s : ByteArray} {o : Ob} (h : Cand s o) (ok : okO o) : Good s o := ⟨h.size, h.mark, h.b1, h.b2, h.p, h.q, h.r, h.day, h.ra, h.dec, h.site, h.sg, h.name, h.mag, ok⟩
theorem nameOf_uniq {s a b : ByteArray} (h : NameOf s a) (g : NameOf s b) : a = b := by
  rcases h with ⟨x1, x2, _⟩ | ⟨x1, x2, _⟩ <;> rcases g with ⟨y1, y2, _⟩ | ⟨y1, y2, _⟩
  · rw [x2, y2]
  · exact absurd x1 y1
  · exact absurd y1 x1
  · rw [x2, y2]
theorem Cand.uniq {s : ByteArray} {o o' : Ob} (a : Cand s o) (b : Cand s o') : o = o' := by
  have e1 := (a.day.uniq b.day).1
  have e2 := (a.ra.det b.ra).1
  have e3 := (a.dec.det b.dec).1
  have e4 := a.site.trans b.site.symm
  have e5 := a.sg.trans b.sg.symm
  have e6 := nameOf_uniq (s := s) a.name b.name
  have e7 : o.mag = o'.mag ∧ o.band = o'.band := by
    rcases a.mag with ⟨x1, x2, x3⟩ | ⟨x1, x2, x3⟩ <;> rcases b.mag with ⟨y1, y2, y3⟩ | ⟨y1, y2, y3⟩
    · exact ⟨by omega, by omega⟩
    · exact absurd x1 y1
    · exact absurd y1 x1
    · exact ⟨x2.uniq y2, by omega⟩
  obtain ⟨e7, e8⟩ := e7
  cases o; cases o'
  simp only at e1 e2 e3 e4 e5 e6 e7 e8
  rw [e1, e2, e3, e4, e5, e6, e7, e8]
theorem ext_ext (s : ByteArray) (i j k l : Nat) (h : i + l ≤ j) : (s.extract i j).extract k l = s.extract (i + k) (i + l) := by
  rw [ByteArray.extract_extract, Nat.min_eq_left h]
end Op
end Go.Proofs.YtaghilgfldaaiaaGreatDoor
/-
  The day texts of times: Day of the reference.
-/
namespace Go.Proofs.YtaghilgfldaaiaaGreatDoor
namespace At
open Go.RowKit Lw Ap Go.Proofs.YtaghilgfldaaiaaGreatDoor.Mp Go.Proofs.YtaghilgfldaaiaaGreatDoor.Mw

theorem XSr.call {w : World} {b : Nat} {a c : World} (h : XSr w b a) (hb : Below a.heap.size a c) : XSr w b c := ⟨Nat.lt_of_lt_of_le h.lt hb.size, below_then h.below hb⟩
end At
end Go.Proofs.YtaghilgfldaaiaaGreatDoor
/-
  Text and Day of both, for any time and number of digits.
-/
namespace Go.Proofs.YtaghilgfldaaiaaGreatDoor
namespace At
open Go.RowKit Lw Ap Go.Proofs.YtaghilgfldaaiaaGreatDoor.Mp Go.Proofs.YtaghilgfldaaiaaGreatDoor.Mw

theorem text_any (t d : Int) (w : World) (hT : Tab w) (h0 : -9223372036854775808 ≤ t) (h1 : t ≤ 9223372036854775807) :
    Calls Tryz.prog 69 #[.int .i64 t, .int .i64 d] w (TextPost t d w) := by
  by_cases hd : d < 0 ∨ 6 < d
  · exact text_bad t d w hd
  · obtain ⟨k, rfl⟩ := Int.eq_ofNat_of_zero_le (show 0 ≤ d by omega)
    by_cases ht : t < bgv (-10227) 1972 1 ∨ bgv 36525 2100 1 ≤ t
    · exact text_out t k w (by omega) h0 h1 ht
    · obtain ⟨n, y, m, z, j, h⟩ := day_ex t (by omega) (by omega)
      exact text_in t n y m z j k w (by omega) hT h (by omega) (by omega)
end At
end Go.Proofs.YtaghilgfldaaiaaGreatDoor
/-
  The walk of Print of package obs.
-/
namespace Go.Proofs.YtaghilgfldaaiaaGreatDoor
namespace Ow
open Go.RowKit Lw Go.Proofs.YtaghilgfldaaiaaGreatDoor.Ap Go.Proofs.YtaghilgfldaaiaaGreatDoor.Op Go.Proofs.YtaghilgfldaaiaaGreatDoor.Mp Go.Proofs.YtaghilgfldaaiaaGreatDoor.Mw Go.Proofs.YtaghilgfldaaiaaGreatDoor.At

theorem info8 : (Tryz.prog.info? 33).map (·.size) = some 8 := by kernel_rfl
theorem PX.tab {w0 w' : World} {b g p c : Nat} {o : Ob} {L' : List UInt8} (h : PX w0 b o g p c L' w') (hT : Gt.Tab w0) : Gt.Tab w' := hT.below h.ox.below
/-- Before or behind one put. -/
structure PS (w0 : World) (b : Nat) (o : Ob) (g p c : Nat) (L : List UInt8) (k : Nat) (s : ByteArray) (w : World) : Prop where
  px : ∃ L0, (L0 = L ∨ L0 = wput L k s.data.toList) ∧ PX w0 b o g p c L0 w
  tab : Gt.Tab w
  len : k + s.data.toList.length ≤ L.length
theorem PS.call {w0 w w' : World} {b g p c k : Nat} {o : Ob} {L : List UInt8} {s : ByteArray} (h : PS w0 b o g p c L k s w) (hb : Below w.heap.size w w') : PS w0 b o g p c L k s w' := by
  obtain ⟨⟨L0, h1, h2⟩, h3, h4⟩ := h
  exact ⟨⟨L0, h1, h2.call hb⟩, h3.below hb, h4⟩
theorem PS.drew {w0 w : World} {b g p c k : Nat} {o : Ob} {L : List UInt8} {s : ByteArray} (h : PS w0 b o g p c L k s w) : PS w0 b o g p c L k s w.drew := h.call (Below.refl _ _).drew
/-- The same with the cells that are read. -/
abbrev PQ (w0 : World) (b : Nat) (o : Ob) (g p c : Nat) (L : List UInt8) (k : Nat) (s : ByteArray) (w : World) : Prop := w.cell? ⟨b, 6, none⟩ = some (.int .i64 o.mag) ∧ w.cell? ⟨b, 7, none⟩ = some (.int .u8 o.band) ∧ PS w0 b o g p c L k s w
theorem PS.q {w0 w : World} {b g p c k : Nat} {o : Ob} {L : List UInt8} {s : ByteArray} (h : PS w0 b o g p c L k s w) : PQ w0 b o g p c L k s w := by
  obtain ⟨L0, h1, h2⟩ := h.px
  have a := h2.ox.row 6 _ rfl
  have b := h2.ox.row 7 _ rfl
  rw [Nat.zero_add] at a b
  exact ⟨a, b, h⟩
theorem mag_bd {m b : Int} (h : magP m b) (h9 : m ≠ 9999) : -500 ≤ m ∧ m ≤ 3000 := by
  unfold magP at h
  omega
theorem band_u8 {m b : Int} (h : magP m b) : 0 ≤ b ∧ b ≤ 255 ∧ b < 128 := by
  unfold magP ltP at h
  omega
theorem band_enc {m b : Int} (h : magP m b) : Utf8.encode b = ⟨#[UInt8.ofNat b.toNat]⟩ := by
  have hb : 0 ≤ b ∧ b < 128 := by
    unfold magP ltP at h
    omega
  unfold Utf8.encode
  have v : Utf8.valid b = true := by
    unfold Utf8.valid
    rw [decide_eq_true (show 0 ≤ b by omega), decide_eq_true (show b < 55296 by omega)]
    rfl
  simp only [v, if_true]
  rw [if_pos (by omega)]
end Ow
end Go.Proofs.YtaghilgfldaaiaaGreatDoor
/-
  The walk of Parse of package obs.
-/
namespace Go.Proofs.YtaghilgfldaaiaaGreatDoor
namespace Ow
open Go.RowKit Lw Go.Proofs.YtaghilgfldaaiaaGreatDoor.Ap Go.Proofs.YtaghilgfldaaiaaGreatDoor.Op Go.Proofs.YtaghilgfldaaiaaGreatDoor.Mp Go.Proofs.YtaghilgfldaaiaaGreatDoor.Mw Go.Proofs.YtaghilgfldaaiaaGreatDoor.At

/-- The result's box. -/
structure Res (w0 w : World) : Prop where
  below : Below w0.heap.size w0 w
  lt : w0.heap.size < w.heap.size
  th : w.there w0.heap.size 0 8
theorem Res.new (w : World) : Res w (w.alloc (.cells (obsC zeroO).toArray 33)) := ⟨(Below.refl _ _).alloc (Nat.le_refl _) _, by simp, there_new _ _ _ 8 (by show 8 ≤ 8; omega)⟩
theorem Res.call {w0 w w' : World} (h : Res w0 w) (hb : Below w.heap.size w w') : Res w0 w' := ⟨below_then h.below hb, Nat.lt_of_lt_of_le h.lt hb.size, there_below h.th hb h.lt⟩
end Ow
end Go.Proofs.YtaghilgfldaaiaaGreatDoor
/-
  The walk of Parse of package obs: the main way.
-/
namespace Go.Proofs.YtaghilgfldaaiaaGreatDoor
namespace Ow
open Go.RowKit Lw Go.Proofs.YtaghilgfldaaiaaGreatDoor.Ap Go.Proofs.YtaghilgfldaaiaaGreatDoor.Op Go.Proofs.YtaghilgfldaaiaaGreatDoor.Mp Go.Proofs.YtaghilgfldaaiaaGreatDoor.Mw Go.Proofs.YtaghilgfldaaiaaGreatDoor.At

/-- The result's box, and an observation in a box of its own. -/
structure OY (w0 : World) (b : Nat) (o : Ob) (w : World) : Prop where
  res : Res w0 w
  hb : w0.heap.size < b
  lt : b < w.heap.size
  row : w.rangeAt b 0 (obsC o)
  th : w.there b 0 8
theorem OY.call {w0 w w' : World} {b : Nat} {o : Ob} (h : OY w0 b o w) (hb : Below w.heap.size w w') : OY w0 b o w' := ⟨h.res.call hb, h.hb, Nat.lt_of_lt_of_le h.lt hb.size, rangeAt_below h.row hb h.lt, there_below h.th hb h.lt⟩
theorem OY.set {w0 w : World} {b : Nat} {o : Ob} (h : OY w0 b o w) (i : Nat) (v : Value) (o' : Ob) (_hi : i < 8) (e : obsC o' = (obsC o).set i v) : OY w0 b o' (w.setCell ⟨b, i, none⟩ v) := by
  have hw0 : w0.heap.size ≠ b := Nat.ne_of_lt h.hb
  have out := World.cell?_setCells_out b [v] i w
  have inn := World.cell?_setCells_in b [v] i w (fun j hj => by
    have hj : j < 1 := hj
    have := (h.th (i + j) (by omega)).1
    rwa [Nat.zero_add] at this)
  have ew : w.setCells b i [v] = w.setCell ⟨b, i, none⟩ v := rfl
  have fz : ∀ p, (w.setCell ⟨b, i, none⟩ v).frozen? p = w.frozen? p := fun p => by rw [← ew, World.frozen?_setCells]
  rw [ew] at out inn
  refine ⟨⟨?_, ?_, ?_⟩, h.hb, ?_, ?_, ?_⟩
  · exact h.res.below.setCell (p := ⟨b, i, none⟩) (Nat.le_of_lt h.hb) v
  · have := sets_size b [v] i w
    rw [ew] at this
    rw [this]; exact h.res.lt
  · intro j hj
    rw [fz, out _ (fun e => absurd e hw0)]
    exact h.res.th j hj
  · have := sets_size b [v] i w
    rw [ew] at this
    rw [this]; exact h.lt
  · intro j x hx
    rw [e] at hx
    rw [Nat.zero_add]
    by_cases hj : j = i
    · subst hj
      have hl : j < (obsC o).length := _hi
      rw [List.getElem?_set_self hl] at hx
      have := inn 0 (by show 0 < 1; omega)
      rw [Nat.add_zero] at this
      rw [this]; exact hx
    · rw [List.getElem?_set_ne (fun h => hj h.symm)] at hx
      rw [out _ (fun _ _ => by show j < i ∨ i + 1 ≤ j; omega)]
      have := h.row j x hx
      rwa [Nat.zero_add] at this
  · intro j hj
    refine ⟨?_, by rw [fz]; exact (h.th j hj).2⟩
    rw [Nat.zero_add]
    by_cases hj2 : j = i
    · subst hj2
      have := inn 0 (by show 0 < 1; omega)
      rw [Nat.add_zero] at this
      rw [this]; rfl
    · rw [out _ (fun _ _ => by show j < i ∨ i + 1 ≤ j; omega)]
      have := (h.th j hj).1
      rwa [Nat.zero_add] at this
end Ow
end Go.Proofs.YtaghilgfldaaiaaGreatDoor
/-
  Plain law of observations: the line of an observation is read as the rounded observation; rounding again changes nothing; no walk here.
-/
namespace Go.Proofs.YtaghilgfldaaiaaGreatDoor
namespace Op
open Go.RowKit Lw Go.Proofs.YtaghilgfldaaiaaGreatDoor.Ap Go.Proofs.YtaghilgfldaaiaaGreatDoor.Mp Go.Proofs.YtaghilgfldaaiaaGreatDoor.At Go.Proofs.YtaghilgfldaaiaaGreatDoor.Ow Go.Proofs.YtaghilgfldaaiaaGreatDoor.Mw

theorem line_seg {day : ByteArray} {o : Ob} (ok : okO o) (hd : DayIs o.t 6 day 0) : ∃ n1 n2, NameIs n1 n2 o.name ∧
    Seg ⟨(lineL day o).toArray⟩ n1 n2 [32, 32] day.data.toList (Gt.raL o.ra 3) (Gt.decL o.dec 2) (magF o.mag o.band) o.site.data.toList := by
  obtain ⟨_, hn, hs, _, _, _, d0, d1, _, _, hm⟩ := ok
  obtain ⟨n1, n2, e, l1, l2, hN⟩ := name_split hn
  refine ⟨n1, n2, hN, ?_, l1, l2, rfl, day_len17 hd, ra_len _, dec_len d0 d1, ?_, by rw [← size_L]; exact hs⟩
  · rw [toL_mk]
    unfold lineL rowL
    rw [e]
    simp only [List.append_assoc]
  · unfold magF
    by_cases c : o.mag = 9999
    · rw [if_pos c, spL_len]
    · rw [if_neg c, List.length_append]
      rcases hm with ⟨h, _⟩ | ⟨h1, h2, _⟩
      · exact absurd h c
      · rw [magL_len (by omega) (by omega)]; rfl
/-- The rounded observation. -/
structure Rnd (day : ByteArray) (o r : Ob) : Prop where
  name : r.name = o.name
  site : r.site = o.site
  mag : r.mag = o.mag
  band : r.band = o.band
  sg : r.sg = 100000
  le : r.t ≤ o.t
  near : o.t - r.t < 100000
  pday : PDayIs day r.t 0
  day : DayIs r.t 6 day 0
  pra : Gp.RaIs ⟨(Gt.raL o.ra 3).toArray⟩ r.ra 0
  ra : Gt.raL r.ra 3 = Gt.raL o.ra 3
  ra0 : 0 ≤ r.ra
  ra1 : r.ra < 1296000000000
  dif1 : 2 * Pl.dif r.ra o.ra ≤ 15000
  dif2 : -15000 ≤ 2 * Pl.dif r.ra o.ra
  pdec : Gp.DecIs ⟨(Gt.decL o.dec 2).toArray⟩ r.dec 0
  dec0 : -324000000000 ≤ r.dec
  dec1 : r.dec ≤ 324000000000
  dd1 : r.dec - o.dec ≤ 5000
  dd2 : -5000 ≤ r.dec - o.dec
  dec : (o.dec < 0 ∧ r.dec = 0 ∧ Gt.decL o.dec 2 = 45 :: Gt.clockL 0 2) ∨ Gt.decL r.dec 2 = Gt.decL o.dec 2
theorem Rnd.okO {day : ByteArray} {o r : Ob} (h : Rnd day o r) (ok : okO o) : Op.okO r := by
  obtain ⟨_, a2, a3, a4, _, _, _, _, _, _, a9⟩ := ok
  have := h.sg
  exact ⟨day_time h.day, by rw [h.name]; exact a2, by rw [h.site]; exact a3, by rw [h.site]; exact a4, h.ra0, h.ra1, h.dec0, h.dec1, by omega, by omega, by rw [h.mag, h.band]; exact a9⟩
theorem band_u8 {m b : Int} (h : magP m b) : 0 ≤ b ∧ b ≤ 255 ∧ ((UInt8.ofNat b.toNat).toNat : Int) = b := by
  have hb : 0 ≤ b ∧ b ≤ 255 := by
    unfold magP ltP at h
    omega
  refine ⟨hb.1, hb.2, ?_⟩
  rw [UInt8.toNat_ofNat', Nat.mod_eq_of_lt (show b.toNat < 2 ^ 8 by omega)]
  omega
end Op
end Go.Proofs.YtaghilgfldaaiaaGreatDoor
/-
  The contracts of package obs: Print, Parse, Round, for any observation and string.
-/
namespace Go.Proofs.YtaghilgfldaaiaaGreatDoor
namespace Ow
open Go.RowKit Lw Go.Proofs.YtaghilgfldaaiaaGreatDoor.Ap Go.Proofs.YtaghilgfldaaiaaGreatDoor.Op Go.Proofs.YtaghilgfldaaiaaGreatDoor.Mp Go.Proofs.YtaghilgfldaaiaaGreatDoor.Mw Go.Proofs.YtaghilgfldaaiaaGreatDoor.At

/-- The bounds of a Go observation. -/
structure OB (o : Ob) : Prop where
  t0 : -9223372036854775808 ≤ o.t
  t1 : o.t ≤ 9223372036854775807
  b0 : 0 ≤ o.band
  b1 : o.band ≤ 255
  n1 : o.name.size ≤ maxLen
  n2 : o.site.size ≤ maxLen
/-- What Round returns. -/
def RoundIs (o q : Ob) (c : Int) : Prop := (∃ s, PrintIs o s 0 ∧ ObsIs s q c) ∨ (¬ okO o ∧ q = zeroO ∧ c = 8)
theorem RoundIs.uniq {o q q' : Ob} {c c' : Int} (a : RoundIs o q c) (b : RoundIs o q' c') : q = q' ∧ c = c' := by
  have ok : ∀ {s}, PrintIs o s 0 → okO o := fun h => by
    rcases h with ⟨h, _⟩ | ⟨_, _, h⟩
    · exact h
    · cases h
  rcases a with ⟨s, a1, a2⟩ | ⟨a1, a2, a3⟩ <;> rcases b with ⟨s', b1, b2⟩ | ⟨b1, b2, b3⟩
  · obtain ⟨rfl, _⟩ := a1.uniq b1
    exact a2.uniq b2
  · exact absurd (ok a1) b1
  · exact absurd (ok b1) a1
  · exact ⟨by rw [a2, b2], by omega⟩
/-- The boxes of Round. -/
structure RX (w0 : World) (o : Ob) (w : World) : Prop where
  below : Below w0.heap.size w0 w
  lt : w0.heap.size + 1 < w.heap.size
  row : w.rangeAt w0.heap.size 0 (obsC o)
  th : w.there (w0.heap.size + 1) 0 8
theorem RX.call {w0 w w' : World} {o : Ob} (h : RX w0 o w) (hb : Below w.heap.size w w') : RX w0 o w' :=
  ⟨below_then h.below hb, Nat.lt_of_lt_of_le h.lt hb.size, rangeAt_below h.row hb (by have := h.lt; omega), there_below h.th hb h.lt⟩
theorem RX.new (w : World) (o : Ob) : RX w o ((w.alloc (.cells (obsC o).toArray 33)).alloc (.cells (obsC zeroO).toArray 33)) := by
  have b1 : Below w.heap.size w (w.alloc (.cells (obsC o).toArray 33)) := (Below.refl _ _).alloc (Nat.le_refl _) _
  refine ⟨b1.alloc (by simp) _, by simp, rangeAt_below (rangeAt_new w _ _) ((Below.refl _ _).alloc (Nat.le_refl _) _) (by simp), ?_⟩
  have := there_new (w.alloc (.cells (obsC o).toArray 33)) (obsC zeroO).toArray 33 8 (by show 8 ≤ 8; omega)
  rwa [show (w.alloc (.cells (obsC o).toArray 33)).heap.size = w.heap.size + 1 by simp] at this
end Ow
end Go.Proofs.YtaghilgfldaaiaaGreatDoor
