/-
  Lemmas and walks, texts joined: VKpt.
-/
import Derived.Deep.RegionHeld3
import Derived.RegionTactic
import Derived.BigRegion
import Derived.StillTailTactics
import Derived.Test.YtaghilgfldaaiaaGreatDoorVd01
import Derived.Test.YtaghilgfldaaiaaGreatDoorVd02
import Derived.Test.YtaghilgfldaaiaaGreatDoorVb01
import Derived.Test.YtaghilgfldaaiaaGreatDoorVb02
import Derived.Test.YtaghilgfldaaiaaGreatDoorVb03
import Derived.Test.YtaghilgfldaaiaaGreatDoorVb04
import Derived.Test.YtaghilgfldaaiaaGreatDoorVb05
import Derived.Test.YtaghilgfldaaiaaGreatDoorVb06
import Derived.Test.YtaghilgfldaaiaaGreatDoorVb07
import Derived.Test.YtaghilgfldaaiaaGreatDoorVb08
import Derived.Test.YtaghilgfldaaiaaGreatDoorVb09
set_option linter.unusedSimpArgs false
set_option linter.unusedVariables false
/-
  The walk of the law PsvKept.
-/
namespace Go.Proofs.YtaghilgfldaaiaaGreatDoor
namespace Vw
open Go.RowKit Lw Go.Proofs.YtaghilgfldaaiaaGreatDoor.Ap Go.Proofs.YtaghilgfldaaiaaGreatDoor.Vp Go.Proofs.YtaghilgfldaaiaaGreatDoor.Op Go.Proofs.YtaghilgfldaaiaaGreatDoor.Ow Go.Proofs.YtaghilgfldaaiaaGreatDoor.Mp Go.Proofs.YtaghilgfldaaiaaGreatDoor.Mw Go.Proofs.YtaghilgfldaaiaaGreatDoor.At

/-- What stays: the list, what is kept, what is dropped. -/
structure KX (w0 : World) (xl xk xd : Option Addr) (l kp : List Ob) (dp : List Nat) (w : World) : Prop where
  below : Below w0.heap.size w0 w
  sl : SlA w xl l
  sk : SlA w xk kp
  sd : InA w xd dp
theorem KX.call {w0 w w' : World} {xl xk xd : Option Addr} {l kp : List Ob} {dp : List Nat} (h : KX w0 xl xk xd l kp dp w) (hb : Below w.heap.size w w') : KX w0 xl xk xd l kp dp w' := ⟨below_then h.below hb, h.sl.below hb, h.sk.below hb, h.sd.below hb⟩
structure KR (w0 : World) (xl xk xd : Option Addr) (l kp : List Ob) (dp : List Nat) (b1 o1 : Nat) (p : Ob) (b2 o2 : Nat) (q : Ob) (w : World) : Prop where
  r1 : w.rangeAt b1 o1 (obsC p)
  r2 : w.rangeAt b2 o2 (obsC q)
  l1 : b1 < w.heap.size
  l2 : b2 < w.heap.size
  kx : KX w0 xl xk xd l kp dp w
theorem KR.call {w0 w w' : World} {xl xk xd : Option Addr} {l kp : List Ob} {dp : List Nat} {b1 o1 b2 o2 : Nat} {p q : Ob} (h : KR w0 xl xk xd l kp dp b1 o1 p b2 o2 q w) (hb : Below w.heap.size w w') : KR w0 xl xk xd l kp dp b1 o1 p b2 o2 q w' :=
  ⟨rangeAt_below h.r1 hb h.l1, rangeAt_below h.r2 hb h.l2, Nat.lt_of_lt_of_le h.l1 hb.size, Nat.lt_of_lt_of_le h.l2 hb.size, h.kx.call hb⟩
structure KD (w0 : World) (xl xk xd : Option Addr) (l kp : List Ob) (dp : List Nat) (b1 o1 : Nat) (p : Ob) (b2 o2 : Nat) (q : Ob) (b3 o3 : Nat) (z : Value) (w : World) : Prop where
  kr : KR w0 xl xk xd l kp dp b1 o1 p b2 o2 q w
  c3 : w.cell? ⟨b3, o3, none⟩ = some z
  l3 : b3 < w.heap.size
theorem KD.call {w0 w w' : World} {xl xk xd : Option Addr} {l kp : List Ob} {dp : List Nat} {b1 o1 b2 o2 b3 o3 : Nat} {p q : Ob} {z : Value} (h : KD w0 xl xk xd l kp dp b1 o1 p b2 o2 q b3 o3 z w) (hb : Below w.heap.size w w') : KD w0 xl xk xd l kp dp b1 o1 p b2 o2 q b3 o3 z w' :=
  ⟨h.kr.call hb, (hb.cell (p := ⟨b3, o3, none⟩) h.l3).trans h.c3, Nat.lt_of_lt_of_le h.l3 hb.size⟩
/-- The i-th kept is among the first j. -/
def inTo (l : List Ob) (o : Ob) (j : Nat) : Prop := ∃ k, ∃ hk : k < l.length, k < j ∧ l[k] = o
theorem inTo_zero (l : List Ob) (o : Ob) : ¬ inTo l o 0 := fun ⟨_, _, h, _⟩ => by omega
theorem inTo_succ {l : List Ob} {o : Ob} {j : Nat} (hj : j < l.length) : inTo l o (j + 1) ↔ inTo l o j ∨ l[j] = o := by
  constructor
  · rintro ⟨k, hk, h, e⟩
    by_cases q : k = j
    · subst q; exact Or.inr e
    · exact Or.inl ⟨k, hk, by omega, e⟩
  · rintro (⟨k, hk, h, e⟩ | e)
    · exact ⟨k, hk, by omega, e⟩
    · exact ⟨j, hj, by omega, e⟩
def twTo (kp : List Ob) (o : Ob) (j : Nat) : Prop := ∃ k, ∃ hk : k < kp.length, k < j ∧ kyOf kp[k] = kyOf o ∧ kp[k].sg ≤ o.sg
theorem twTo_zero (l : List Ob) (o : Ob) : ¬ twTo l o 0 := fun ⟨_, _, h, _⟩ => by omega
theorem twTo_succ {l : List Ob} {o : Ob} {j : Nat} (hj : j < l.length) : twTo l o (j + 1) ↔ twTo l o j ∨ (kyOf l[j] = kyOf o ∧ l[j].sg ≤ o.sg) := by
  constructor
  · rintro ⟨k, hk, h, e⟩
    by_cases q : k = j
    · subst q; exact Or.inr e
    · exact Or.inl ⟨k, hk, by omega, e⟩
  · rintro (⟨k, hk, h, e⟩ | e)
    · exact ⟨k, hk, by omega, e⟩
    · exact ⟨j, hj, by omega, e⟩
noncomputable instance (l : List Ob) (o : Ob) (j : Nat) : Decidable (inTo l o j) := Classical.propDecidable _
noncomputable instance (l : List Ob) (o : Ob) (j : Nat) : Decidable (twTo l o j) := Classical.propDecidable _
set_option maxRecDepth 100000 in
set_option maxHeartbeats 40000000 in
theorem psvkept_any (xl : Option Addr) (cap : Nat) (l : List Ob) (w : World) (hT : Gt.Tab w) (hE : ES w) (hM : MX w) (hl : SlA w xl l) (hb : OBs l) (zl : l.length ≤ 9223372036854775807) :
    Calls Tryz.prog 7 #[.slice xl l.length cap] w fun e w' => e = .returned (.bool true) ∧ Below w.heap.size w w' := by
  have HE := Lib.hid (fun w' (h : Below w.heap.size w w') => hE.below h)
  have HL := Lib.hid (fun w' (h : Below w.heap.size w w') => hl.below h)
  have BD := Lib.hid hb
  have AL := Lib.hid (alive27_any w hT hE hM)
  have GR := Lib.hid (fun w' (h : Below w.heap.size w w') => great_sl xl cap l w' (hl.below h) zl hb)
  have RA := Lib.hid (fun (h : l.length ≤ 12) w' (g : Below w.heap.size w w') => rall_any xl cap l w' (hl.below g) (by omega) hb)
  have M1 := Lib.hid (fun (h : l.length ≤ 12) w' (g : Below w.heap.size w w') => merge_any xl cap l w' (hE.below g) (hl.below g) (by omega) hb)
  obtain ⟨n, hnl⟩ : ∃ n, l.length = n := ⟨_, rfl⟩
  rw [hnl] at zl GR RA M1 ⊢
  have NL := Lib.hid hnl
  clear hT hE hM hl hb hnl
  go_enter Tryz.func7, Tryz.ntmps7
  go_wp2_with fail
  refine AL.out.mono ?_
  rintro e w1 ⟨rfl, hb1⟩
  have B1 := Lib.hid hb1
  clear hb1 AL
  go_wp2_with fail
  refine (GR.out _ B1.out).mono ?_
  rintro e w2 ⟨rfl, rfl⟩
  clear GR
  by_cases g8 : greatB l 12 = true
  · rw [g8]
    clear RA M1
    go_wp2_with fail
    go_ret
    exact ⟨rfl, B1.out⟩
  rw [Bool.eq_false_iff.2 g8]
  clear g8
  by_cases m8 : n ≤ 12
  case neg =>
    have i2 : (12 : Int) < (n : Int) := by omega
    clear RA M1
    go_wp2_with fail
    go_ret
    exact ⟨rfl, B1.out⟩
  have i2 : ¬ (12 : Int) < (n : Int) := by omega
  replace RA := Lib.hid (RA.out m8)
  replace M1 := Lib.hid (M1.out m8)
  go_wp2_with fail
  refine (RA.out _ B1.out).mono ?_
  rintro e w2 ⟨rfl, hb2⟩
  have B2 := Lib.hid (below_then B1.out hb2)
  clear RA hb2 B1
  by_cases a0 : allC l = 0
  case neg =>
    have n0 : (allC l != 0) = true := bne_iff_ne.2 a0
    obtain ⟨K, hK⟩ : ∃ K, allC l = K := ⟨_, rfl⟩
    rw [hK] at n0 a0 ⊢
    clear M1 hK
    go_wp2_with fail
    go_ret
    exact ⟨rfl, B2.out⟩
  rw [a0]
  have A0 := Lib.hid a0
  clear a0
  go_wp2_with fail
  refine (M1.out _ B2.out).mono ?_
  rintro e w3 ⟨v1, d1, kp, dp, c, rfl, hP, hv, hd, hb3⟩
  obtain rfl : c = 0 := by
    rcases hP with ⟨_, _, _, _, h⟩ | ⟨h, _⟩
    · exact h
    · exact absurd A0.out h
  have KI := Lib.hid (kept_is A0.out hP)
  obtain ⟨xk, ck, rfl, hxk⟩ := hv
  obtain ⟨xd, cd, rfl, hxd⟩ := hd
  have B3 := Lib.hid (below_then B2.out hb3)
  have X3 := Lib.hid (show KX w xl xk xd l kp dp w3 from ⟨B3.out, HL.out _ B3.out, hxk, hxd⟩)
  have KB : Hid (OBs kp) := Lib.hid (fun i hi => by
    obtain ⟨k, hk, e⟩ := KI.out.mem i hi
    rw [← e]
    exact BD.out k hk)
  have ZK : kp.length ≤ 12 := by have := KI.out.len; have := NL.out; omega
  have M2 := Lib.hid (fun w' (g : KX w xl xk xd l kp dp w') => merge_any xk ck kp w' (HE.out _ g.below) g.sk (by omega) KB.out)
  have LN := KI.out.len
  rw [NL.out] at LN
  have SM := Lib.hid (fun y d w' (g : KX w xl xk xd l kp dp w') (h : SlA w' y kp) => same_any xk y ck d kp w' g.sk h (by omega))
  obtain ⟨nk, hnk⟩ : ∃ n, kp.length = n := ⟨_, rfl⟩
  obtain ⟨nd, hnd⟩ : ∃ n, dp.length = n := ⟨_, rfl⟩
  rw [hnk] at M2 SM LN ZK ⊢
  rw [hnd] at LN ⊢
  have NK := Lib.hid hnk
  have ND := Lib.hid hnd
  clear hP hxk hxd hb3 M1 B2 B3 hnk hnd
  go_wp2_with fail
  refine (M2.out _ X3.out).mono ?_
  rintro e w4 ⟨v2, d2, m2, D2, c2, rfl, hP, hv, hd, hb4⟩
  obtain ⟨rfl, rfl, rfl⟩ := KI.out.again.uniq hP
  obtain ⟨x2, c2, rfl, hx2⟩ := hv
  obtain ⟨x3, c3, rfl, _⟩ := hd
  have X4 := Lib.hid (X3.out.call hb4)
  have SM2 := Lib.hid (SM.out x2 c2 w4 X4.out hx2)
  rw [NK.out]
  have L0 : ([] : List Nat).length = 0 := rfl
  rw [L0]
  clear hP hx2 hb4 X3 M2 SM L0
  have LNi : (nk : Int) + (nd : Int) = (n : Int) := by omega
  go_wp2_with fail
  refine SM2.out.mono ?_
  rintro e w5 ⟨rfl, hb5⟩
  have X5 := Lib.hid (X4.out.call hb5)
  clear hb5 X4 SM2
  go_wp2_with fail
  go_loopw [10] (fun iv wr => ∃ i : Nat, iv = .int .i64 i ∧ 1 ≤ i ∧ (i ≤ nk ∨ i = 1) ∧ Hid (KX w xl xk xd l kp dp wr)) (fun iv _ => nk - (intOf iv).toNat)
  case atStart => exact ⟨1, rfl, Nat.le_refl _, Or.inr rfl, X5⟩
  case round =>
    obtain ⟨i, rfl, i1, _, X0⟩ := hrel
    clear X5
    by_cases hlt : i < nk
    · have i3 : (i : Int) < (nk : Int) := by omega
      obtain ⟨j, hj⟩ : ∃ j, i = j + 1 := ⟨i - 1, by omega⟩
      have hij : (i : Int) - 1 = (j : Int) := by omega
      have j5 : (j : Int) < (nk : Int) := by omega
      have j6 : (0 : Int) ≤ (j : Int) := by omega
      have z6 : (nk : Int) ≤ 12 := by omega
      have j7 : IntKind.i64.wrap (j : Int) = (j : Int) := Go.IntWalk.i64_in _ (by omega)
      have j8 : j < nk := by omega
      have hki : i < kp.length := by rw [NK.out]; exact hlt
      have hkj : j < kp.length := by omega
      have UP : cmpO (kp[j]'hkj) (kp[i]'hki) < 0 := by
        subst hj
        exact KI.out.up j hki
      obtain ⟨b, off, hxk, lt, row⟩ := X0.out.sk.get hki
      have bp := KB.out j hkj
      have bq := KB.out i hki
      have X := Lib.hid ((show KR w xl xk xd l kp dp b (off + j * 8) (kp[j]'hkj) b (off + i * 8) (kp[i]'hki) wr from ⟨row j hkj, row i hki, lt, lt, X0.out⟩).call (Below.refl _ _).drew)
      have CM := Lib.hid (fun w' => rcompare_any (kp[j]'hkj) (kp[i]'hki) w' ⟨bp.b0, bp.b1⟩ ⟨bq.b0, bq.b1⟩)
      clear row lt bp bq X0
      generalize kp[j]'hkj = p at *
      generalize kp[i]'hki = q at *
      obtain ⟨C, hC⟩ : ∃ C, cmpO p q = C := ⟨_, rfl⟩
      rw [hC] at UP CM
      have C0 : ¬ (0 : Int) ≤ C := by omega
      subst hxk
      clear hC hj hki hkj
      go_upto_region 11 with fail
      refine wp_region_held_drew (S := fun wx => KR w xl (some ⟨b, off, none⟩) xd l kp dp b (off + j * 8) p b (off + i * 8) q wx) (by kernel_rfl) X.out (fun hHeld => ?_)
      refine wpAnyH_take (i := 0) (oi := ?oi0x1) (v := ?v0x1) ?hi0x1 (by kernel_rfl) (by kernel_rfl) (by kernel_rfl) ?hq0x1 ?hy0x1 hHeld ?rest0x1
      case hi0x1 => ((try simp only [List.getElem?_toArray, List.getElem?_cons_succ, List.getElem?_cons_zero]); (try rfl))
      case hq0x1 => exact fun _ _ _ h => h
      case hy0x1 => exact Or.inl ⟨by rfl, by intro w hSw; clear hSw; go_simp; try with_reducible rfl⟩
      try simp only [Act.put, List.setIfInBounds_toArray, List.set_cons_zero, List.set_cons_succ]
      refine wpAnyH_take (i := 1) (oi := ?oi1x2) (v := ?v1x2) ?hi1x2 (by kernel_rfl) (by kernel_rfl) (by kernel_rfl) ?hq1x2 ?hy1x2 hHeld ?rest1x2
      case hi1x2 => ((try simp only [List.getElem?_toArray, List.getElem?_cons_succ, List.getElem?_cons_zero]); (try rfl))
      case hq1x2 => exact fun _ _ _ h => h
      case hy1x2 => exact Or.inl ⟨by rfl, by intro w hSw; clear hSw; go_simp; try with_reducible rfl⟩
      try simp only [Act.put, List.setIfInBounds_toArray, List.set_cons_zero, List.set_cons_succ]
      refine wpAnyH_take (i := 2) (oi := ?oi2x3) (v := ?v2x3) ?hi2x3 (by kernel_rfl) (by kernel_rfl) (by kernel_rfl) ?hq2x3 ?hy2x3 hHeld ?rest2x3
      case hi2x3 => ((try simp only [List.getElem?_toArray, List.getElem?_cons_succ, List.getElem?_cons_zero]); (try rfl))
      case hq2x3 => exact fun _ _ _ h => h
      case hy2x3 => exact Or.inl ⟨by rfl, by intro w hSw; clear hSw; go_simp; try with_reducible rfl⟩
      try simp only [Act.put, List.setIfInBounds_toArray, List.set_cons_zero, List.set_cons_succ]
      refine wpAnyH_take (i := 3) (oi := ?oi3x4) (v := ?v3x4) ?hi3x4 (by kernel_rfl) (by kernel_rfl) (by kernel_rfl) ?hq3x4 ?hy3x4 hHeld ?rest3x4
      case hi3x4 => ((try simp only [List.getElem?_toArray, List.getElem?_cons_succ, List.getElem?_cons_zero]); (try rfl))
      case hq3x4 => exact fun _ _ _ h => h
      case hy3x4 => exact Or.inl ⟨by rfl, by intro w hSw; clear hSw; go_simp; try with_reducible rfl⟩
      try simp only [Act.put, List.setIfInBounds_toArray, List.set_cons_zero, List.set_cons_succ]
      refine wpAnyH_take (i := 4) (oi := ?oi4x5) (v := ?v4x5) ?hi4x5 (by kernel_rfl) (by kernel_rfl) (by kernel_rfl) ?hq4x5 ?hy4x5 hHeld ?rest4x5
      case hi4x5 => ((try simp only [List.getElem?_toArray, List.getElem?_cons_succ, List.getElem?_cons_zero]); (try rfl))
      case hq4x5 => exact fun _ _ _ h => h
      case hy4x5 =>
        refine' yieldsIf_load_mid ?_ 33 (.tmp 84) ?_ b (off + j * 8) ?_ (obsC p) _ ?_ Tryz.underlying33 ?_ info8
        · rfl
        · rfl
        · rfl
        · exact fun _ h => KR.r1 h
        · rfl
      try simp only [Act.put, List.setIfInBounds_toArray, List.set_cons_zero, List.set_cons_succ]
      refine wpAnyH_take (i := 5) (oi := ?oi5x6) (v := ?v5x6) ?hi5x6 (by kernel_rfl) (by kernel_rfl) (by kernel_rfl) ?hq5x6 ?hy5x6 hHeld ?rest5x6
      case hi5x6 => ((try simp only [List.getElem?_toArray, List.getElem?_cons_succ, List.getElem?_cons_zero]); (try rfl))
      case hq5x6 => exact fun _ _ _ h => h
      case hy5x6 => exact Or.inl ⟨by rfl, by intro w hSw; clear hSw; go_simp; try with_reducible rfl⟩
      try simp only [Act.put, List.setIfInBounds_toArray, List.set_cons_zero, List.set_cons_succ]
      refine wpAnyH_take (i := 6) (oi := ?oi6x7) (v := ?v6x7) ?hi6x7 (by kernel_rfl) (by kernel_rfl) (by kernel_rfl) ?hq6x7 ?hy6x7 hHeld ?rest6x7
      case hi6x7 => ((try simp only [List.getElem?_toArray, List.getElem?_cons_succ, List.getElem?_cons_zero]); (try rfl))
      case hq6x7 => exact fun _ _ _ h => h
      case hy6x7 => exact Or.inl ⟨by rfl, by intro w hSw; clear hSw; go_simp; try with_reducible rfl⟩
      try simp only [Act.put, List.setIfInBounds_toArray, List.set_cons_zero, List.set_cons_succ]
      refine wpAnyH_take (i := 7) (oi := ?oi7x8) (v := ?v7x8) ?hi7x8 (by kernel_rfl) (by kernel_rfl) (by kernel_rfl) ?hq7x8 ?hy7x8 hHeld ?rest7x8
      case hi7x8 => ((try simp only [List.getElem?_toArray, List.getElem?_cons_succ, List.getElem?_cons_zero]); (try rfl))
      case hq7x8 => exact fun _ _ _ h => h
      case hy7x8 => exact Or.inl ⟨by rfl, by intro w hSw; clear hSw; go_simp; try with_reducible rfl⟩
      try simp only [Act.put, List.setIfInBounds_toArray, List.set_cons_zero, List.set_cons_succ]
      refine wpAnyH_take (i := 8) (oi := ?oi8x9) (v := ?v8x9) ?hi8x9 (by kernel_rfl) (by kernel_rfl) (by kernel_rfl) ?hq8x9 ?hy8x9 hHeld ?rest8x9
      case hi8x9 => ((try simp only [List.getElem?_toArray, List.getElem?_cons_succ, List.getElem?_cons_zero]); (try rfl))
      case hq8x9 => exact fun _ _ _ h => h
      case hy8x9 =>
        refine' yieldsIf_load_mid ?_ 33 (.tmp 88) ?_ b (off + i * 8) ?_ (obsC q) _ ?_ Tryz.underlying33 ?_ info8
        · rfl
        · rfl
        · rfl
        · exact fun _ h => KR.r2 h
        · rfl
      try simp only [Act.put, List.setIfInBounds_toArray, List.set_cons_zero, List.set_cons_succ]
      refine wpAnyH_ready (rs := [9]) (by kernel_rfl) (by simp) ?_
      refine AllReadyH.cons rfl (fun K' hK => ?_) AllReadyH.nil
      clear hHeld
      go_simp
      refine (CM.out _).mono ?_
      rintro e wx ⟨rfl, hb⟩
      replace X := Lib.hid (X.out.call hb)
      clear hb CM
      refine hK.out _ _ X.out (fun hHeld => ?_)
      clear hK
      try simp only [Act.put, List.setIfInBounds_toArray, List.set_cons_zero, List.set_cons_succ]
      refine wpAnyH_take (i := 10) (oi := ?oi10x10) (v := ?v10x10) ?hi10x10 (by kernel_rfl) (by kernel_rfl) (by kernel_rfl) ?hq10x10 ?hy10x10 hHeld ?rest10x10
      case hi10x10 => ((try simp only [List.getElem?_toArray, List.getElem?_cons_succ, List.getElem?_cons_zero]); (try rfl))
      case hq10x10 => exact fun _ _ _ h => h
      case hy10x10 => exact Or.inl ⟨by rfl, by intro w hSw; clear hSw; go_simp; try with_reducible rfl⟩
      try simp only [Act.put, List.setIfInBounds_toArray, List.set_cons_zero, List.set_cons_succ]
      refine wpAnyH_done (by kernel_rfl) ?_ _
      clear hHeld
      have Y := Lib.hid X.out.kx
      clear X
      go_wp2_with fail
      go_roundw
      case rel => exact ⟨i + 1, by go_num, by omega, by omega, Y⟩
      case measure => simp [intOf] <;> omega
    have i3 : ¬ (i : Int) < (nk : Int) := by omega
    clear i1
    go_wp2_with fail
    obtain ⟨WO, hWO⟩ : ∃ W, W = wr := ⟨_, rfl⟩
    subst hWO
    go_loopw [11] (fun iv wr => ∃ i : Nat, i ≤ nk ∧ iv = .int .i64 i ∧ Hid (KX w xl xk xd l kp dp wr)) (fun iv _ => nk - (intOf iv).toNat)
    case atStart => exact ⟨0, Nat.zero_le _, rfl, X0⟩
    case round =>
      obtain ⟨i, hi, rfl, X2⟩ := hrel
      clear X0 i3
      by_cases hlt : i < nk
      · have i4 : (i : Int) < (nk : Int) := by omega
        have hki : i < kp.length := by rw [NK.out]; exact hlt
        have AP := Lib.hid (fun k (h : k < i) => KI.out.apart i k hki h)
        have MM := Lib.hid (KI.out.mem i hki)
        obtain ⟨o, ho⟩ : ∃ o, kp[i]'hki = o := ⟨_, rfl⟩
        rw [ho] at MM AP
        have HO := Lib.hid ho
        clear ho
        have Z0 : decide (inTo l o 0) = false := decide_eq_false (inTo_zero l o)
        have FN : Hid (decide (inTo l o n) = true) := Lib.hid (decide_eq_true (by
          obtain ⟨k, hk, e⟩ := MM.out
          exact ⟨k, hk, by rw [← NL.out]; exact hk, e⟩))
        go_wp2_with fail
        obtain ⟨WO, hWO⟩ : ∃ W, W = wr := ⟨_, rfl⟩
        subst hWO
        go_loopw [12, 13] (fun bv jv wr => ∃ j : Nat, j ≤ n ∧ jv = .int .i64 j ∧ bv = .bool (decide (inTo l o j)) ∧ Hid (KX w xl xk xd l kp dp wr)) (fun _ jv _ => n - (intOf jv).toNat)
        case atStart => exact ⟨0, Nat.zero_le _, rfl, by rw [Z0], X2⟩
        case round =>
          obtain ⟨j, hj, rfl, rfl, X3⟩ := hrel
          clear X2 Z0
          by_cases hlt2 : j < n
          · have j4 : (j : Int) < (n : Int) := by omega
            have hkj : j < l.length := by rw [NL.out]; exact hlt2
            have IS := inTo_succ (o := o) hkj
            obtain ⟨b1, off1, hxl, lt1, row1⟩ := X3.out.sl.get hkj
            obtain ⟨b2, off2, hxk, lt2, row2⟩ := X3.out.sk.get hki
            obtain ⟨p, hp⟩ : ∃ p, l[j]'hkj = p := ⟨_, rfl⟩
            have X := Lib.hid ((show KR w xl xk xd l kp dp b1 (off1 + j * 8) p b2 (off2 + i * 8) o wr from ⟨by rw [← hp]; exact row1 j hkj, by rw [← HO.out]; exact row2 i hki, lt1, lt2, X3.out⟩).call (Below.refl _ _).drew)
            rw [hp] at IS
            subst hxl hxk
            clear row1 row2 lt1 lt2 hp X3 hkj
            by_cases hD : inTo l o j
            · have D2 : decide (inTo l o (j + 1)) = true := decide_eq_true (IS.2 (Or.inl hD))
              have D1 : decide (inTo l o j) = true := decide_eq_true hD
              obtain ⟨DJ, hDJ⟩ : ∃ D, decide (inTo l o j) = D := ⟨_, rfl⟩
              rw [hDJ] at D1 ⊢
              subst D1
              clear hDJ hD IS
              go_upto_region 20 with fail
              refine wp_region_held_drew (S := fun wx => KR w (some ⟨b1, off1, none⟩) (some ⟨b2, off2, none⟩) xd l kp dp b1 (off1 + j * 8) p b2 (off2 + i * 8) o wx) (by kernel_rfl) X.out (fun hHeld => ?_)
              refine wpAnyH_take (i := 0) (oi := ?oi0x11) (v := ?v0x11) ?hi0x11 (by kernel_rfl) (by kernel_rfl) (by kernel_rfl) ?hq0x11 ?hy0x11 hHeld ?rest0x11
              case hi0x11 => ((try simp only [List.getElem?_toArray, List.getElem?_cons_succ, List.getElem?_cons_zero]); (try rfl))
              case hq0x11 => exact fun _ _ _ h => h
              case hy0x11 => exact Or.inl ⟨by rfl, by intro w hSw; clear hSw; go_simp; try with_reducible rfl⟩
              try simp only [Act.put, List.setIfInBounds_toArray, List.set_cons_zero, List.set_cons_succ]
              refine wpAnyH_take (i := 1) (oi := ?oi1x12) (v := ?v1x12) ?hi1x12 (by kernel_rfl) (by kernel_rfl) (by kernel_rfl) ?hq1x12 ?hy1x12 hHeld ?rest1x12
              case hi1x12 => ((try simp only [List.getElem?_toArray, List.getElem?_cons_succ, List.getElem?_cons_zero]); (try rfl))
              case hq1x12 => exact fun _ _ _ h => h
              case hy1x12 => exact Or.inl ⟨by rfl, by intro w hSw; clear hSw; go_simp; try with_reducible rfl⟩
              try simp only [Act.put, List.setIfInBounds_toArray, List.set_cons_zero, List.set_cons_succ]
              refine wpAnyH_take (i := 2) (oi := ?oi2x13) (v := undef) ?hi2x13 (by kernel_rfl) (by kernel_rfl) (by kernel_rfl) ?hq2x13 ?hy2x13 hHeld ?rest2x13
              case hi2x13 => ((try simp only [List.getElem?_toArray, List.getElem?_cons_succ, List.getElem?_cons_zero]); (try rfl))
              case hq2x13 => exact fun _ _ _ h => h
              case hy2x13 => exact Or.inr ⟨by rfl, rfl⟩
              try simp only [Act.put, List.setIfInBounds_toArray, List.set_cons_zero, List.set_cons_succ]
              refine wpAnyH_take (i := 3) (oi := ?oi3x14) (v := undef) ?hi3x14 (by kernel_rfl) (by kernel_rfl) (by kernel_rfl) ?hq3x14 ?hy3x14 hHeld ?rest3x14
              case hi3x14 => ((try simp only [List.getElem?_toArray, List.getElem?_cons_succ, List.getElem?_cons_zero]); (try rfl))
              case hq3x14 => exact fun _ _ _ h => h
              case hy3x14 => exact Or.inr ⟨by rfl, rfl⟩
              try simp only [Act.put, List.setIfInBounds_toArray, List.set_cons_zero, List.set_cons_succ]
              refine wpAnyH_take (i := 4) (oi := ?oi4x15) (v := undef) ?hi4x15 (by kernel_rfl) (by kernel_rfl) (by kernel_rfl) ?hq4x15 ?hy4x15 hHeld ?rest4x15
              case hi4x15 => ((try simp only [List.getElem?_toArray, List.getElem?_cons_succ, List.getElem?_cons_zero]); (try rfl))
              case hq4x15 => exact fun _ _ _ h => h
              case hy4x15 => exact Or.inr ⟨by rfl, rfl⟩
              try simp only [Act.put, List.setIfInBounds_toArray, List.set_cons_zero, List.set_cons_succ]
              refine wpAnyH_take (i := 5) (oi := ?oi5x16) (v := undef) ?hi5x16 (by kernel_rfl) (by kernel_rfl) (by kernel_rfl) ?hq5x16 ?hy5x16 hHeld ?rest5x16
              case hi5x16 => ((try simp only [List.getElem?_toArray, List.getElem?_cons_succ, List.getElem?_cons_zero]); (try rfl))
              case hq5x16 => exact fun _ _ _ h => h
              case hy5x16 => exact Or.inr ⟨by rfl, rfl⟩
              try simp only [Act.put, List.setIfInBounds_toArray, List.set_cons_zero, List.set_cons_succ]
              refine wpAnyH_take (i := 6) (oi := ?oi6x17) (v := undef) ?hi6x17 (by kernel_rfl) (by kernel_rfl) (by kernel_rfl) ?hq6x17 ?hy6x17 hHeld ?rest6x17
              case hi6x17 => ((try simp only [List.getElem?_toArray, List.getElem?_cons_succ, List.getElem?_cons_zero]); (try rfl))
              case hq6x17 => exact fun _ _ _ h => h
              case hy6x17 => exact Or.inr ⟨by rfl, rfl⟩
              try simp only [Act.put, List.setIfInBounds_toArray, List.set_cons_zero, List.set_cons_succ]
              refine wpAnyH_take (i := 7) (oi := ?oi7x18) (v := undef) ?hi7x18 (by kernel_rfl) (by kernel_rfl) (by kernel_rfl) ?hq7x18 ?hy7x18 hHeld ?rest7x18
              case hi7x18 => ((try simp only [List.getElem?_toArray, List.getElem?_cons_succ, List.getElem?_cons_zero]); (try rfl))
              case hq7x18 => exact fun _ _ _ h => h
              case hy7x18 => exact Or.inr ⟨by rfl, rfl⟩
              try simp only [Act.put, List.setIfInBounds_toArray, List.set_cons_zero, List.set_cons_succ]
              refine wpAnyH_take (i := 8) (oi := ?oi8x19) (v := undef) ?hi8x19 (by kernel_rfl) (by kernel_rfl) (by kernel_rfl) ?hq8x19 ?hy8x19 hHeld ?rest8x19
              case hi8x19 => ((try simp only [List.getElem?_toArray, List.getElem?_cons_succ, List.getElem?_cons_zero]); (try rfl))
              case hq8x19 => exact fun _ _ _ h => h
              case hy8x19 => exact Or.inr ⟨by rfl, rfl⟩
              try simp only [Act.put, List.setIfInBounds_toArray, List.set_cons_zero, List.set_cons_succ]
              refine wpAnyH_take (i := 9) (oi := ?oi9x20) (v := undef) ?hi9x20 (by kernel_rfl) (by kernel_rfl) (by kernel_rfl) ?hq9x20 ?hy9x20 hHeld ?rest9x20
              case hi9x20 => ((try simp only [List.getElem?_toArray, List.getElem?_cons_succ, List.getElem?_cons_zero]); (try rfl))
              case hq9x20 => exact fun _ _ _ h => h
              case hy9x20 => exact Or.inr ⟨by rfl, rfl⟩
              try simp only [Act.put, List.setIfInBounds_toArray, List.set_cons_zero, List.set_cons_succ]
              refine wpAnyH_take (i := 10) (oi := ?oi10x21) (v := undef) ?hi10x21 (by kernel_rfl) (by kernel_rfl) (by kernel_rfl) ?hq10x21 ?hy10x21 hHeld ?rest10x21
              case hi10x21 => ((try simp only [List.getElem?_toArray, List.getElem?_cons_succ, List.getElem?_cons_zero]); (try rfl))
              case hq10x21 => exact fun _ _ _ h => h
              case hy10x21 => exact Or.inr ⟨by rfl, rfl⟩
              try simp only [Act.put, List.setIfInBounds_toArray, List.set_cons_zero, List.set_cons_succ]
              refine wpAnyH_take (i := 11) (oi := ?oi11x22) (v := ?v11x22) ?hi11x22 (by kernel_rfl) (by kernel_rfl) (by kernel_rfl) ?hq11x22 ?hy11x22 hHeld ?rest11x22
              case hi11x22 => ((try simp only [List.getElem?_toArray, List.getElem?_cons_succ, List.getElem?_cons_zero]); (try rfl))
              case hq11x22 => exact fun _ _ _ h => h
              case hy11x22 => exact Or.inl ⟨by rfl, by intro w hSw; clear hSw; go_simp; try with_reducible rfl⟩
              try simp only [Act.put, List.setIfInBounds_toArray, List.set_cons_zero, List.set_cons_succ]
              refine wpAnyH_take (i := 12) (oi := ?oi12x23) (v := ?v12x23) ?hi12x23 (by kernel_rfl) (by kernel_rfl) (by kernel_rfl) ?hq12x23 ?hy12x23 hHeld ?rest12x23
              case hi12x23 => ((try simp only [List.getElem?_toArray, List.getElem?_cons_succ, List.getElem?_cons_zero]); (try rfl))
              case hq12x23 => exact fun _ _ _ h => h
              case hy12x23 => exact Or.inl ⟨by rfl, by intro w hSw; clear hSw; go_simp; try with_reducible rfl⟩
              try simp only [Act.put, List.setIfInBounds_toArray, List.set_cons_zero, List.set_cons_succ]
              refine wpAnyH_done (by kernel_rfl) ?_ _
              clear hHeld
              have Y := Lib.hid X.out.kx
              clear X
              go_wp2_with fail
              go_roundw
              case rel => exact ⟨j + 1, by omega, by go_num, by rw [D2], Y⟩
              case measure => simp [intOf] <;> omega
            · have EQ : ∀ w', (Go.Op.equalIn 10000 33 (.agg #[.string p.name, .string p.site, .int .i64 p.t, .int .i64 p.ra, .int .i64 p.dec, .int .i64 p.sg, .int .i64 p.mag, .int .u8 p.band]) (.agg #[.string o.name, .string o.site, .int .i64 o.t, .int .i64 o.ra, .int .i64 o.dec, .int .i64 o.sg, .int .i64 o.mag, .int .u8 o.band])).run Tryz.prog w' = .ok (decide (p = o)) w' := fun w' => obs_eql p o w'
              have D2 : decide (p = o) = decide (inTo l o (j + 1)) := decide_eq_decide.2 ⟨fun h => IS.2 (Or.inr h), fun h => (IS.1 h).resolve_left hD⟩
              have D1 : decide (inTo l o j) = false := decide_eq_false hD
              obtain ⟨DJ, hDJ⟩ : ∃ D, decide (inTo l o j) = D := ⟨_, rfl⟩
              rw [hDJ] at D1 ⊢
              rw [D2] at EQ
              subst D1
              obtain ⟨DK, hDK⟩ : ∃ D, decide (inTo l o (j + 1)) = D := ⟨_, rfl⟩
              rw [hDK] at EQ
              have DD := Lib.hid hDK
              clear hDJ hD IS D2 hDK
              go_upto_region 20 with fail
              refine wp_region_held_drew (S := fun wx => KR w (some ⟨b1, off1, none⟩) (some ⟨b2, off2, none⟩) xd l kp dp b1 (off1 + j * 8) p b2 (off2 + i * 8) o wx) (by kernel_rfl) X.out (fun hHeld => ?_)
              refine wpAnyH_take (i := 0) (oi := ?oi0x24) (v := ?v0x24) ?hi0x24 (by kernel_rfl) (by kernel_rfl) (by kernel_rfl) ?hq0x24 ?hy0x24 hHeld ?rest0x24
              case hi0x24 => ((try simp only [List.getElem?_toArray, List.getElem?_cons_succ, List.getElem?_cons_zero]); (try rfl))
              case hq0x24 => exact fun _ _ _ h => h
              case hy0x24 => exact Or.inl ⟨by rfl, by intro w hSw; clear hSw; go_simp; try with_reducible rfl⟩
              try simp only [Act.put, List.setIfInBounds_toArray, List.set_cons_zero, List.set_cons_succ]
              refine wpAnyH_take (i := 1) (oi := ?oi1x25) (v := ?v1x25) ?hi1x25 (by kernel_rfl) (by kernel_rfl) (by kernel_rfl) ?hq1x25 ?hy1x25 hHeld ?rest1x25
              case hi1x25 => ((try simp only [List.getElem?_toArray, List.getElem?_cons_succ, List.getElem?_cons_zero]); (try rfl))
              case hq1x25 => exact fun _ _ _ h => h
              case hy1x25 => exact Or.inl ⟨by rfl, by intro w hSw; clear hSw; go_simp; try with_reducible rfl⟩
              try simp only [Act.put, List.setIfInBounds_toArray, List.set_cons_zero, List.set_cons_succ]
              refine wpAnyH_take (i := 2) (oi := ?oi2x26) (v := ?v2x26) ?hi2x26 (by kernel_rfl) (by kernel_rfl) (by kernel_rfl) ?hq2x26 ?hy2x26 hHeld ?rest2x26
              case hi2x26 => ((try simp only [List.getElem?_toArray, List.getElem?_cons_succ, List.getElem?_cons_zero]); (try rfl))
              case hq2x26 => exact fun _ _ _ h => h
              case hy2x26 => exact Or.inl ⟨by rfl, by intro w hSw; clear hSw; go_simp; try with_reducible rfl⟩
              try simp only [Act.put, List.setIfInBounds_toArray, List.set_cons_zero, List.set_cons_succ]
              refine wpAnyH_take (i := 3) (oi := ?oi3x27) (v := ?v3x27) ?hi3x27 (by kernel_rfl) (by kernel_rfl) (by kernel_rfl) ?hq3x27 ?hy3x27 hHeld ?rest3x27
              case hi3x27 => ((try simp only [List.getElem?_toArray, List.getElem?_cons_succ, List.getElem?_cons_zero]); (try rfl))
              case hq3x27 => exact fun _ _ _ h => h
              case hy3x27 => exact Or.inl ⟨by rfl, by intro w hSw; clear hSw; go_simp; try with_reducible rfl⟩
              try simp only [Act.put, List.setIfInBounds_toArray, List.set_cons_zero, List.set_cons_succ]
              refine wpAnyH_take (i := 4) (oi := ?oi4x28) (v := ?v4x28) ?hi4x28 (by kernel_rfl) (by kernel_rfl) (by kernel_rfl) ?hq4x28 ?hy4x28 hHeld ?rest4x28
              case hi4x28 => ((try simp only [List.getElem?_toArray, List.getElem?_cons_succ, List.getElem?_cons_zero]); (try rfl))
              case hq4x28 => exact fun _ _ _ h => h
              case hy4x28 => exact Or.inl ⟨by rfl, by intro w hSw; clear hSw; go_simp; try with_reducible rfl⟩
              try simp only [Act.put, List.setIfInBounds_toArray, List.set_cons_zero, List.set_cons_succ]
              refine wpAnyH_take (i := 5) (oi := ?oi5x29) (v := ?v5x29) ?hi5x29 (by kernel_rfl) (by kernel_rfl) (by kernel_rfl) ?hq5x29 ?hy5x29 hHeld ?rest5x29
              case hi5x29 => ((try simp only [List.getElem?_toArray, List.getElem?_cons_succ, List.getElem?_cons_zero]); (try rfl))
              case hq5x29 => exact fun _ _ _ h => h
              case hy5x29 =>
                refine' yieldsIf_load_mid ?_ 33 (.tmp 108) ?_ b1 (off1 + j * 8) ?_ (obsC p) _ ?_ Tryz.underlying33 ?_ info8
                · rfl
                · rfl
                · rfl
                · exact fun _ h => KR.r1 h
                · rfl
              try simp only [Act.put, List.setIfInBounds_toArray, List.set_cons_zero, List.set_cons_succ]
              refine wpAnyH_take (i := 6) (oi := ?oi6x30) (v := ?v6x30) ?hi6x30 (by kernel_rfl) (by kernel_rfl) (by kernel_rfl) ?hq6x30 ?hy6x30 hHeld ?rest6x30
              case hi6x30 => ((try simp only [List.getElem?_toArray, List.getElem?_cons_succ, List.getElem?_cons_zero]); (try rfl))
              case hq6x30 => exact fun _ _ _ h => h
              case hy6x30 => exact Or.inl ⟨by rfl, by intro w hSw; clear hSw; go_simp; try with_reducible rfl⟩
              try simp only [Act.put, List.setIfInBounds_toArray, List.set_cons_zero, List.set_cons_succ]
              refine wpAnyH_take (i := 7) (oi := ?oi7x31) (v := ?v7x31) ?hi7x31 (by kernel_rfl) (by kernel_rfl) (by kernel_rfl) ?hq7x31 ?hy7x31 hHeld ?rest7x31
              case hi7x31 => ((try simp only [List.getElem?_toArray, List.getElem?_cons_succ, List.getElem?_cons_zero]); (try rfl))
              case hq7x31 => exact fun _ _ _ h => h
              case hy7x31 => exact Or.inl ⟨by rfl, by intro w hSw; clear hSw; go_simp; try with_reducible rfl⟩
              try simp only [Act.put, List.setIfInBounds_toArray, List.set_cons_zero, List.set_cons_succ]
              refine wpAnyH_take (i := 8) (oi := ?oi8x32) (v := ?v8x32) ?hi8x32 (by kernel_rfl) (by kernel_rfl) (by kernel_rfl) ?hq8x32 ?hy8x32 hHeld ?rest8x32
              case hi8x32 => ((try simp only [List.getElem?_toArray, List.getElem?_cons_succ, List.getElem?_cons_zero]); (try rfl))
              case hq8x32 => exact fun _ _ _ h => h
              case hy8x32 => exact Or.inl ⟨by rfl, by intro w hSw; clear hSw; go_simp; try with_reducible rfl⟩
              try simp only [Act.put, List.setIfInBounds_toArray, List.set_cons_zero, List.set_cons_succ]
              refine wpAnyH_take (i := 9) (oi := ?oi9x33) (v := ?v9x33) ?hi9x33 (by kernel_rfl) (by kernel_rfl) (by kernel_rfl) ?hq9x33 ?hy9x33 hHeld ?rest9x33
              case hi9x33 => ((try simp only [List.getElem?_toArray, List.getElem?_cons_succ, List.getElem?_cons_zero]); (try rfl))
              case hq9x33 => exact fun _ _ _ h => h
              case hy9x33 =>
                refine' yieldsIf_load_mid ?_ 33 (.tmp 112) ?_ b2 (off2 + i * 8) ?_ (obsC o) _ ?_ Tryz.underlying33 ?_ info8
                · rfl
                · rfl
                · rfl
                · exact fun _ h => KR.r2 h
                · rfl
              try simp only [Act.put, List.setIfInBounds_toArray, List.set_cons_zero, List.set_cons_succ]
              refine wpAnyH_take (i := 10) (oi := ?oi10x34) (v := ?v10x34) ?hi10x34 (by kernel_rfl) (by kernel_rfl) (by kernel_rfl) ?hq10x34 ?hy10x34 hHeld ?rest10x34
              case hi10x34 => ((try simp only [List.getElem?_toArray, List.getElem?_cons_succ, List.getElem?_cons_zero]); (try rfl))
              case hq10x34 => exact fun _ _ _ h => h
              case hy10x34 => exact Or.inl ⟨by rfl, by intro w hSw; clear hSw; go_simp; try with_reducible rfl⟩
              try simp only [Act.put, List.setIfInBounds_toArray, List.set_cons_zero, List.set_cons_succ]
              refine wpAnyH_take (i := 11) (oi := ?oi11x35) (v := ?v11x35) ?hi11x35 (by kernel_rfl) (by kernel_rfl) (by kernel_rfl) ?hq11x35 ?hy11x35 hHeld ?rest11x35
              case hi11x35 => ((try simp only [List.getElem?_toArray, List.getElem?_cons_succ, List.getElem?_cons_zero]); (try rfl))
              case hq11x35 => exact fun _ _ _ h => h
              case hy11x35 => exact Or.inl ⟨by rfl, by intro w hSw; clear hSw; go_simp; try with_reducible rfl⟩
              try simp only [Act.put, List.setIfInBounds_toArray, List.set_cons_zero, List.set_cons_succ]
              refine wpAnyH_take (i := 12) (oi := ?oi12x36) (v := ?v12x36) ?hi12x36 (by kernel_rfl) (by kernel_rfl) (by kernel_rfl) ?hq12x36 ?hy12x36 hHeld ?rest12x36
              case hi12x36 => ((try simp only [List.getElem?_toArray, List.getElem?_cons_succ, List.getElem?_cons_zero]); (try rfl))
              case hq12x36 => exact fun _ _ _ h => h
              case hy12x36 => exact Or.inl ⟨by rfl, by intro w hSw; clear hSw; go_simp; try with_reducible rfl⟩
              try simp only [Act.put, List.setIfInBounds_toArray, List.set_cons_zero, List.set_cons_succ]
              refine wpAnyH_done (by kernel_rfl) ?_ _
              clear hHeld
              have Y := Lib.hid X.out.kx
              clear X
              go_wp2_with fail
              go_roundw
              case rel => exact ⟨j + 1, by omega, by go_num, by rw [DD.out], Y⟩
              case measure => simp [intOf] <;> omega
          · obtain rfl : j = n := by omega
            have j4 : ¬ (j : Int) < (j : Int) := by omega
            rw [FN.out]
            clear FN MM
            go_wp2_with fail
            obtain ⟨WO, hWO⟩ : ∃ W, W = wr := ⟨_, rfl⟩
            subst hWO
            go_loopw [12, 14] (fun bv jv wr => ∃ j : Nat, j ≤ i ∧ jv = .int .i64 j ∧ bv = .bool true ∧ Hid (KX w xl xk xd l kp dp wr)) (fun _ jv _ => i - (intOf jv).toNat)
            case atStart => exact ⟨0, Nat.zero_le _, rfl, rfl, X3⟩
            case round =>
              obtain ⟨k, hk, rfl, rfl, X5⟩ := hrel
              clear X3
              by_cases hlt3 : k < i
              · have k4 : (k : Int) < (i : Int) := by omega
                have hkk : k < kp.length := by omega
                have kn : k < nk := by have := NK.out; omega
                have kn' : (k : Int) < (nk : Int) := by omega
                have APk := AP.out k hlt3
                obtain ⟨b, off, hxk, lt, row⟩ := X5.out.sk.get hki
                have X := Lib.hid ((show KR w xl xk xd l kp dp b (off + i * 8) o b (off + k * 8) (kp[k]'hkk) wr from ⟨by rw [← HO.out]; exact row i hki, row k hkk, lt, lt, X5.out⟩).call (Below.refl _ _).drew)
                subst hxk
                obtain ⟨q, hq⟩ : ∃ q, kp[k]'hkk = q := ⟨_, rfl⟩
                rw [hq] at X APk
                have TW := Lib.hid (fun w' => twins_any o q w')
                rw [decide_eq_false APk] at TW
                clear row lt hq X5 hkk APk
                go_upto_region 24 with fail
                refine wp_region_held_drew (S := fun wx => KR w xl (some ⟨b, off, none⟩) xd l kp dp b (off + i * 8) o b (off + k * 8) q wx) (by kernel_rfl) X.out (fun hHeld => ?_)
                refine wpAnyH_take (i := 0) (oi := ?oi0x37) (v := ?v0x37) ?hi0x37 (by kernel_rfl) (by kernel_rfl) (by kernel_rfl) ?hq0x37 ?hy0x37 hHeld ?rest0x37
                case hi0x37 => ((try simp only [List.getElem?_toArray, List.getElem?_cons_succ, List.getElem?_cons_zero]); (try rfl))
                case hq0x37 => exact fun _ _ _ h => h
                case hy0x37 => exact Or.inl ⟨by rfl, by intro w hSw; clear hSw; go_simp; try with_reducible rfl⟩
                try simp only [Act.put, List.setIfInBounds_toArray, List.set_cons_zero, List.set_cons_succ]
                refine wpAnyH_take (i := 1) (oi := ?oi1x38) (v := ?v1x38) ?hi1x38 (by kernel_rfl) (by kernel_rfl) (by kernel_rfl) ?hq1x38 ?hy1x38 hHeld ?rest1x38
                case hi1x38 => ((try simp only [List.getElem?_toArray, List.getElem?_cons_succ, List.getElem?_cons_zero]); (try rfl))
                case hq1x38 => exact fun _ _ _ h => h
                case hy1x38 => exact Or.inl ⟨by rfl, by intro w hSw; clear hSw; go_simp; try with_reducible rfl⟩
                try simp only [Act.put, List.setIfInBounds_toArray, List.set_cons_zero, List.set_cons_succ]
                refine wpAnyH_take (i := 2) (oi := ?oi2x39) (v := ?v2x39) ?hi2x39 (by kernel_rfl) (by kernel_rfl) (by kernel_rfl) ?hq2x39 ?hy2x39 hHeld ?rest2x39
                case hi2x39 => ((try simp only [List.getElem?_toArray, List.getElem?_cons_succ, List.getElem?_cons_zero]); (try rfl))
                case hq2x39 => exact fun _ _ _ h => h
                case hy2x39 => exact Or.inl ⟨by rfl, by intro w hSw; clear hSw; go_simp; try with_reducible rfl⟩
                try simp only [Act.put, List.setIfInBounds_toArray, List.set_cons_zero, List.set_cons_succ]
                refine wpAnyH_take (i := 3) (oi := ?oi3x40) (v := ?v3x40) ?hi3x40 (by kernel_rfl) (by kernel_rfl) (by kernel_rfl) ?hq3x40 ?hy3x40 hHeld ?rest3x40
                case hi3x40 => ((try simp only [List.getElem?_toArray, List.getElem?_cons_succ, List.getElem?_cons_zero]); (try rfl))
                case hq3x40 => exact fun _ _ _ h => h
                case hy3x40 => exact Or.inl ⟨by rfl, by intro w hSw; clear hSw; go_simp; try with_reducible rfl⟩
                try simp only [Act.put, List.setIfInBounds_toArray, List.set_cons_zero, List.set_cons_succ]
                refine wpAnyH_take (i := 4) (oi := ?oi4x41) (v := ?v4x41) ?hi4x41 (by kernel_rfl) (by kernel_rfl) (by kernel_rfl) ?hq4x41 ?hy4x41 hHeld ?rest4x41
                case hi4x41 => ((try simp only [List.getElem?_toArray, List.getElem?_cons_succ, List.getElem?_cons_zero]); (try rfl))
                case hq4x41 => exact fun _ _ _ h => h
                case hy4x41 => exact Or.inl ⟨by rfl, by intro w hSw; clear hSw; go_simp; try with_reducible rfl⟩
                try simp only [Act.put, List.setIfInBounds_toArray, List.set_cons_zero, List.set_cons_succ]
                refine wpAnyH_take (i := 5) (oi := ?oi5x42) (v := ?v5x42) ?hi5x42 (by kernel_rfl) (by kernel_rfl) (by kernel_rfl) ?hq5x42 ?hy5x42 hHeld ?rest5x42
                case hi5x42 => ((try simp only [List.getElem?_toArray, List.getElem?_cons_succ, List.getElem?_cons_zero]); (try rfl))
                case hq5x42 => exact fun _ _ _ h => h
                case hy5x42 =>
                  refine' yieldsIf_load_mid ?_ 33 (.tmp 125) ?_ b (off + i * 8) ?_ (obsC o) _ ?_ Tryz.underlying33 ?_ info8
                  · rfl
                  · rfl
                  · rfl
                  · exact fun _ h => KR.r1 h
                  · rfl
                try simp only [Act.put, List.setIfInBounds_toArray, List.set_cons_zero, List.set_cons_succ]
                refine wpAnyH_take (i := 6) (oi := ?oi6x43) (v := ?v6x43) ?hi6x43 (by kernel_rfl) (by kernel_rfl) (by kernel_rfl) ?hq6x43 ?hy6x43 hHeld ?rest6x43
                case hi6x43 => ((try simp only [List.getElem?_toArray, List.getElem?_cons_succ, List.getElem?_cons_zero]); (try rfl))
                case hq6x43 => exact fun _ _ _ h => h
                case hy6x43 => exact Or.inl ⟨by rfl, by intro w hSw; clear hSw; go_simp; try with_reducible rfl⟩
                try simp only [Act.put, List.setIfInBounds_toArray, List.set_cons_zero, List.set_cons_succ]
                refine wpAnyH_take (i := 7) (oi := ?oi7x44) (v := ?v7x44) ?hi7x44 (by kernel_rfl) (by kernel_rfl) (by kernel_rfl) ?hq7x44 ?hy7x44 hHeld ?rest7x44
                case hi7x44 => ((try simp only [List.getElem?_toArray, List.getElem?_cons_succ, List.getElem?_cons_zero]); (try rfl))
                case hq7x44 => exact fun _ _ _ h => h
                case hy7x44 => exact Or.inl ⟨by rfl, by intro w hSw; clear hSw; go_simp; try with_reducible rfl⟩
                try simp only [Act.put, List.setIfInBounds_toArray, List.set_cons_zero, List.set_cons_succ]
                refine wpAnyH_take (i := 8) (oi := ?oi8x45) (v := ?v8x45) ?hi8x45 (by kernel_rfl) (by kernel_rfl) (by kernel_rfl) ?hq8x45 ?hy8x45 hHeld ?rest8x45
                case hi8x45 => ((try simp only [List.getElem?_toArray, List.getElem?_cons_succ, List.getElem?_cons_zero]); (try rfl))
                case hq8x45 => exact fun _ _ _ h => h
                case hy8x45 => exact Or.inl ⟨by rfl, by intro w hSw; clear hSw; go_simp; try with_reducible rfl⟩
                try simp only [Act.put, List.setIfInBounds_toArray, List.set_cons_zero, List.set_cons_succ]
                refine wpAnyH_take (i := 9) (oi := ?oi9x46) (v := ?v9x46) ?hi9x46 (by kernel_rfl) (by kernel_rfl) (by kernel_rfl) ?hq9x46 ?hy9x46 hHeld ?rest9x46
                case hi9x46 => ((try simp only [List.getElem?_toArray, List.getElem?_cons_succ, List.getElem?_cons_zero]); (try rfl))
                case hq9x46 => exact fun _ _ _ h => h
                case hy9x46 =>
                  refine' yieldsIf_load_mid ?_ 33 (.tmp 129) ?_ b (off + k * 8) ?_ (obsC q) _ ?_ Tryz.underlying33 ?_ info8
                  · rfl
                  · rfl
                  · rfl
                  · exact fun _ h => KR.r2 h
                  · rfl
                try simp only [Act.put, List.setIfInBounds_toArray, List.set_cons_zero, List.set_cons_succ]
                refine wpAnyH_ready (rs := [10]) (by kernel_rfl) (by simp) ?_
                refine AllReadyH.cons rfl (fun K' hK => ?_) AllReadyH.nil
                clear hHeld
                go_simp
                refine (TW.out _).mono ?_
                rintro e wx ⟨rfl, hb⟩
                replace X := Lib.hid (X.out.call hb)
                clear hb TW
                refine hK.out _ _ X.out (fun hHeld => ?_)
                clear hK
                try simp only [Act.put, List.setIfInBounds_toArray, List.set_cons_zero, List.set_cons_succ]
                refine wpAnyH_take (i := 11) (oi := ?oi11x47) (v := ?v11x47) ?hi11x47 (by kernel_rfl) (by kernel_rfl) (by kernel_rfl) ?hq11x47 ?hy11x47 hHeld ?rest11x47
                case hi11x47 => ((try simp only [List.getElem?_toArray, List.getElem?_cons_succ, List.getElem?_cons_zero]); (try rfl))
                case hq11x47 => exact fun _ _ _ h => h
                case hy11x47 => exact Or.inl ⟨by rfl, by intro w hSw; clear hSw; go_simp; try with_reducible rfl⟩
                try simp only [Act.put, List.setIfInBounds_toArray, List.set_cons_zero, List.set_cons_succ]
                refine wpAnyH_take (i := 12) (oi := ?oi12x48) (v := ?v12x48) ?hi12x48 (by kernel_rfl) (by kernel_rfl) (by kernel_rfl) ?hq12x48 ?hy12x48 hHeld ?rest12x48
                case hi12x48 => ((try simp only [List.getElem?_toArray, List.getElem?_cons_succ, List.getElem?_cons_zero]); (try rfl))
                case hq12x48 => exact fun _ _ _ h => h
                case hy12x48 => exact Or.inl ⟨by rfl, by intro w hSw; clear hSw; go_simp; try with_reducible rfl⟩
                try simp only [Act.put, List.setIfInBounds_toArray, List.set_cons_zero, List.set_cons_succ]
                refine wpAnyH_take (i := 13) (oi := ?oi13x49) (v := ?v13x49) ?hi13x49 (by kernel_rfl) (by kernel_rfl) (by kernel_rfl) ?hq13x49 ?hy13x49 hHeld ?rest13x49
                case hi13x49 => ((try simp only [List.getElem?_toArray, List.getElem?_cons_succ, List.getElem?_cons_zero]); (try rfl))
                case hq13x49 => exact fun _ _ _ h => h
                case hy13x49 => exact Or.inl ⟨by rfl, by intro w hSw; clear hSw; go_simp; try with_reducible rfl⟩
                try simp only [Act.put, List.setIfInBounds_toArray, List.set_cons_zero, List.set_cons_succ]
                refine wpAnyH_done (by kernel_rfl) ?_ _
                clear hHeld
                have Y := Lib.hid X.out.kx
                clear X
                go_wp2_with fail
                go_roundw
                case rel => exact ⟨k + 1, by omega, by go_num, by first | rfl | trivial, Y⟩
                case measure => simp [intOf] <;> omega
              · have k4 : ¬ (k : Int) < (i : Int) := by omega
                clear AP hk hlt3
                go_wp2_with fail
                go_roundw
                case rel => exact ⟨i + 1, by omega, by go_num, X5⟩
                case measure => simp [intOf] <;> omega
      · have i4 : ¬ (i : Int) < (nk : Int) := by omega
        go_wp2_with fail
        obtain ⟨WO, hWO⟩ : ∃ W, W = wr := ⟨_, rfl⟩
        subst hWO
        clear hi hlt
        go_loopw [15] (fun iv wr => ∃ i : Nat, i ≤ nd ∧ iv = .int .i64 i ∧ Hid (KX w xl xk xd l kp dp wr)) (fun iv _ => nd - (intOf iv).toNat)
        case atStart => exact ⟨0, Nat.zero_le _, rfl, X2⟩
        case round =>
          obtain ⟨i, hi, rfl, X4⟩ := hrel
          clear X2 i4
          by_cases hlt : i < nd
          · have i5 : (i : Int) < (nd : Int) := by omega
            have hdi : i < dp.length := by rw [ND.out]; exact hlt
            have dl := KI.out.drop i hdi
            have GW := Lib.hid (fun j (e : i = j + 1) (h : j < dp.length) => show (dp[j]'h) < (dp[i]'hdi) from by
              subst e
              exact KI.out.grow j hdi)
            have TT := Lib.hid (KI.out.twin i hdi dl)
            obtain ⟨d, hd⟩ : ∃ d, dp[i]'hdi = d := ⟨_, rfl⟩
            have HD := Lib.hid hd
            rw [hd] at dl GW
            have TW0 : ∃ k, ∃ hk : k < kp.length, kyOf kp[k] = kyOf (l[d]'dl) ∧ kp[k].sg ≤ (l[d]'dl).sg := by
              subst hd
              exact TT.out
            obtain ⟨o, ho⟩ : ∃ o, l[d]'dl = o := ⟨_, rfl⟩
            rw [ho] at TW0
            have HO := Lib.hid ho
            have FN : Hid (decide (twTo kp o nk) = true) := Lib.hid (decide_eq_true (by
              obtain ⟨k, hk, e⟩ := TW0
              exact ⟨k, hk, by rw [← NK.out]; exact hk, e⟩))
            have Z0 : decide (twTo kp o 0) = false := decide_eq_false (twTo_zero kp o)
            have i0 : (0 : Int) ≤ (i : Int) := by omega
            have d1 : (d : Int) < (n : Int) := by have := NL.out; omega
            have d0 : ¬ (d : Int) < 0 := by omega
            have d2 : ¬ (n : Int) ≤ (d : Int) := by omega
            obtain ⟨b3, off3, hxd, lt3, c3⟩ := X4.out.sd.get hdi
            rw [hd] at c3
            have GWN : i ≠ 0 → ∃ j dj, (i : Int) - 1 = ((j : Nat) : Int) ∧ wr.cell? ⟨b3, off3 + j, none⟩ = some (.int .i64 ((dj : Nat) : Int)) ∧ ¬ (d : Int) ≤ (dj : Int) ∧ j < nd := fun ne => by
              have hj : i - 1 < dp.length := by omega
              have g := GW.out (i - 1) (by omega) hj
              obtain ⟨b4, off4, e4, _, c4⟩ := X4.out.sd.get hj
              rw [hxd] at e4
              have e4 := Option.some.inj e4
              injection e4 with e1 e2 e3
              subst e1 e2
              exact ⟨i - 1, _, by omega, c4, by omega, by omega⟩
            have X5 := Lib.hid X4.out
            subst hxd
            clear hd ho TT TW0 GW X4 lt3
            by_cases z : i = 0
            · have z1 : decide ((0 : Int) < (i : Int)) = false := decide_eq_false (by omega)
              have z2 : decide (0 < i) = false := decide_eq_false (by omega)
              clear GWN z
              go_upto_region 30 with fail
              go_quiet (fail)
              have X6 := Lib.hid (X5.out.call (drewN_below2 (Below.refl _ _) nq))
              clear X5 c3
              go_wp2_with fail
              go_loopw [16, 17] (fun bv jv wr => ∃ j : Nat, j ≤ nk ∧ jv = .int .i64 j ∧ bv = .bool (decide (twTo kp o j)) ∧ Hid (KX w xl xk (some ⟨b3, off3, none⟩) l kp dp wr)) (fun _ jv _ => nk - (intOf jv).toNat)
              case atStart => exact ⟨0, Nat.zero_le _, rfl, by rw [Z0], X6⟩
              case round =>
                obtain ⟨j, hj, rfl, rfl, X3⟩ := hrel
                clear X6 Z0
                by_cases hlt2 : j < nk
                · have j4 : (j : Int) < (nk : Int) := by omega
                  have hkj : j < kp.length := by rw [NK.out]; exact hlt2
                  have IS := twTo_succ (o := o) hkj
                  obtain ⟨b1, off1, hxl, lt1, row1⟩ := X3.out.sl.get dl
                  obtain ⟨b2, off2, hxk, lt2, row2⟩ := X3.out.sk.get hkj
                  obtain ⟨b5, off5, e5, lt5, c5⟩ := X3.out.sd.get hdi
                  have e5 := Option.some.inj e5
                  injection e5 with e51 e52 e53
                  subst e51 e52
                  rw [HD.out] at c5
                  obtain ⟨p, hp⟩ : ∃ p, kp[j]'hkj = p := ⟨_, rfl⟩
                  have X := Lib.hid ((show KD w xl xk (some ⟨b3, off3, none⟩) l kp dp b1 (off1 + d * 8) o b2 (off2 + j * 8) p b3 (off3 + i) (.int .i64 d) wr from ⟨⟨by rw [← HO.out]; exact row1 d dl, by rw [← hp]; exact row2 j hkj, lt1, lt2, X3.out⟩, c5, lt5⟩).call (Below.refl _ _).drew)
                  rw [hp] at IS
                  subst hxl hxk
                  have TW := Lib.hid (fun w' => twins_any p o w')
                  clear row1 row2 lt1 lt2 hp X3 c5 lt5 e53
                  by_cases hD : twTo kp o j
                  · have D2 : decide (twTo kp o (j + 1)) = true := decide_eq_true (IS.2 (Or.inl hD))
                    have D1 : decide (twTo kp o j) = true := decide_eq_true hD
                    obtain ⟨DJ, hDJ⟩ : ∃ D, decide (twTo kp o j) = D := ⟨_, rfl⟩
                    rw [hDJ] at D1 ⊢
                    subst D1
                    clear hDJ hD IS TW
                    go_upto_region 36 with fail
                    refine wp_region_held_drew (S := fun wx => KD w (some ⟨b1, off1, none⟩) (some ⟨b2, off2, none⟩) (some ⟨b3, off3, none⟩) l kp dp b1 (off1 + d * 8) o b2 (off2 + j * 8) p b3 (off3 + i) (.int .i64 d) wx) (by kernel_rfl) X.out (fun hHeld => ?_)
                    refine wpAnyH_take (i := 0) (oi := ?oi0x50) (v := ?v0x50) ?hi0x50 (by kernel_rfl) (by kernel_rfl) (by kernel_rfl) ?hq0x50 ?hy0x50 hHeld ?rest0x50
                    case hi0x50 => ((try simp only [List.getElem?_toArray, List.getElem?_cons_succ, List.getElem?_cons_zero]); (try rfl))
                    case hq0x50 => exact fun _ _ _ h => h
                    case hy0x50 => exact Or.inl ⟨by rfl, by intro w hSw; clear hSw; go_simp; try with_reducible rfl⟩
                    try simp only [Act.put, List.setIfInBounds_toArray, List.set_cons_zero, List.set_cons_succ]
                    refine wpAnyH_take (i := 1) (oi := ?oi1x51) (v := ?v1x51) ?hi1x51 (by kernel_rfl) (by kernel_rfl) (by kernel_rfl) ?hq1x51 ?hy1x51 hHeld ?rest1x51
                    case hi1x51 => ((try simp only [List.getElem?_toArray, List.getElem?_cons_succ, List.getElem?_cons_zero]); (try rfl))
                    case hq1x51 => exact fun _ _ _ h => h
                    case hy1x51 => exact Or.inl ⟨by rfl, by intro w hSw; clear hSw; go_simp; try with_reducible rfl⟩
                    try simp only [Act.put, List.setIfInBounds_toArray, List.set_cons_zero, List.set_cons_succ]
                    refine wpAnyH_take (i := 2) (oi := ?oi2x52) (v := undef) ?hi2x52 (by kernel_rfl) (by kernel_rfl) (by kernel_rfl) ?hq2x52 ?hy2x52 hHeld ?rest2x52
                    case hi2x52 => ((try simp only [List.getElem?_toArray, List.getElem?_cons_succ, List.getElem?_cons_zero]); (try rfl))
                    case hq2x52 => exact fun _ _ _ h => h
                    case hy2x52 => exact Or.inr ⟨by rfl, rfl⟩
                    try simp only [Act.put, List.setIfInBounds_toArray, List.set_cons_zero, List.set_cons_succ]
                    refine wpAnyH_take (i := 3) (oi := ?oi3x53) (v := undef) ?hi3x53 (by kernel_rfl) (by kernel_rfl) (by kernel_rfl) ?hq3x53 ?hy3x53 hHeld ?rest3x53
                    case hi3x53 => ((try simp only [List.getElem?_toArray, List.getElem?_cons_succ, List.getElem?_cons_zero]); (try rfl))
                    case hq3x53 => exact fun _ _ _ h => h
                    case hy3x53 => exact Or.inr ⟨by rfl, rfl⟩
                    try simp only [Act.put, List.setIfInBounds_toArray, List.set_cons_zero, List.set_cons_succ]
                    refine wpAnyH_take (i := 4) (oi := ?oi4x54) (v := undef) ?hi4x54 (by kernel_rfl) (by kernel_rfl) (by kernel_rfl) ?hq4x54 ?hy4x54 hHeld ?rest4x54
                    case hi4x54 => ((try simp only [List.getElem?_toArray, List.getElem?_cons_succ, List.getElem?_cons_zero]); (try rfl))
                    case hq4x54 => exact fun _ _ _ h => h
                    case hy4x54 => exact Or.inr ⟨by rfl, rfl⟩
                    try simp only [Act.put, List.setIfInBounds_toArray, List.set_cons_zero, List.set_cons_succ]
                    refine wpAnyH_take (i := 5) (oi := ?oi5x55) (v := undef) ?hi5x55 (by kernel_rfl) (by kernel_rfl) (by kernel_rfl) ?hq5x55 ?hy5x55 hHeld ?rest5x55
                    case hi5x55 => ((try simp only [List.getElem?_toArray, List.getElem?_cons_succ, List.getElem?_cons_zero]); (try rfl))
                    case hq5x55 => exact fun _ _ _ h => h
                    case hy5x55 => exact Or.inr ⟨by rfl, rfl⟩
                    try simp only [Act.put, List.setIfInBounds_toArray, List.set_cons_zero, List.set_cons_succ]
                    refine wpAnyH_take (i := 6) (oi := ?oi6x56) (v := undef) ?hi6x56 (by kernel_rfl) (by kernel_rfl) (by kernel_rfl) ?hq6x56 ?hy6x56 hHeld ?rest6x56
                    case hi6x56 => ((try simp only [List.getElem?_toArray, List.getElem?_cons_succ, List.getElem?_cons_zero]); (try rfl))
                    case hq6x56 => exact fun _ _ _ h => h
                    case hy6x56 => exact Or.inr ⟨by rfl, rfl⟩
                    try simp only [Act.put, List.setIfInBounds_toArray, List.set_cons_zero, List.set_cons_succ]
                    refine wpAnyH_take (i := 7) (oi := ?oi7x57) (v := undef) ?hi7x57 (by kernel_rfl) (by kernel_rfl) (by kernel_rfl) ?hq7x57 ?hy7x57 hHeld ?rest7x57
                    case hi7x57 => ((try simp only [List.getElem?_toArray, List.getElem?_cons_succ, List.getElem?_cons_zero]); (try rfl))
                    case hq7x57 => exact fun _ _ _ h => h
                    case hy7x57 => exact Or.inr ⟨by rfl, rfl⟩
                    try simp only [Act.put, List.setIfInBounds_toArray, List.set_cons_zero, List.set_cons_succ]
                    refine wpAnyH_take (i := 8) (oi := ?oi8x58) (v := undef) ?hi8x58 (by kernel_rfl) (by kernel_rfl) (by kernel_rfl) ?hq8x58 ?hy8x58 hHeld ?rest8x58
                    case hi8x58 => ((try simp only [List.getElem?_toArray, List.getElem?_cons_succ, List.getElem?_cons_zero]); (try rfl))
                    case hq8x58 => exact fun _ _ _ h => h
                    case hy8x58 => exact Or.inr ⟨by rfl, rfl⟩
                    try simp only [Act.put, List.setIfInBounds_toArray, List.set_cons_zero, List.set_cons_succ]
                    refine wpAnyH_take (i := 9) (oi := ?oi9x59) (v := undef) ?hi9x59 (by kernel_rfl) (by kernel_rfl) (by kernel_rfl) ?hq9x59 ?hy9x59 hHeld ?rest9x59
                    case hi9x59 => ((try simp only [List.getElem?_toArray, List.getElem?_cons_succ, List.getElem?_cons_zero]); (try rfl))
                    case hq9x59 => exact fun _ _ _ h => h
                    case hy9x59 => exact Or.inr ⟨by rfl, rfl⟩
                    try simp only [Act.put, List.setIfInBounds_toArray, List.set_cons_zero, List.set_cons_succ]
                    refine wpAnyH_take (i := 10) (oi := ?oi10x60) (v := undef) ?hi10x60 (by kernel_rfl) (by kernel_rfl) (by kernel_rfl) ?hq10x60 ?hy10x60 hHeld ?rest10x60
                    case hi10x60 => ((try simp only [List.getElem?_toArray, List.getElem?_cons_succ, List.getElem?_cons_zero]); (try rfl))
                    case hq10x60 => exact fun _ _ _ h => h
                    case hy10x60 => exact Or.inr ⟨by rfl, rfl⟩
                    try simp only [Act.put, List.setIfInBounds_toArray, List.set_cons_zero, List.set_cons_succ]
                    refine wpAnyH_take (i := 11) (oi := ?oi11x61) (v := undef) ?hi11x61 (by kernel_rfl) (by kernel_rfl) (by kernel_rfl) ?hq11x61 ?hy11x61 hHeld ?rest11x61
                    case hi11x61 => ((try simp only [List.getElem?_toArray, List.getElem?_cons_succ, List.getElem?_cons_zero]); (try rfl))
                    case hq11x61 => exact fun _ _ _ h => h
                    case hy11x61 => exact Or.inr ⟨by rfl, rfl⟩
                    try simp only [Act.put, List.setIfInBounds_toArray, List.set_cons_zero, List.set_cons_succ]
                    refine wpAnyH_take (i := 12) (oi := ?oi12x62) (v := undef) ?hi12x62 (by kernel_rfl) (by kernel_rfl) (by kernel_rfl) ?hq12x62 ?hy12x62 hHeld ?rest12x62
                    case hi12x62 => ((try simp only [List.getElem?_toArray, List.getElem?_cons_succ, List.getElem?_cons_zero]); (try rfl))
                    case hq12x62 => exact fun _ _ _ h => h
                    case hy12x62 => exact Or.inr ⟨by rfl, rfl⟩
                    try simp only [Act.put, List.setIfInBounds_toArray, List.set_cons_zero, List.set_cons_succ]
                    refine wpAnyH_take (i := 13) (oi := ?oi13x63) (v := undef) ?hi13x63 (by kernel_rfl) (by kernel_rfl) (by kernel_rfl) ?hq13x63 ?hy13x63 hHeld ?rest13x63
                    case hi13x63 => ((try simp only [List.getElem?_toArray, List.getElem?_cons_succ, List.getElem?_cons_zero]); (try rfl))
                    case hq13x63 => exact fun _ _ _ h => h
                    case hy13x63 => exact Or.inr ⟨by rfl, rfl⟩
                    try simp only [Act.put, List.setIfInBounds_toArray, List.set_cons_zero, List.set_cons_succ]
                    refine wpAnyH_take (i := 14) (oi := ?oi14x64) (v := undef) ?hi14x64 (by kernel_rfl) (by kernel_rfl) (by kernel_rfl) ?hq14x64 ?hy14x64 hHeld ?rest14x64
                    case hi14x64 => ((try simp only [List.getElem?_toArray, List.getElem?_cons_succ, List.getElem?_cons_zero]); (try rfl))
                    case hq14x64 => exact fun _ _ _ h => h
                    case hy14x64 => exact Or.inr ⟨by rfl, rfl⟩
                    try simp only [Act.put, List.setIfInBounds_toArray, List.set_cons_zero, List.set_cons_succ]
                    refine wpAnyH_take (i := 15) (oi := ?oi15x65) (v := undef) ?hi15x65 (by kernel_rfl) (by kernel_rfl) (by kernel_rfl) ?hq15x65 ?hy15x65 hHeld ?rest15x65
                    case hi15x65 => ((try simp only [List.getElem?_toArray, List.getElem?_cons_succ, List.getElem?_cons_zero]); (try rfl))
                    case hq15x65 => exact fun _ _ _ h => h
                    case hy15x65 => exact Or.inr ⟨by rfl, rfl⟩
                    try simp only [Act.put, List.setIfInBounds_toArray, List.set_cons_zero, List.set_cons_succ]
                    refine wpAnyH_take (i := 16) (oi := ?oi16x66) (v := undef) ?hi16x66 (by kernel_rfl) (by kernel_rfl) (by kernel_rfl) ?hq16x66 ?hy16x66 hHeld ?rest16x66
                    case hi16x66 => ((try simp only [List.getElem?_toArray, List.getElem?_cons_succ, List.getElem?_cons_zero]); (try rfl))
                    case hq16x66 => exact fun _ _ _ h => h
                    case hy16x66 => exact Or.inr ⟨by rfl, rfl⟩
                    try simp only [Act.put, List.setIfInBounds_toArray, List.set_cons_zero, List.set_cons_succ]
                    refine wpAnyH_take (i := 17) (oi := ?oi17x67) (v := undef) ?hi17x67 (by kernel_rfl) (by kernel_rfl) (by kernel_rfl) ?hq17x67 ?hy17x67 hHeld ?rest17x67
                    case hi17x67 => ((try simp only [List.getElem?_toArray, List.getElem?_cons_succ, List.getElem?_cons_zero]); (try rfl))
                    case hq17x67 => exact fun _ _ _ h => h
                    case hy17x67 => exact Or.inr ⟨by rfl, rfl⟩
                    try simp only [Act.put, List.setIfInBounds_toArray, List.set_cons_zero, List.set_cons_succ]
                    refine wpAnyH_take (i := 18) (oi := ?oi18x68) (v := undef) ?hi18x68 (by kernel_rfl) (by kernel_rfl) (by kernel_rfl) ?hq18x68 ?hy18x68 hHeld ?rest18x68
                    case hi18x68 => ((try simp only [List.getElem?_toArray, List.getElem?_cons_succ, List.getElem?_cons_zero]); (try rfl))
                    case hq18x68 => exact fun _ _ _ h => h
                    case hy18x68 => exact Or.inr ⟨by rfl, rfl⟩
                    try simp only [Act.put, List.setIfInBounds_toArray, List.set_cons_zero, List.set_cons_succ]
                    refine wpAnyH_take (i := 19) (oi := ?oi19x69) (v := undef) ?hi19x69 (by kernel_rfl) (by kernel_rfl) (by kernel_rfl) ?hq19x69 ?hy19x69 hHeld ?rest19x69
                    case hi19x69 => ((try simp only [List.getElem?_toArray, List.getElem?_cons_succ, List.getElem?_cons_zero]); (try rfl))
                    case hq19x69 => exact fun _ _ _ h => h
                    case hy19x69 => exact Or.inr ⟨by rfl, rfl⟩
                    try simp only [Act.put, List.setIfInBounds_toArray, List.set_cons_zero, List.set_cons_succ]
                    refine wpAnyH_take (i := 20) (oi := ?oi20x70) (v := undef) ?hi20x70 (by kernel_rfl) (by kernel_rfl) (by kernel_rfl) ?hq20x70 ?hy20x70 hHeld ?rest20x70
                    case hi20x70 => ((try simp only [List.getElem?_toArray, List.getElem?_cons_succ, List.getElem?_cons_zero]); (try rfl))
                    case hq20x70 => exact fun _ _ _ h => h
                    case hy20x70 => exact Or.inr ⟨by rfl, rfl⟩
                    try simp only [Act.put, List.setIfInBounds_toArray, List.set_cons_zero, List.set_cons_succ]
                    refine wpAnyH_take (i := 21) (oi := ?oi21x71) (v := undef) ?hi21x71 (by kernel_rfl) (by kernel_rfl) (by kernel_rfl) ?hq21x71 ?hy21x71 hHeld ?rest21x71
                    case hi21x71 => ((try simp only [List.getElem?_toArray, List.getElem?_cons_succ, List.getElem?_cons_zero]); (try rfl))
                    case hq21x71 => exact fun _ _ _ h => h
                    case hy21x71 => exact Or.inr ⟨by rfl, rfl⟩
                    try simp only [Act.put, List.setIfInBounds_toArray, List.set_cons_zero, List.set_cons_succ]
                    refine wpAnyH_take (i := 22) (oi := ?oi22x72) (v := undef) ?hi22x72 (by kernel_rfl) (by kernel_rfl) (by kernel_rfl) ?hq22x72 ?hy22x72 hHeld ?rest22x72
                    case hi22x72 => ((try simp only [List.getElem?_toArray, List.getElem?_cons_succ, List.getElem?_cons_zero]); (try rfl))
                    case hq22x72 => exact fun _ _ _ h => h
                    case hy22x72 => exact Or.inr ⟨by rfl, rfl⟩
                    try simp only [Act.put, List.setIfInBounds_toArray, List.set_cons_zero, List.set_cons_succ]
                    refine wpAnyH_take (i := 23) (oi := ?oi23x73) (v := undef) ?hi23x73 (by kernel_rfl) (by kernel_rfl) (by kernel_rfl) ?hq23x73 ?hy23x73 hHeld ?rest23x73
                    case hi23x73 => ((try simp only [List.getElem?_toArray, List.getElem?_cons_succ, List.getElem?_cons_zero]); (try rfl))
                    case hq23x73 => exact fun _ _ _ h => h
                    case hy23x73 => exact Or.inr ⟨by rfl, rfl⟩
                    try simp only [Act.put, List.setIfInBounds_toArray, List.set_cons_zero, List.set_cons_succ]
                    refine wpAnyH_take (i := 24) (oi := ?oi24x74) (v := undef) ?hi24x74 (by kernel_rfl) (by kernel_rfl) (by kernel_rfl) ?hq24x74 ?hy24x74 hHeld ?rest24x74
                    case hi24x74 => ((try simp only [List.getElem?_toArray, List.getElem?_cons_succ, List.getElem?_cons_zero]); (try rfl))
                    case hq24x74 => exact fun _ _ _ h => h
                    case hy24x74 => exact Or.inr ⟨by rfl, rfl⟩
                    try simp only [Act.put, List.setIfInBounds_toArray, List.set_cons_zero, List.set_cons_succ]
                    refine wpAnyH_take (i := 25) (oi := ?oi25x75) (v := undef) ?hi25x75 (by kernel_rfl) (by kernel_rfl) (by kernel_rfl) ?hq25x75 ?hy25x75 hHeld ?rest25x75
                    case hi25x75 => ((try simp only [List.getElem?_toArray, List.getElem?_cons_succ, List.getElem?_cons_zero]); (try rfl))
                    case hq25x75 => exact fun _ _ _ h => h
                    case hy25x75 => exact Or.inr ⟨by rfl, rfl⟩
                    try simp only [Act.put, List.setIfInBounds_toArray, List.set_cons_zero, List.set_cons_succ]
                    refine wpAnyH_take (i := 26) (oi := ?oi26x76) (v := undef) ?hi26x76 (by kernel_rfl) (by kernel_rfl) (by kernel_rfl) ?hq26x76 ?hy26x76 hHeld ?rest26x76
                    case hi26x76 => ((try simp only [List.getElem?_toArray, List.getElem?_cons_succ, List.getElem?_cons_zero]); (try rfl))
                    case hq26x76 => exact fun _ _ _ h => h
                    case hy26x76 => exact Or.inr ⟨by rfl, rfl⟩
                    try simp only [Act.put, List.setIfInBounds_toArray, List.set_cons_zero, List.set_cons_succ]
                    refine wpAnyH_take (i := 27) (oi := ?oi27x77) (v := undef) ?hi27x77 (by kernel_rfl) (by kernel_rfl) (by kernel_rfl) ?hq27x77 ?hy27x77 hHeld ?rest27x77
                    case hi27x77 => ((try simp only [List.getElem?_toArray, List.getElem?_cons_succ, List.getElem?_cons_zero]); (try rfl))
                    case hq27x77 => exact fun _ _ _ h => h
                    case hy27x77 => exact Or.inr ⟨by rfl, rfl⟩
                    try simp only [Act.put, List.setIfInBounds_toArray, List.set_cons_zero, List.set_cons_succ]
                    refine wpAnyH_take (i := 28) (oi := ?oi28x78) (v := undef) ?hi28x78 (by kernel_rfl) (by kernel_rfl) (by kernel_rfl) ?hq28x78 ?hy28x78 hHeld ?rest28x78
                    case hi28x78 => ((try simp only [List.getElem?_toArray, List.getElem?_cons_succ, List.getElem?_cons_zero]); (try rfl))
                    case hq28x78 => exact fun _ _ _ h => h
                    case hy28x78 => exact Or.inr ⟨by rfl, rfl⟩
                    try simp only [Act.put, List.setIfInBounds_toArray, List.set_cons_zero, List.set_cons_succ]
                    refine wpAnyH_take (i := 29) (oi := ?oi29x79) (v := undef) ?hi29x79 (by kernel_rfl) (by kernel_rfl) (by kernel_rfl) ?hq29x79 ?hy29x79 hHeld ?rest29x79
                    case hi29x79 => ((try simp only [List.getElem?_toArray, List.getElem?_cons_succ, List.getElem?_cons_zero]); (try rfl))
                    case hq29x79 => exact fun _ _ _ h => h
                    case hy29x79 => exact Or.inr ⟨by rfl, rfl⟩
                    try simp only [Act.put, List.setIfInBounds_toArray, List.set_cons_zero, List.set_cons_succ]
                    refine wpAnyH_take (i := 30) (oi := ?oi30x80) (v := ?v30x80) ?hi30x80 (by kernel_rfl) (by kernel_rfl) (by kernel_rfl) ?hq30x80 ?hy30x80 hHeld ?rest30x80
                    case hi30x80 => ((try simp only [List.getElem?_toArray, List.getElem?_cons_succ, List.getElem?_cons_zero]); (try rfl))
                    case hq30x80 => exact fun _ _ _ h => h
                    case hy30x80 => exact Or.inl ⟨by rfl, by intro w hSw; clear hSw; go_simp; try with_reducible rfl⟩
                    try simp only [Act.put, List.setIfInBounds_toArray, List.set_cons_zero, List.set_cons_succ]
                    refine wpAnyH_take (i := 31) (oi := ?oi31x81) (v := ?v31x81) ?hi31x81 (by kernel_rfl) (by kernel_rfl) (by kernel_rfl) ?hq31x81 ?hy31x81 hHeld ?rest31x81
                    case hi31x81 => ((try simp only [List.getElem?_toArray, List.getElem?_cons_succ, List.getElem?_cons_zero]); (try rfl))
                    case hq31x81 => exact fun _ _ _ h => h
                    case hy31x81 => exact Or.inl ⟨by rfl, by intro w hSw; clear hSw; go_simp; try with_reducible rfl⟩
                    try simp only [Act.put, List.setIfInBounds_toArray, List.set_cons_zero, List.set_cons_succ]
                    refine wpAnyH_done (by kernel_rfl) ?_ _
                    clear hHeld
                    have Y := Lib.hid X.out.kr.kx
                    clear X
                    go_wp2_with fail
                    go_roundw
                    case rel => exact ⟨j + 1, by omega, by go_num, by rw [D2], Y⟩
                    case measure => simp [intOf] <;> omega
                  · have D1 : decide (twTo kp o j) = false := decide_eq_false hD
                    obtain ⟨DJ, hDJ⟩ : ∃ D, decide (twTo kp o j) = D := ⟨_, rfl⟩
                    rw [hDJ] at D1 ⊢
                    subst D1
                    clear hDJ
                    by_cases e1 : kyOf p = kyOf o
                    · rw [decide_eq_true e1] at TW
                      have D2 : decide (p.sg ≤ o.sg) = decide (twTo kp o (j + 1)) := decide_eq_decide.2 ⟨fun h => IS.2 (Or.inr ⟨e1, h⟩), fun h => ((IS.1 h).resolve_left hD).2⟩
                      have DD := Lib.hid D2
                      clear hD IS e1 D2
                      go_upto_region 36 with fail
                      refine wp_region_held_drew (S := fun wx => KD w (some ⟨b1, off1, none⟩) (some ⟨b2, off2, none⟩) (some ⟨b3, off3, none⟩) l kp dp b1 (off1 + d * 8) o b2 (off2 + j * 8) p b3 (off3 + i) (.int .i64 d) wx) (by kernel_rfl) X.out (fun hHeld => ?_)
                      refine wpAnyH_take (i := 0) (oi := ?oi0x82) (v := ?v0x82) ?hi0x82 (by kernel_rfl) (by kernel_rfl) (by kernel_rfl) ?hq0x82 ?hy0x82 hHeld ?rest0x82
                      case hi0x82 => ((try simp only [List.getElem?_toArray, List.getElem?_cons_succ, List.getElem?_cons_zero]); (try rfl))
                      case hq0x82 => exact fun _ _ _ h => h
                      case hy0x82 => exact Or.inl ⟨by rfl, by intro w hSw; clear hSw; go_simp; try with_reducible rfl⟩
                      try simp only [Act.put, List.setIfInBounds_toArray, List.set_cons_zero, List.set_cons_succ]
                      refine wpAnyH_take (i := 1) (oi := ?oi1x83) (v := ?v1x83) ?hi1x83 (by kernel_rfl) (by kernel_rfl) (by kernel_rfl) ?hq1x83 ?hy1x83 hHeld ?rest1x83
                      case hi1x83 => ((try simp only [List.getElem?_toArray, List.getElem?_cons_succ, List.getElem?_cons_zero]); (try rfl))
                      case hq1x83 => exact fun _ _ _ h => h
                      case hy1x83 => exact Or.inl ⟨by rfl, by intro w hSw; clear hSw; go_simp; try with_reducible rfl⟩
                      try simp only [Act.put, List.setIfInBounds_toArray, List.set_cons_zero, List.set_cons_succ]
                      refine wpAnyH_take (i := 2) (oi := ?oi2x84) (v := ?v2x84) ?hi2x84 (by kernel_rfl) (by kernel_rfl) (by kernel_rfl) ?hq2x84 ?hy2x84 hHeld ?rest2x84
                      case hi2x84 => ((try simp only [List.getElem?_toArray, List.getElem?_cons_succ, List.getElem?_cons_zero]); (try rfl))
                      case hq2x84 => exact fun _ _ _ h => h
                      case hy2x84 => exact Or.inl ⟨by rfl, by intro w hSw; clear hSw; go_simp; try with_reducible rfl⟩
                      try simp only [Act.put, List.setIfInBounds_toArray, List.set_cons_zero, List.set_cons_succ]
                      refine wpAnyH_take (i := 3) (oi := ?oi3x85) (v := ?v3x85) ?hi3x85 (by kernel_rfl) (by kernel_rfl) (by kernel_rfl) ?hq3x85 ?hy3x85 hHeld ?rest3x85
                      case hi3x85 => ((try simp only [List.getElem?_toArray, List.getElem?_cons_succ, List.getElem?_cons_zero]); (try rfl))
                      case hq3x85 => exact fun _ _ _ h => h
                      case hy3x85 => exact Or.inl ⟨by rfl, by intro w hSw; clear hSw; go_simp; try with_reducible rfl⟩
                      try simp only [Act.put, List.setIfInBounds_toArray, List.set_cons_zero, List.set_cons_succ]
                      refine wpAnyH_take (i := 4) (oi := ?oi4x86) (v := ?v4x86) ?hi4x86 (by kernel_rfl) (by kernel_rfl) (by kernel_rfl) ?hq4x86 ?hy4x86 hHeld ?rest4x86
                      case hi4x86 => ((try simp only [List.getElem?_toArray, List.getElem?_cons_succ, List.getElem?_cons_zero]); (try rfl))
                      case hq4x86 => exact fun _ _ _ h => h
                      case hy4x86 => exact Or.inl ⟨by rfl, by intro w hSw; clear hSw; go_simp; try with_reducible rfl⟩
                      try simp only [Act.put, List.setIfInBounds_toArray, List.set_cons_zero, List.set_cons_succ]
                      refine wpAnyH_take (i := 5) (oi := ?oi5x87) (v := ?v5x87) ?hi5x87 (by kernel_rfl) (by kernel_rfl) (by kernel_rfl) ?hq5x87 ?hy5x87 hHeld ?rest5x87
                      case hi5x87 => ((try simp only [List.getElem?_toArray, List.getElem?_cons_succ, List.getElem?_cons_zero]); (try rfl))
                      case hq5x87 => exact fun _ _ _ h => h
                      case hy5x87 =>
                        refine' yieldsIf_load_mid ?_ 33 (.tmp 182) ?_ b2 (off2 + j * 8) ?_ (obsC p) _ ?_ Tryz.underlying33 ?_ info8
                        · rfl
                        · rfl
                        · rfl
                        · exact fun _ h => h.kr.r2
                        · rfl
                      try simp only [Act.put, List.setIfInBounds_toArray, List.set_cons_zero, List.set_cons_succ]
                      refine wpAnyH_take (i := 6) (oi := ?oi6x88) (v := ?v6x88) ?hi6x88 (by kernel_rfl) (by kernel_rfl) (by kernel_rfl) ?hq6x88 ?hy6x88 hHeld ?rest6x88
                      case hi6x88 => ((try simp only [List.getElem?_toArray, List.getElem?_cons_succ, List.getElem?_cons_zero]); (try rfl))
                      case hq6x88 => exact fun _ _ _ h => h
                      case hy6x88 => exact Or.inl ⟨by rfl, by intro w hSw; clear hSw; go_simp; try with_reducible rfl⟩
                      try simp only [Act.put, List.setIfInBounds_toArray, List.set_cons_zero, List.set_cons_succ]
                      refine wpAnyH_take (i := 7) (oi := ?oi7x89) (v := ?v7x89) ?hi7x89 (by kernel_rfl) (by kernel_rfl) (by kernel_rfl) ?hq7x89 ?hy7x89 hHeld ?rest7x89
                      case hi7x89 => ((try simp only [List.getElem?_toArray, List.getElem?_cons_succ, List.getElem?_cons_zero]); (try rfl))
                      case hq7x89 => exact fun _ _ _ h => h
                      case hy7x89 => exact Or.inl ⟨by rfl, by intro w hSw; clear hSw; go_simp; try with_reducible rfl⟩
                      try simp only [Act.put, List.setIfInBounds_toArray, List.set_cons_zero, List.set_cons_succ]
                      refine wpAnyH_take (i := 8) (oi := ?oi8x90) (v := ?v8x90) ?hi8x90 (by kernel_rfl) (by kernel_rfl) (by kernel_rfl) ?hq8x90 ?hy8x90 hHeld ?rest8x90
                      case hi8x90 => ((try simp only [List.getElem?_toArray, List.getElem?_cons_succ, List.getElem?_cons_zero]); (try rfl))
                      case hq8x90 => exact fun _ _ _ h => h
                      case hy8x90 => exact Or.inl ⟨by rfl, by intro w hSw; clear hSw; go_simp; try with_reducible rfl⟩
                      try simp only [Act.put, List.setIfInBounds_toArray, List.set_cons_zero, List.set_cons_succ]
                      refine wpAnyH_take (i := 9) (oi := ?oi9x91) (v := ?v9x91) ?hi9x91 (by kernel_rfl) (by kernel_rfl) (by kernel_rfl) ?hq9x91 ?hy9x91 hHeld ?rest9x91
                      case hi9x91 => ((try simp only [List.getElem?_toArray, List.getElem?_cons_succ, List.getElem?_cons_zero]); (try rfl))
                      case hq9x91 => exact fun _ _ _ h => h
                      case hy9x91 => exact Or.inl ⟨by rfl, by intro w hSw; clear hSw; go_simp; try with_reducible rfl⟩
                      try simp only [Act.put, List.setIfInBounds_toArray, List.set_cons_zero, List.set_cons_succ]
                      refine wpAnyH_take (i := 10) (oi := ?oi10x92) (v := ?v10x92) ?hi10x92 (by kernel_rfl) (by kernel_rfl) (by kernel_rfl) ?hq10x92 ?hy10x92 hHeld ?rest10x92
                      case hi10x92 => ((try simp only [List.getElem?_toArray, List.getElem?_cons_succ, List.getElem?_cons_zero]); (try rfl))
                      case hq10x92 => exact fun _ _ _ h => h
                      case hy10x92 => exact Or.inl ⟨by rfl, by intro w hSw; have q := hSw.c3; clear hSw; go_simp; try with_reducible rfl⟩
                      try simp only [Act.put, List.setIfInBounds_toArray, List.set_cons_zero, List.set_cons_succ]
                      refine wpAnyH_take (i := 11) (oi := ?oi11x93) (v := ?v11x93) ?hi11x93 (by kernel_rfl) (by kernel_rfl) (by kernel_rfl) ?hq11x93 ?hy11x93 hHeld ?rest11x93
                      case hi11x93 => ((try simp only [List.getElem?_toArray, List.getElem?_cons_succ, List.getElem?_cons_zero]); (try rfl))
                      case hq11x93 => exact fun _ _ _ h => h
                      case hy11x93 => exact Or.inl ⟨by rfl, by intro w hSw; clear hSw; go_simp; try with_reducible rfl⟩
                      try simp only [Act.put, List.setIfInBounds_toArray, List.set_cons_zero, List.set_cons_succ]
                      refine wpAnyH_take (i := 12) (oi := ?oi12x94) (v := ?v12x94) ?hi12x94 (by kernel_rfl) (by kernel_rfl) (by kernel_rfl) ?hq12x94 ?hy12x94 hHeld ?rest12x94
                      case hi12x94 => ((try simp only [List.getElem?_toArray, List.getElem?_cons_succ, List.getElem?_cons_zero]); (try rfl))
                      case hq12x94 => exact fun _ _ _ h => h
                      case hy12x94 =>
                        refine' yieldsIf_load_mid ?_ 33 (.tmp 189) ?_ b1 (off1 + d * 8) ?_ (obsC o) _ ?_ Tryz.underlying33 ?_ info8
                        · rfl
                        · rfl
                        · rfl
                        · exact fun _ h => h.kr.r1
                        · rfl
                      try simp only [Act.put, List.setIfInBounds_toArray, List.set_cons_zero, List.set_cons_succ]
                      refine wpAnyH_ready (rs := [13]) (by kernel_rfl) (by simp) ?_
                      refine AllReadyH.cons rfl (fun K' hK => ?_) AllReadyH.nil
                      clear hHeld
                      go_simp
                      refine (TW.out _).mono ?_
                      rintro e wx ⟨rfl, hb⟩
                      replace X := Lib.hid (X.out.call hb)
                      clear hb TW
                      refine hK.out _ _ X.out (fun hHeld => ?_)
                      clear hK
                      try simp only [Act.put, List.setIfInBounds_toArray, List.set_cons_zero, List.set_cons_succ]
                      refine wpAnyH_take (i := 14) (oi := ?oi14x95) (v := ?v14x95) ?hi14x95 (by kernel_rfl) (by kernel_rfl) (by kernel_rfl) ?hq14x95 ?hy14x95 hHeld ?rest14x95
                      case hi14x95 => ((try simp only [List.getElem?_toArray, List.getElem?_cons_succ, List.getElem?_cons_zero]); (try rfl))
                      case hq14x95 => exact fun _ _ _ h => h
                      case hy14x95 => exact Or.inl ⟨by rfl, by intro w hSw; clear hSw; go_simp; try with_reducible rfl⟩
                      try simp only [Act.put, List.setIfInBounds_toArray, List.set_cons_zero, List.set_cons_succ]
                      refine wpAnyH_take (i := 15) (oi := ?oi15x96) (v := ?v15x96) ?hi15x96 (by kernel_rfl) (by kernel_rfl) (by kernel_rfl) ?hq15x96 ?hy15x96 hHeld ?rest15x96
                      case hi15x96 => ((try simp only [List.getElem?_toArray, List.getElem?_cons_succ, List.getElem?_cons_zero]); (try rfl))
                      case hq15x96 => exact fun _ _ _ h => h
                      case hy15x96 => exact Or.inl ⟨by rfl, by intro w hSw; clear hSw; go_simp; try with_reducible rfl⟩
                      try simp only [Act.put, List.setIfInBounds_toArray, List.set_cons_zero, List.set_cons_succ]
                      refine wpAnyH_take (i := 16) (oi := ?oi16x97) (v := ?v16x97) ?hi16x97 (by kernel_rfl) (by kernel_rfl) (by kernel_rfl) ?hq16x97 ?hy16x97 hHeld ?rest16x97
                      case hi16x97 => ((try simp only [List.getElem?_toArray, List.getElem?_cons_succ, List.getElem?_cons_zero]); (try rfl))
                      case hq16x97 => exact fun _ _ _ h => h
                      case hy16x97 => exact Or.inl ⟨by rfl, by intro w hSw; clear hSw; go_simp; try with_reducible rfl⟩
                      try simp only [Act.put, List.setIfInBounds_toArray, List.set_cons_zero, List.set_cons_succ]
                      refine wpAnyH_take (i := 17) (oi := ?oi17x98) (v := ?v17x98) ?hi17x98 (by kernel_rfl) (by kernel_rfl) (by kernel_rfl) ?hq17x98 ?hy17x98 hHeld ?rest17x98
                      case hi17x98 => ((try simp only [List.getElem?_toArray, List.getElem?_cons_succ, List.getElem?_cons_zero]); (try rfl))
                      case hq17x98 => exact fun _ _ _ h => h
                      case hy17x98 => exact Or.inl ⟨by rfl, by intro w hSw; clear hSw; go_simp; try with_reducible rfl⟩
                      try simp only [Act.put, List.setIfInBounds_toArray, List.set_cons_zero, List.set_cons_succ]
                      refine wpAnyH_take (i := 18) (oi := ?oi18x99) (v := ?v18x99) ?hi18x99 (by kernel_rfl) (by kernel_rfl) (by kernel_rfl) ?hq18x99 ?hy18x99 hHeld ?rest18x99
                      case hi18x99 => ((try simp only [List.getElem?_toArray, List.getElem?_cons_succ, List.getElem?_cons_zero]); (try rfl))
                      case hq18x99 => exact fun _ _ _ h => h
                      case hy18x99 => exact Or.inl ⟨by rfl, by intro w hSw; clear hSw; go_simp; try with_reducible rfl⟩
                      try simp only [Act.put, List.setIfInBounds_toArray, List.set_cons_zero, List.set_cons_succ]
                      refine wpAnyH_take (i := 19) (oi := ?oi19x100) (v := ?v19x100) ?hi19x100 (by kernel_rfl) (by kernel_rfl) (by kernel_rfl) ?hq19x100 ?hy19x100 hHeld ?rest19x100
                      case hi19x100 => ((try simp only [List.getElem?_toArray, List.getElem?_cons_succ, List.getElem?_cons_zero]); (try rfl))
                      case hq19x100 => exact fun _ _ _ h => h
                      case hy19x100 => exact Or.inl ⟨by rfl, by intro w hSw; have q := hSw.kr.r2 5 _ rfl; clear hSw; go_simp; try with_reducible rfl⟩
                      try simp only [Act.put, List.setIfInBounds_toArray, List.set_cons_zero, List.set_cons_succ]
                      refine wpAnyH_take (i := 20) (oi := ?oi20x101) (v := ?v20x101) ?hi20x101 (by kernel_rfl) (by kernel_rfl) (by kernel_rfl) ?hq20x101 ?hy20x101 hHeld ?rest20x101
                      case hi20x101 => ((try simp only [List.getElem?_toArray, List.getElem?_cons_succ, List.getElem?_cons_zero]); (try rfl))
                      case hq20x101 => exact fun _ _ _ h => h
                      case hy20x101 => exact Or.inl ⟨by rfl, by intro w hSw; clear hSw; go_simp; try with_reducible rfl⟩
                      try simp only [Act.put, List.setIfInBounds_toArray, List.set_cons_zero, List.set_cons_succ]
                      refine wpAnyH_take (i := 21) (oi := ?oi21x102) (v := ?v21x102) ?hi21x102 (by kernel_rfl) (by kernel_rfl) (by kernel_rfl) ?hq21x102 ?hy21x102 hHeld ?rest21x102
                      case hi21x102 => ((try simp only [List.getElem?_toArray, List.getElem?_cons_succ, List.getElem?_cons_zero]); (try rfl))
                      case hq21x102 => exact fun _ _ _ h => h
                      case hy21x102 => exact Or.inl ⟨by rfl, by intro w hSw; clear hSw; go_simp; try with_reducible rfl⟩
                      try simp only [Act.put, List.setIfInBounds_toArray, List.set_cons_zero, List.set_cons_succ]
                      refine wpAnyH_take (i := 22) (oi := ?oi22x103) (v := ?v22x103) ?hi22x103 (by kernel_rfl) (by kernel_rfl) (by kernel_rfl) ?hq22x103 ?hy22x103 hHeld ?rest22x103
                      case hi22x103 => ((try simp only [List.getElem?_toArray, List.getElem?_cons_succ, List.getElem?_cons_zero]); (try rfl))
                      case hq22x103 => exact fun _ _ _ h => h
                      case hy22x103 => exact Or.inl ⟨by rfl, by intro w hSw; clear hSw; go_simp; try with_reducible rfl⟩
                      try simp only [Act.put, List.setIfInBounds_toArray, List.set_cons_zero, List.set_cons_succ]
                      refine wpAnyH_take (i := 23) (oi := ?oi23x104) (v := ?v23x104) ?hi23x104 (by kernel_rfl) (by kernel_rfl) (by kernel_rfl) ?hq23x104 ?hy23x104 hHeld ?rest23x104
                      case hi23x104 => ((try simp only [List.getElem?_toArray, List.getElem?_cons_succ, List.getElem?_cons_zero]); (try rfl))
                      case hq23x104 => exact fun _ _ _ h => h
                      case hy23x104 => exact Or.inl ⟨by rfl, by intro w hSw; clear hSw; go_simp; try with_reducible rfl⟩
                      try simp only [Act.put, List.setIfInBounds_toArray, List.set_cons_zero, List.set_cons_succ]
                      refine wpAnyH_take (i := 24) (oi := ?oi24x105) (v := ?v24x105) ?hi24x105 (by kernel_rfl) (by kernel_rfl) (by kernel_rfl) ?hq24x105 ?hy24x105 hHeld ?rest24x105
                      case hi24x105 => ((try simp only [List.getElem?_toArray, List.getElem?_cons_succ, List.getElem?_cons_zero]); (try rfl))
                      case hq24x105 => exact fun _ _ _ h => h
                      case hy24x105 => exact Or.inl ⟨by rfl, by intro w hSw; have q := hSw.c3; clear hSw; go_simp; try with_reducible rfl⟩
                      try simp only [Act.put, List.setIfInBounds_toArray, List.set_cons_zero, List.set_cons_succ]
                      refine wpAnyH_take (i := 25) (oi := ?oi25x106) (v := ?v25x106) ?hi25x106 (by kernel_rfl) (by kernel_rfl) (by kernel_rfl) ?hq25x106 ?hy25x106 hHeld ?rest25x106
                      case hi25x106 => ((try simp only [List.getElem?_toArray, List.getElem?_cons_succ, List.getElem?_cons_zero]); (try rfl))
                      case hq25x106 => exact fun _ _ _ h => h
                      case hy25x106 => exact Or.inl ⟨by rfl, by intro w hSw; clear hSw; go_simp; try with_reducible rfl⟩
                      try simp only [Act.put, List.setIfInBounds_toArray, List.set_cons_zero, List.set_cons_succ]
                      refine wpAnyH_take (i := 26) (oi := ?oi26x107) (v := ?v26x107) ?hi26x107 (by kernel_rfl) (by kernel_rfl) (by kernel_rfl) ?hq26x107 ?hy26x107 hHeld ?rest26x107
                      case hi26x107 => ((try simp only [List.getElem?_toArray, List.getElem?_cons_succ, List.getElem?_cons_zero]); (try rfl))
                      case hq26x107 => exact fun _ _ _ h => h
                      case hy26x107 => exact Or.inl ⟨by rfl, by intro w hSw; clear hSw; go_simp; try with_reducible rfl⟩
                      try simp only [Act.put, List.setIfInBounds_toArray, List.set_cons_zero, List.set_cons_succ]
                      refine wpAnyH_take (i := 27) (oi := ?oi27x108) (v := ?v27x108) ?hi27x108 (by kernel_rfl) (by kernel_rfl) (by kernel_rfl) ?hq27x108 ?hy27x108 hHeld ?rest27x108
                      case hi27x108 => ((try simp only [List.getElem?_toArray, List.getElem?_cons_succ, List.getElem?_cons_zero]); (try rfl))
                      case hq27x108 => exact fun _ _ _ h => h
                      case hy27x108 => exact Or.inl ⟨by rfl, by intro w hSw; have q := hSw.kr.r1 5 _ rfl; clear hSw; go_simp; try with_reducible rfl⟩
                      try simp only [Act.put, List.setIfInBounds_toArray, List.set_cons_zero, List.set_cons_succ]
                      refine wpAnyH_take (i := 28) (oi := ?oi28x109) (v := ?v28x109) ?hi28x109 (by kernel_rfl) (by kernel_rfl) (by kernel_rfl) ?hq28x109 ?hy28x109 hHeld ?rest28x109
                      case hi28x109 => ((try simp only [List.getElem?_toArray, List.getElem?_cons_succ, List.getElem?_cons_zero]); (try rfl))
                      case hq28x109 => exact fun _ _ _ h => h
                      case hy28x109 => exact Or.inl ⟨by rfl, by intro w hSw; clear hSw; go_simp; try with_reducible rfl⟩
                      try simp only [Act.put, List.setIfInBounds_toArray, List.set_cons_zero, List.set_cons_succ]
                      refine wpAnyH_take (i := 29) (oi := ?oi29x110) (v := ?v29x110) ?hi29x110 (by kernel_rfl) (by kernel_rfl) (by kernel_rfl) ?hq29x110 ?hy29x110 hHeld ?rest29x110
                      case hi29x110 => ((try simp only [List.getElem?_toArray, List.getElem?_cons_succ, List.getElem?_cons_zero]); (try rfl))
                      case hq29x110 => exact fun _ _ _ h => h
                      case hy29x110 => exact Or.inl ⟨by rfl, by intro w hSw; clear hSw; go_simp; try with_reducible rfl⟩
                      try simp only [Act.put, List.setIfInBounds_toArray, List.set_cons_zero, List.set_cons_succ]
                      refine wpAnyH_take (i := 30) (oi := ?oi30x111) (v := ?v30x111) ?hi30x111 (by kernel_rfl) (by kernel_rfl) (by kernel_rfl) ?hq30x111 ?hy30x111 hHeld ?rest30x111
                      case hi30x111 => ((try simp only [List.getElem?_toArray, List.getElem?_cons_succ, List.getElem?_cons_zero]); (try rfl))
                      case hq30x111 => exact fun _ _ _ h => h
                      case hy30x111 => exact Or.inl ⟨by rfl, by intro w hSw; clear hSw; go_simp; try with_reducible rfl⟩
                      try simp only [Act.put, List.setIfInBounds_toArray, List.set_cons_zero, List.set_cons_succ]
                      refine wpAnyH_take (i := 31) (oi := ?oi31x112) (v := ?v31x112) ?hi31x112 (by kernel_rfl) (by kernel_rfl) (by kernel_rfl) ?hq31x112 ?hy31x112 hHeld ?rest31x112
                      case hi31x112 => ((try simp only [List.getElem?_toArray, List.getElem?_cons_succ, List.getElem?_cons_zero]); (try rfl))
                      case hq31x112 => exact fun _ _ _ h => h
                      case hy31x112 => exact Or.inl ⟨by rfl, by intro w hSw; clear hSw; go_simp; try with_reducible rfl⟩
                      try simp only [Act.put, List.setIfInBounds_toArray, List.set_cons_zero, List.set_cons_succ]
                      refine wpAnyH_done (by kernel_rfl) ?_ _
                      clear hHeld
                      have Y := Lib.hid X.out.kr.kx
                      clear X
                      go_wp2_with fail
                      go_roundw
                      case rel => exact ⟨j + 1, by omega, by go_num, by rw [← DD.out], Y⟩
                      case measure => simp [intOf] <;> omega
                    · rw [decide_eq_false e1] at TW
                      have DD : Hid (decide (twTo kp o (j + 1)) = false) := Lib.hid (decide_eq_false (fun h => e1 ((IS.1 h).resolve_left hD).1))
                      clear hD IS e1
                      go_upto_region 36 with fail
                      refine wp_region_held_drew (S := fun wx => KD w (some ⟨b1, off1, none⟩) (some ⟨b2, off2, none⟩) (some ⟨b3, off3, none⟩) l kp dp b1 (off1 + d * 8) o b2 (off2 + j * 8) p b3 (off3 + i) (.int .i64 d) wx) (by kernel_rfl) X.out (fun hHeld => ?_)
                      refine wpAnyH_take (i := 0) (oi := ?oi0x113) (v := ?v0x113) ?hi0x113 (by kernel_rfl) (by kernel_rfl) (by kernel_rfl) ?hq0x113 ?hy0x113 hHeld ?rest0x113
                      case hi0x113 => ((try simp only [List.getElem?_toArray, List.getElem?_cons_succ, List.getElem?_cons_zero]); (try rfl))
                      case hq0x113 => exact fun _ _ _ h => h
                      case hy0x113 => exact Or.inl ⟨by rfl, by intro w hSw; clear hSw; go_simp; try with_reducible rfl⟩
                      try simp only [Act.put, List.setIfInBounds_toArray, List.set_cons_zero, List.set_cons_succ]
                      refine wpAnyH_take (i := 1) (oi := ?oi1x114) (v := ?v1x114) ?hi1x114 (by kernel_rfl) (by kernel_rfl) (by kernel_rfl) ?hq1x114 ?hy1x114 hHeld ?rest1x114
                      case hi1x114 => ((try simp only [List.getElem?_toArray, List.getElem?_cons_succ, List.getElem?_cons_zero]); (try rfl))
                      case hq1x114 => exact fun _ _ _ h => h
                      case hy1x114 => exact Or.inl ⟨by rfl, by intro w hSw; clear hSw; go_simp; try with_reducible rfl⟩
                      try simp only [Act.put, List.setIfInBounds_toArray, List.set_cons_zero, List.set_cons_succ]
                      refine wpAnyH_take (i := 2) (oi := ?oi2x115) (v := ?v2x115) ?hi2x115 (by kernel_rfl) (by kernel_rfl) (by kernel_rfl) ?hq2x115 ?hy2x115 hHeld ?rest2x115
                      case hi2x115 => ((try simp only [List.getElem?_toArray, List.getElem?_cons_succ, List.getElem?_cons_zero]); (try rfl))
                      case hq2x115 => exact fun _ _ _ h => h
                      case hy2x115 => exact Or.inl ⟨by rfl, by intro w hSw; clear hSw; go_simp; try with_reducible rfl⟩
                      try simp only [Act.put, List.setIfInBounds_toArray, List.set_cons_zero, List.set_cons_succ]
                      refine wpAnyH_take (i := 3) (oi := ?oi3x116) (v := ?v3x116) ?hi3x116 (by kernel_rfl) (by kernel_rfl) (by kernel_rfl) ?hq3x116 ?hy3x116 hHeld ?rest3x116
                      case hi3x116 => ((try simp only [List.getElem?_toArray, List.getElem?_cons_succ, List.getElem?_cons_zero]); (try rfl))
                      case hq3x116 => exact fun _ _ _ h => h
                      case hy3x116 => exact Or.inl ⟨by rfl, by intro w hSw; clear hSw; go_simp; try with_reducible rfl⟩
                      try simp only [Act.put, List.setIfInBounds_toArray, List.set_cons_zero, List.set_cons_succ]
                      refine wpAnyH_take (i := 4) (oi := ?oi4x117) (v := ?v4x117) ?hi4x117 (by kernel_rfl) (by kernel_rfl) (by kernel_rfl) ?hq4x117 ?hy4x117 hHeld ?rest4x117
                      case hi4x117 => ((try simp only [List.getElem?_toArray, List.getElem?_cons_succ, List.getElem?_cons_zero]); (try rfl))
                      case hq4x117 => exact fun _ _ _ h => h
                      case hy4x117 => exact Or.inl ⟨by rfl, by intro w hSw; clear hSw; go_simp; try with_reducible rfl⟩
                      try simp only [Act.put, List.setIfInBounds_toArray, List.set_cons_zero, List.set_cons_succ]
                      refine wpAnyH_take (i := 5) (oi := ?oi5x118) (v := ?v5x118) ?hi5x118 (by kernel_rfl) (by kernel_rfl) (by kernel_rfl) ?hq5x118 ?hy5x118 hHeld ?rest5x118
                      case hi5x118 => ((try simp only [List.getElem?_toArray, List.getElem?_cons_succ, List.getElem?_cons_zero]); (try rfl))
                      case hq5x118 => exact fun _ _ _ h => h
                      case hy5x118 =>
                        refine' yieldsIf_load_mid ?_ 33 (.tmp 182) ?_ b2 (off2 + j * 8) ?_ (obsC p) _ ?_ Tryz.underlying33 ?_ info8
                        · rfl
                        · rfl
                        · rfl
                        · exact fun _ h => h.kr.r2
                        · rfl
                      try simp only [Act.put, List.setIfInBounds_toArray, List.set_cons_zero, List.set_cons_succ]
                      refine wpAnyH_take (i := 6) (oi := ?oi6x119) (v := ?v6x119) ?hi6x119 (by kernel_rfl) (by kernel_rfl) (by kernel_rfl) ?hq6x119 ?hy6x119 hHeld ?rest6x119
                      case hi6x119 => ((try simp only [List.getElem?_toArray, List.getElem?_cons_succ, List.getElem?_cons_zero]); (try rfl))
                      case hq6x119 => exact fun _ _ _ h => h
                      case hy6x119 => exact Or.inl ⟨by rfl, by intro w hSw; clear hSw; go_simp; try with_reducible rfl⟩
                      try simp only [Act.put, List.setIfInBounds_toArray, List.set_cons_zero, List.set_cons_succ]
                      refine wpAnyH_take (i := 7) (oi := ?oi7x120) (v := ?v7x120) ?hi7x120 (by kernel_rfl) (by kernel_rfl) (by kernel_rfl) ?hq7x120 ?hy7x120 hHeld ?rest7x120
                      case hi7x120 => ((try simp only [List.getElem?_toArray, List.getElem?_cons_succ, List.getElem?_cons_zero]); (try rfl))
                      case hq7x120 => exact fun _ _ _ h => h
                      case hy7x120 => exact Or.inl ⟨by rfl, by intro w hSw; clear hSw; go_simp; try with_reducible rfl⟩
                      try simp only [Act.put, List.setIfInBounds_toArray, List.set_cons_zero, List.set_cons_succ]
                      refine wpAnyH_take (i := 8) (oi := ?oi8x121) (v := ?v8x121) ?hi8x121 (by kernel_rfl) (by kernel_rfl) (by kernel_rfl) ?hq8x121 ?hy8x121 hHeld ?rest8x121
                      case hi8x121 => ((try simp only [List.getElem?_toArray, List.getElem?_cons_succ, List.getElem?_cons_zero]); (try rfl))
                      case hq8x121 => exact fun _ _ _ h => h
                      case hy8x121 => exact Or.inl ⟨by rfl, by intro w hSw; clear hSw; go_simp; try with_reducible rfl⟩
                      try simp only [Act.put, List.setIfInBounds_toArray, List.set_cons_zero, List.set_cons_succ]
                      refine wpAnyH_take (i := 9) (oi := ?oi9x122) (v := ?v9x122) ?hi9x122 (by kernel_rfl) (by kernel_rfl) (by kernel_rfl) ?hq9x122 ?hy9x122 hHeld ?rest9x122
                      case hi9x122 => ((try simp only [List.getElem?_toArray, List.getElem?_cons_succ, List.getElem?_cons_zero]); (try rfl))
                      case hq9x122 => exact fun _ _ _ h => h
                      case hy9x122 => exact Or.inl ⟨by rfl, by intro w hSw; clear hSw; go_simp; try with_reducible rfl⟩
                      try simp only [Act.put, List.setIfInBounds_toArray, List.set_cons_zero, List.set_cons_succ]
                      refine wpAnyH_take (i := 10) (oi := ?oi10x123) (v := ?v10x123) ?hi10x123 (by kernel_rfl) (by kernel_rfl) (by kernel_rfl) ?hq10x123 ?hy10x123 hHeld ?rest10x123
                      case hi10x123 => ((try simp only [List.getElem?_toArray, List.getElem?_cons_succ, List.getElem?_cons_zero]); (try rfl))
                      case hq10x123 => exact fun _ _ _ h => h
                      case hy10x123 => exact Or.inl ⟨by rfl, by intro w hSw; have q := hSw.c3; clear hSw; go_simp; try with_reducible rfl⟩
                      try simp only [Act.put, List.setIfInBounds_toArray, List.set_cons_zero, List.set_cons_succ]
                      refine wpAnyH_take (i := 11) (oi := ?oi11x124) (v := ?v11x124) ?hi11x124 (by kernel_rfl) (by kernel_rfl) (by kernel_rfl) ?hq11x124 ?hy11x124 hHeld ?rest11x124
                      case hi11x124 => ((try simp only [List.getElem?_toArray, List.getElem?_cons_succ, List.getElem?_cons_zero]); (try rfl))
                      case hq11x124 => exact fun _ _ _ h => h
                      case hy11x124 => exact Or.inl ⟨by rfl, by intro w hSw; clear hSw; go_simp; try with_reducible rfl⟩
                      try simp only [Act.put, List.setIfInBounds_toArray, List.set_cons_zero, List.set_cons_succ]
                      refine wpAnyH_take (i := 12) (oi := ?oi12x125) (v := ?v12x125) ?hi12x125 (by kernel_rfl) (by kernel_rfl) (by kernel_rfl) ?hq12x125 ?hy12x125 hHeld ?rest12x125
                      case hi12x125 => ((try simp only [List.getElem?_toArray, List.getElem?_cons_succ, List.getElem?_cons_zero]); (try rfl))
                      case hq12x125 => exact fun _ _ _ h => h
                      case hy12x125 =>
                        refine' yieldsIf_load_mid ?_ 33 (.tmp 189) ?_ b1 (off1 + d * 8) ?_ (obsC o) _ ?_ Tryz.underlying33 ?_ info8
                        · rfl
                        · rfl
                        · rfl
                        · exact fun _ h => h.kr.r1
                        · rfl
                      try simp only [Act.put, List.setIfInBounds_toArray, List.set_cons_zero, List.set_cons_succ]
                      refine wpAnyH_ready (rs := [13]) (by kernel_rfl) (by simp) ?_
                      refine AllReadyH.cons rfl (fun K' hK => ?_) AllReadyH.nil
                      clear hHeld
                      go_simp
                      refine (TW.out _).mono ?_
                      rintro e wx ⟨rfl, hb⟩
                      replace X := Lib.hid (X.out.call hb)
                      clear hb TW
                      refine hK.out _ _ X.out (fun hHeld => ?_)
                      clear hK
                      try simp only [Act.put, List.setIfInBounds_toArray, List.set_cons_zero, List.set_cons_succ]
                      refine wpAnyH_take (i := 14) (oi := ?oi14x126) (v := ?v14x126) ?hi14x126 (by kernel_rfl) (by kernel_rfl) (by kernel_rfl) ?hq14x126 ?hy14x126 hHeld ?rest14x126
                      case hi14x126 => ((try simp only [List.getElem?_toArray, List.getElem?_cons_succ, List.getElem?_cons_zero]); (try rfl))
                      case hq14x126 => exact fun _ _ _ h => h
                      case hy14x126 => exact Or.inl ⟨by rfl, by intro w hSw; clear hSw; go_simp; try with_reducible rfl⟩
                      try simp only [Act.put, List.setIfInBounds_toArray, List.set_cons_zero, List.set_cons_succ]
                      refine wpAnyH_take (i := 15) (oi := ?oi15x127) (v := undef) ?hi15x127 (by kernel_rfl) (by kernel_rfl) (by kernel_rfl) ?hq15x127 ?hy15x127 hHeld ?rest15x127
                      case hi15x127 => ((try simp only [List.getElem?_toArray, List.getElem?_cons_succ, List.getElem?_cons_zero]); (try rfl))
                      case hq15x127 => exact fun _ _ _ h => h
                      case hy15x127 => exact Or.inr ⟨by rfl, rfl⟩
                      try simp only [Act.put, List.setIfInBounds_toArray, List.set_cons_zero, List.set_cons_succ]
                      refine wpAnyH_take (i := 16) (oi := ?oi16x128) (v := undef) ?hi16x128 (by kernel_rfl) (by kernel_rfl) (by kernel_rfl) ?hq16x128 ?hy16x128 hHeld ?rest16x128
                      case hi16x128 => ((try simp only [List.getElem?_toArray, List.getElem?_cons_succ, List.getElem?_cons_zero]); (try rfl))
                      case hq16x128 => exact fun _ _ _ h => h
                      case hy16x128 => exact Or.inr ⟨by rfl, rfl⟩
                      try simp only [Act.put, List.setIfInBounds_toArray, List.set_cons_zero, List.set_cons_succ]
                      refine wpAnyH_take (i := 17) (oi := ?oi17x129) (v := undef) ?hi17x129 (by kernel_rfl) (by kernel_rfl) (by kernel_rfl) ?hq17x129 ?hy17x129 hHeld ?rest17x129
                      case hi17x129 => ((try simp only [List.getElem?_toArray, List.getElem?_cons_succ, List.getElem?_cons_zero]); (try rfl))
                      case hq17x129 => exact fun _ _ _ h => h
                      case hy17x129 => exact Or.inr ⟨by rfl, rfl⟩
                      try simp only [Act.put, List.setIfInBounds_toArray, List.set_cons_zero, List.set_cons_succ]
                      refine wpAnyH_take (i := 18) (oi := ?oi18x130) (v := undef) ?hi18x130 (by kernel_rfl) (by kernel_rfl) (by kernel_rfl) ?hq18x130 ?hy18x130 hHeld ?rest18x130
                      case hi18x130 => ((try simp only [List.getElem?_toArray, List.getElem?_cons_succ, List.getElem?_cons_zero]); (try rfl))
                      case hq18x130 => exact fun _ _ _ h => h
                      case hy18x130 => exact Or.inr ⟨by rfl, rfl⟩
                      try simp only [Act.put, List.setIfInBounds_toArray, List.set_cons_zero, List.set_cons_succ]
                      refine wpAnyH_take (i := 19) (oi := ?oi19x131) (v := undef) ?hi19x131 (by kernel_rfl) (by kernel_rfl) (by kernel_rfl) ?hq19x131 ?hy19x131 hHeld ?rest19x131
                      case hi19x131 => ((try simp only [List.getElem?_toArray, List.getElem?_cons_succ, List.getElem?_cons_zero]); (try rfl))
                      case hq19x131 => exact fun _ _ _ h => h
                      case hy19x131 => exact Or.inr ⟨by rfl, rfl⟩
                      try simp only [Act.put, List.setIfInBounds_toArray, List.set_cons_zero, List.set_cons_succ]
                      refine wpAnyH_take (i := 20) (oi := ?oi20x132) (v := undef) ?hi20x132 (by kernel_rfl) (by kernel_rfl) (by kernel_rfl) ?hq20x132 ?hy20x132 hHeld ?rest20x132
                      case hi20x132 => ((try simp only [List.getElem?_toArray, List.getElem?_cons_succ, List.getElem?_cons_zero]); (try rfl))
                      case hq20x132 => exact fun _ _ _ h => h
                      case hy20x132 => exact Or.inr ⟨by rfl, rfl⟩
                      try simp only [Act.put, List.setIfInBounds_toArray, List.set_cons_zero, List.set_cons_succ]
                      refine wpAnyH_take (i := 21) (oi := ?oi21x133) (v := undef) ?hi21x133 (by kernel_rfl) (by kernel_rfl) (by kernel_rfl) ?hq21x133 ?hy21x133 hHeld ?rest21x133
                      case hi21x133 => ((try simp only [List.getElem?_toArray, List.getElem?_cons_succ, List.getElem?_cons_zero]); (try rfl))
                      case hq21x133 => exact fun _ _ _ h => h
                      case hy21x133 => exact Or.inr ⟨by rfl, rfl⟩
                      try simp only [Act.put, List.setIfInBounds_toArray, List.set_cons_zero, List.set_cons_succ]
                      refine wpAnyH_take (i := 22) (oi := ?oi22x134) (v := undef) ?hi22x134 (by kernel_rfl) (by kernel_rfl) (by kernel_rfl) ?hq22x134 ?hy22x134 hHeld ?rest22x134
                      case hi22x134 => ((try simp only [List.getElem?_toArray, List.getElem?_cons_succ, List.getElem?_cons_zero]); (try rfl))
                      case hq22x134 => exact fun _ _ _ h => h
                      case hy22x134 => exact Or.inr ⟨by rfl, rfl⟩
                      try simp only [Act.put, List.setIfInBounds_toArray, List.set_cons_zero, List.set_cons_succ]
                      refine wpAnyH_take (i := 23) (oi := ?oi23x135) (v := undef) ?hi23x135 (by kernel_rfl) (by kernel_rfl) (by kernel_rfl) ?hq23x135 ?hy23x135 hHeld ?rest23x135
                      case hi23x135 => ((try simp only [List.getElem?_toArray, List.getElem?_cons_succ, List.getElem?_cons_zero]); (try rfl))
                      case hq23x135 => exact fun _ _ _ h => h
                      case hy23x135 => exact Or.inr ⟨by rfl, rfl⟩
                      try simp only [Act.put, List.setIfInBounds_toArray, List.set_cons_zero, List.set_cons_succ]
                      refine wpAnyH_take (i := 24) (oi := ?oi24x136) (v := undef) ?hi24x136 (by kernel_rfl) (by kernel_rfl) (by kernel_rfl) ?hq24x136 ?hy24x136 hHeld ?rest24x136
                      case hi24x136 => ((try simp only [List.getElem?_toArray, List.getElem?_cons_succ, List.getElem?_cons_zero]); (try rfl))
                      case hq24x136 => exact fun _ _ _ h => h
                      case hy24x136 => exact Or.inr ⟨by rfl, rfl⟩
                      try simp only [Act.put, List.setIfInBounds_toArray, List.set_cons_zero, List.set_cons_succ]
                      refine wpAnyH_take (i := 25) (oi := ?oi25x137) (v := undef) ?hi25x137 (by kernel_rfl) (by kernel_rfl) (by kernel_rfl) ?hq25x137 ?hy25x137 hHeld ?rest25x137
                      case hi25x137 => ((try simp only [List.getElem?_toArray, List.getElem?_cons_succ, List.getElem?_cons_zero]); (try rfl))
                      case hq25x137 => exact fun _ _ _ h => h
                      case hy25x137 => exact Or.inr ⟨by rfl, rfl⟩
                      try simp only [Act.put, List.setIfInBounds_toArray, List.set_cons_zero, List.set_cons_succ]
                      refine wpAnyH_take (i := 26) (oi := ?oi26x138) (v := undef) ?hi26x138 (by kernel_rfl) (by kernel_rfl) (by kernel_rfl) ?hq26x138 ?hy26x138 hHeld ?rest26x138
                      case hi26x138 => ((try simp only [List.getElem?_toArray, List.getElem?_cons_succ, List.getElem?_cons_zero]); (try rfl))
                      case hq26x138 => exact fun _ _ _ h => h
                      case hy26x138 => exact Or.inr ⟨by rfl, rfl⟩
                      try simp only [Act.put, List.setIfInBounds_toArray, List.set_cons_zero, List.set_cons_succ]
                      refine wpAnyH_take (i := 27) (oi := ?oi27x139) (v := undef) ?hi27x139 (by kernel_rfl) (by kernel_rfl) (by kernel_rfl) ?hq27x139 ?hy27x139 hHeld ?rest27x139
                      case hi27x139 => ((try simp only [List.getElem?_toArray, List.getElem?_cons_succ, List.getElem?_cons_zero]); (try rfl))
                      case hq27x139 => exact fun _ _ _ h => h
                      case hy27x139 => exact Or.inr ⟨by rfl, rfl⟩
                      try simp only [Act.put, List.setIfInBounds_toArray, List.set_cons_zero, List.set_cons_succ]
                      refine wpAnyH_take (i := 28) (oi := ?oi28x140) (v := undef) ?hi28x140 (by kernel_rfl) (by kernel_rfl) (by kernel_rfl) ?hq28x140 ?hy28x140 hHeld ?rest28x140
                      case hi28x140 => ((try simp only [List.getElem?_toArray, List.getElem?_cons_succ, List.getElem?_cons_zero]); (try rfl))
                      case hq28x140 => exact fun _ _ _ h => h
                      case hy28x140 => exact Or.inr ⟨by rfl, rfl⟩
                      try simp only [Act.put, List.setIfInBounds_toArray, List.set_cons_zero, List.set_cons_succ]
                      refine wpAnyH_take (i := 29) (oi := ?oi29x141) (v := ?v29x141) ?hi29x141 (by kernel_rfl) (by kernel_rfl) (by kernel_rfl) ?hq29x141 ?hy29x141 hHeld ?rest29x141
                      case hi29x141 => ((try simp only [List.getElem?_toArray, List.getElem?_cons_succ, List.getElem?_cons_zero]); (try rfl))
                      case hq29x141 => exact fun _ _ _ h => h
                      case hy29x141 => exact Or.inl ⟨by rfl, by intro w hSw; clear hSw; go_simp; try with_reducible rfl⟩
                      try simp only [Act.put, List.setIfInBounds_toArray, List.set_cons_zero, List.set_cons_succ]
                      refine wpAnyH_take (i := 30) (oi := ?oi30x142) (v := ?v30x142) ?hi30x142 (by kernel_rfl) (by kernel_rfl) (by kernel_rfl) ?hq30x142 ?hy30x142 hHeld ?rest30x142
                      case hi30x142 => ((try simp only [List.getElem?_toArray, List.getElem?_cons_succ, List.getElem?_cons_zero]); (try rfl))
                      case hq30x142 => exact fun _ _ _ h => h
                      case hy30x142 => exact Or.inl ⟨by rfl, by intro w hSw; clear hSw; go_simp; try with_reducible rfl⟩
                      try simp only [Act.put, List.setIfInBounds_toArray, List.set_cons_zero, List.set_cons_succ]
                      refine wpAnyH_take (i := 31) (oi := ?oi31x143) (v := ?v31x143) ?hi31x143 (by kernel_rfl) (by kernel_rfl) (by kernel_rfl) ?hq31x143 ?hy31x143 hHeld ?rest31x143
                      case hi31x143 => ((try simp only [List.getElem?_toArray, List.getElem?_cons_succ, List.getElem?_cons_zero]); (try rfl))
                      case hq31x143 => exact fun _ _ _ h => h
                      case hy31x143 => exact Or.inl ⟨by rfl, by intro w hSw; clear hSw; go_simp; try with_reducible rfl⟩
                      try simp only [Act.put, List.setIfInBounds_toArray, List.set_cons_zero, List.set_cons_succ]
                      refine wpAnyH_done (by kernel_rfl) ?_ _
                      clear hHeld
                      have Y := Lib.hid X.out.kr.kx
                      clear X
                      go_wp2_with fail
                      go_roundw
                      case rel => exact ⟨j + 1, by omega, by go_num, by rw [DD.out], Y⟩
                      case measure => simp [intOf] <;> omega
                · obtain rfl : j = nk := by omega
                  rw [FN.out]
                  clear FN
                  go_wp2_with fail
                  go_roundw
                  case rel => exact ⟨i + 1, by omega, by go_num, X3⟩
                  case measure => simp [intOf] <;> omega
            · have z1 : decide ((0 : Int) < (i : Int)) = true := decide_eq_true (by omega)
              have z2 : decide (0 < i) = true := decide_eq_true (by omega)
              obtain ⟨jj, dj, zj, cj, dd, jn⟩ := GWN z
              have jn' : (jj : Int) < (nd : Int) := by omega
              clear GWN z
              go_upto_region 30 with fail
              go_quiet (fail)
              have X6 := Lib.hid (X5.out.call (drewN_below2 (Below.refl _ _) nq))
              clear X5 c3 cj
              go_wp2_with fail
              go_loopw [16, 17] (fun bv jv wr => ∃ j : Nat, j ≤ nk ∧ jv = .int .i64 j ∧ bv = .bool (decide (twTo kp o j)) ∧ Hid (KX w xl xk (some ⟨b3, off3, none⟩) l kp dp wr)) (fun _ jv _ => nk - (intOf jv).toNat)
              case atStart => exact ⟨0, Nat.zero_le _, rfl, by rw [Z0], X6⟩
              case round =>
                obtain ⟨j, hj, rfl, rfl, X3⟩ := hrel
                clear X6 Z0
                by_cases hlt2 : j < nk
                · have j4 : (j : Int) < (nk : Int) := by omega
                  have hkj : j < kp.length := by rw [NK.out]; exact hlt2
                  have IS := twTo_succ (o := o) hkj
                  obtain ⟨b1, off1, hxl, lt1, row1⟩ := X3.out.sl.get dl
                  obtain ⟨b2, off2, hxk, lt2, row2⟩ := X3.out.sk.get hkj
                  obtain ⟨b5, off5, e5, lt5, c5⟩ := X3.out.sd.get hdi
                  have e5 := Option.some.inj e5
                  injection e5 with e51 e52 e53
                  subst e51 e52
                  rw [HD.out] at c5
                  obtain ⟨p, hp⟩ : ∃ p, kp[j]'hkj = p := ⟨_, rfl⟩
                  have X := Lib.hid ((show KD w xl xk (some ⟨b3, off3, none⟩) l kp dp b1 (off1 + d * 8) o b2 (off2 + j * 8) p b3 (off3 + i) (.int .i64 d) wr from ⟨⟨by rw [← HO.out]; exact row1 d dl, by rw [← hp]; exact row2 j hkj, lt1, lt2, X3.out⟩, c5, lt5⟩).call (Below.refl _ _).drew)
                  rw [hp] at IS
                  subst hxl hxk
                  have TW := Lib.hid (fun w' => twins_any p o w')
                  clear row1 row2 lt1 lt2 hp X3 c5 lt5 e53
                  by_cases hD : twTo kp o j
                  · have D2 : decide (twTo kp o (j + 1)) = true := decide_eq_true (IS.2 (Or.inl hD))
                    have D1 : decide (twTo kp o j) = true := decide_eq_true hD
                    obtain ⟨DJ, hDJ⟩ : ∃ D, decide (twTo kp o j) = D := ⟨_, rfl⟩
                    rw [hDJ] at D1 ⊢
                    subst D1
                    clear hDJ hD IS TW
                    go_upto_region 36 with fail
                    refine wp_region_held_drew (S := fun wx => KD w (some ⟨b1, off1, none⟩) (some ⟨b2, off2, none⟩) (some ⟨b3, off3, none⟩) l kp dp b1 (off1 + d * 8) o b2 (off2 + j * 8) p b3 (off3 + i) (.int .i64 d) wx) (by kernel_rfl) X.out (fun hHeld => ?_)
                    refine wpAnyH_take (i := 0) (oi := ?oi0x144) (v := ?v0x144) ?hi0x144 (by kernel_rfl) (by kernel_rfl) (by kernel_rfl) ?hq0x144 ?hy0x144 hHeld ?rest0x144
                    case hi0x144 => ((try simp only [List.getElem?_toArray, List.getElem?_cons_succ, List.getElem?_cons_zero]); (try rfl))
                    case hq0x144 => exact fun _ _ _ h => h
                    case hy0x144 => exact Or.inl ⟨by rfl, by intro w hSw; clear hSw; go_simp; try with_reducible rfl⟩
                    try simp only [Act.put, List.setIfInBounds_toArray, List.set_cons_zero, List.set_cons_succ]
                    refine wpAnyH_take (i := 1) (oi := ?oi1x145) (v := ?v1x145) ?hi1x145 (by kernel_rfl) (by kernel_rfl) (by kernel_rfl) ?hq1x145 ?hy1x145 hHeld ?rest1x145
                    case hi1x145 => ((try simp only [List.getElem?_toArray, List.getElem?_cons_succ, List.getElem?_cons_zero]); (try rfl))
                    case hq1x145 => exact fun _ _ _ h => h
                    case hy1x145 => exact Or.inl ⟨by rfl, by intro w hSw; clear hSw; go_simp; try with_reducible rfl⟩
                    try simp only [Act.put, List.setIfInBounds_toArray, List.set_cons_zero, List.set_cons_succ]
                    refine wpAnyH_take (i := 2) (oi := ?oi2x146) (v := undef) ?hi2x146 (by kernel_rfl) (by kernel_rfl) (by kernel_rfl) ?hq2x146 ?hy2x146 hHeld ?rest2x146
                    case hi2x146 => ((try simp only [List.getElem?_toArray, List.getElem?_cons_succ, List.getElem?_cons_zero]); (try rfl))
                    case hq2x146 => exact fun _ _ _ h => h
                    case hy2x146 => exact Or.inr ⟨by rfl, rfl⟩
                    try simp only [Act.put, List.setIfInBounds_toArray, List.set_cons_zero, List.set_cons_succ]
                    refine wpAnyH_take (i := 3) (oi := ?oi3x147) (v := undef) ?hi3x147 (by kernel_rfl) (by kernel_rfl) (by kernel_rfl) ?hq3x147 ?hy3x147 hHeld ?rest3x147
                    case hi3x147 => ((try simp only [List.getElem?_toArray, List.getElem?_cons_succ, List.getElem?_cons_zero]); (try rfl))
                    case hq3x147 => exact fun _ _ _ h => h
                    case hy3x147 => exact Or.inr ⟨by rfl, rfl⟩
                    try simp only [Act.put, List.setIfInBounds_toArray, List.set_cons_zero, List.set_cons_succ]
                    refine wpAnyH_take (i := 4) (oi := ?oi4x148) (v := undef) ?hi4x148 (by kernel_rfl) (by kernel_rfl) (by kernel_rfl) ?hq4x148 ?hy4x148 hHeld ?rest4x148
                    case hi4x148 => ((try simp only [List.getElem?_toArray, List.getElem?_cons_succ, List.getElem?_cons_zero]); (try rfl))
                    case hq4x148 => exact fun _ _ _ h => h
                    case hy4x148 => exact Or.inr ⟨by rfl, rfl⟩
                    try simp only [Act.put, List.setIfInBounds_toArray, List.set_cons_zero, List.set_cons_succ]
                    refine wpAnyH_take (i := 5) (oi := ?oi5x149) (v := undef) ?hi5x149 (by kernel_rfl) (by kernel_rfl) (by kernel_rfl) ?hq5x149 ?hy5x149 hHeld ?rest5x149
                    case hi5x149 => ((try simp only [List.getElem?_toArray, List.getElem?_cons_succ, List.getElem?_cons_zero]); (try rfl))
                    case hq5x149 => exact fun _ _ _ h => h
                    case hy5x149 => exact Or.inr ⟨by rfl, rfl⟩
                    try simp only [Act.put, List.setIfInBounds_toArray, List.set_cons_zero, List.set_cons_succ]
                    refine wpAnyH_take (i := 6) (oi := ?oi6x150) (v := undef) ?hi6x150 (by kernel_rfl) (by kernel_rfl) (by kernel_rfl) ?hq6x150 ?hy6x150 hHeld ?rest6x150
                    case hi6x150 => ((try simp only [List.getElem?_toArray, List.getElem?_cons_succ, List.getElem?_cons_zero]); (try rfl))
                    case hq6x150 => exact fun _ _ _ h => h
                    case hy6x150 => exact Or.inr ⟨by rfl, rfl⟩
                    try simp only [Act.put, List.setIfInBounds_toArray, List.set_cons_zero, List.set_cons_succ]
                    refine wpAnyH_take (i := 7) (oi := ?oi7x151) (v := undef) ?hi7x151 (by kernel_rfl) (by kernel_rfl) (by kernel_rfl) ?hq7x151 ?hy7x151 hHeld ?rest7x151
                    case hi7x151 => ((try simp only [List.getElem?_toArray, List.getElem?_cons_succ, List.getElem?_cons_zero]); (try rfl))
                    case hq7x151 => exact fun _ _ _ h => h
                    case hy7x151 => exact Or.inr ⟨by rfl, rfl⟩
                    try simp only [Act.put, List.setIfInBounds_toArray, List.set_cons_zero, List.set_cons_succ]
                    refine wpAnyH_take (i := 8) (oi := ?oi8x152) (v := undef) ?hi8x152 (by kernel_rfl) (by kernel_rfl) (by kernel_rfl) ?hq8x152 ?hy8x152 hHeld ?rest8x152
                    case hi8x152 => ((try simp only [List.getElem?_toArray, List.getElem?_cons_succ, List.getElem?_cons_zero]); (try rfl))
                    case hq8x152 => exact fun _ _ _ h => h
                    case hy8x152 => exact Or.inr ⟨by rfl, rfl⟩
                    try simp only [Act.put, List.setIfInBounds_toArray, List.set_cons_zero, List.set_cons_succ]
                    refine wpAnyH_take (i := 9) (oi := ?oi9x153) (v := undef) ?hi9x153 (by kernel_rfl) (by kernel_rfl) (by kernel_rfl) ?hq9x153 ?hy9x153 hHeld ?rest9x153
                    case hi9x153 => ((try simp only [List.getElem?_toArray, List.getElem?_cons_succ, List.getElem?_cons_zero]); (try rfl))
                    case hq9x153 => exact fun _ _ _ h => h
                    case hy9x153 => exact Or.inr ⟨by rfl, rfl⟩
                    try simp only [Act.put, List.setIfInBounds_toArray, List.set_cons_zero, List.set_cons_succ]
                    refine wpAnyH_take (i := 10) (oi := ?oi10x154) (v := undef) ?hi10x154 (by kernel_rfl) (by kernel_rfl) (by kernel_rfl) ?hq10x154 ?hy10x154 hHeld ?rest10x154
                    case hi10x154 => ((try simp only [List.getElem?_toArray, List.getElem?_cons_succ, List.getElem?_cons_zero]); (try rfl))
                    case hq10x154 => exact fun _ _ _ h => h
                    case hy10x154 => exact Or.inr ⟨by rfl, rfl⟩
                    try simp only [Act.put, List.setIfInBounds_toArray, List.set_cons_zero, List.set_cons_succ]
                    refine wpAnyH_take (i := 11) (oi := ?oi11x155) (v := undef) ?hi11x155 (by kernel_rfl) (by kernel_rfl) (by kernel_rfl) ?hq11x155 ?hy11x155 hHeld ?rest11x155
                    case hi11x155 => ((try simp only [List.getElem?_toArray, List.getElem?_cons_succ, List.getElem?_cons_zero]); (try rfl))
                    case hq11x155 => exact fun _ _ _ h => h
                    case hy11x155 => exact Or.inr ⟨by rfl, rfl⟩
                    try simp only [Act.put, List.setIfInBounds_toArray, List.set_cons_zero, List.set_cons_succ]
                    refine wpAnyH_take (i := 12) (oi := ?oi12x156) (v := undef) ?hi12x156 (by kernel_rfl) (by kernel_rfl) (by kernel_rfl) ?hq12x156 ?hy12x156 hHeld ?rest12x156
                    case hi12x156 => ((try simp only [List.getElem?_toArray, List.getElem?_cons_succ, List.getElem?_cons_zero]); (try rfl))
                    case hq12x156 => exact fun _ _ _ h => h
                    case hy12x156 => exact Or.inr ⟨by rfl, rfl⟩
                    try simp only [Act.put, List.setIfInBounds_toArray, List.set_cons_zero, List.set_cons_succ]
                    refine wpAnyH_take (i := 13) (oi := ?oi13x157) (v := undef) ?hi13x157 (by kernel_rfl) (by kernel_rfl) (by kernel_rfl) ?hq13x157 ?hy13x157 hHeld ?rest13x157
                    case hi13x157 => ((try simp only [List.getElem?_toArray, List.getElem?_cons_succ, List.getElem?_cons_zero]); (try rfl))
                    case hq13x157 => exact fun _ _ _ h => h
                    case hy13x157 => exact Or.inr ⟨by rfl, rfl⟩
                    try simp only [Act.put, List.setIfInBounds_toArray, List.set_cons_zero, List.set_cons_succ]
                    refine wpAnyH_take (i := 14) (oi := ?oi14x158) (v := undef) ?hi14x158 (by kernel_rfl) (by kernel_rfl) (by kernel_rfl) ?hq14x158 ?hy14x158 hHeld ?rest14x158
                    case hi14x158 => ((try simp only [List.getElem?_toArray, List.getElem?_cons_succ, List.getElem?_cons_zero]); (try rfl))
                    case hq14x158 => exact fun _ _ _ h => h
                    case hy14x158 => exact Or.inr ⟨by rfl, rfl⟩
                    try simp only [Act.put, List.setIfInBounds_toArray, List.set_cons_zero, List.set_cons_succ]
                    refine wpAnyH_take (i := 15) (oi := ?oi15x159) (v := undef) ?hi15x159 (by kernel_rfl) (by kernel_rfl) (by kernel_rfl) ?hq15x159 ?hy15x159 hHeld ?rest15x159
                    case hi15x159 => ((try simp only [List.getElem?_toArray, List.getElem?_cons_succ, List.getElem?_cons_zero]); (try rfl))
                    case hq15x159 => exact fun _ _ _ h => h
                    case hy15x159 => exact Or.inr ⟨by rfl, rfl⟩
                    try simp only [Act.put, List.setIfInBounds_toArray, List.set_cons_zero, List.set_cons_succ]
                    refine wpAnyH_take (i := 16) (oi := ?oi16x160) (v := undef) ?hi16x160 (by kernel_rfl) (by kernel_rfl) (by kernel_rfl) ?hq16x160 ?hy16x160 hHeld ?rest16x160
                    case hi16x160 => ((try simp only [List.getElem?_toArray, List.getElem?_cons_succ, List.getElem?_cons_zero]); (try rfl))
                    case hq16x160 => exact fun _ _ _ h => h
                    case hy16x160 => exact Or.inr ⟨by rfl, rfl⟩
                    try simp only [Act.put, List.setIfInBounds_toArray, List.set_cons_zero, List.set_cons_succ]
                    refine wpAnyH_take (i := 17) (oi := ?oi17x161) (v := undef) ?hi17x161 (by kernel_rfl) (by kernel_rfl) (by kernel_rfl) ?hq17x161 ?hy17x161 hHeld ?rest17x161
                    case hi17x161 => ((try simp only [List.getElem?_toArray, List.getElem?_cons_succ, List.getElem?_cons_zero]); (try rfl))
                    case hq17x161 => exact fun _ _ _ h => h
                    case hy17x161 => exact Or.inr ⟨by rfl, rfl⟩
                    try simp only [Act.put, List.setIfInBounds_toArray, List.set_cons_zero, List.set_cons_succ]
                    refine wpAnyH_take (i := 18) (oi := ?oi18x162) (v := undef) ?hi18x162 (by kernel_rfl) (by kernel_rfl) (by kernel_rfl) ?hq18x162 ?hy18x162 hHeld ?rest18x162
                    case hi18x162 => ((try simp only [List.getElem?_toArray, List.getElem?_cons_succ, List.getElem?_cons_zero]); (try rfl))
                    case hq18x162 => exact fun _ _ _ h => h
                    case hy18x162 => exact Or.inr ⟨by rfl, rfl⟩
                    try simp only [Act.put, List.setIfInBounds_toArray, List.set_cons_zero, List.set_cons_succ]
                    refine wpAnyH_take (i := 19) (oi := ?oi19x163) (v := undef) ?hi19x163 (by kernel_rfl) (by kernel_rfl) (by kernel_rfl) ?hq19x163 ?hy19x163 hHeld ?rest19x163
                    case hi19x163 => ((try simp only [List.getElem?_toArray, List.getElem?_cons_succ, List.getElem?_cons_zero]); (try rfl))
                    case hq19x163 => exact fun _ _ _ h => h
                    case hy19x163 => exact Or.inr ⟨by rfl, rfl⟩
                    try simp only [Act.put, List.setIfInBounds_toArray, List.set_cons_zero, List.set_cons_succ]
                    refine wpAnyH_take (i := 20) (oi := ?oi20x164) (v := undef) ?hi20x164 (by kernel_rfl) (by kernel_rfl) (by kernel_rfl) ?hq20x164 ?hy20x164 hHeld ?rest20x164
                    case hi20x164 => ((try simp only [List.getElem?_toArray, List.getElem?_cons_succ, List.getElem?_cons_zero]); (try rfl))
                    case hq20x164 => exact fun _ _ _ h => h
                    case hy20x164 => exact Or.inr ⟨by rfl, rfl⟩
                    try simp only [Act.put, List.setIfInBounds_toArray, List.set_cons_zero, List.set_cons_succ]
                    refine wpAnyH_take (i := 21) (oi := ?oi21x165) (v := undef) ?hi21x165 (by kernel_rfl) (by kernel_rfl) (by kernel_rfl) ?hq21x165 ?hy21x165 hHeld ?rest21x165
                    case hi21x165 => ((try simp only [List.getElem?_toArray, List.getElem?_cons_succ, List.getElem?_cons_zero]); (try rfl))
                    case hq21x165 => exact fun _ _ _ h => h
                    case hy21x165 => exact Or.inr ⟨by rfl, rfl⟩
                    try simp only [Act.put, List.setIfInBounds_toArray, List.set_cons_zero, List.set_cons_succ]
                    refine wpAnyH_take (i := 22) (oi := ?oi22x166) (v := undef) ?hi22x166 (by kernel_rfl) (by kernel_rfl) (by kernel_rfl) ?hq22x166 ?hy22x166 hHeld ?rest22x166
                    case hi22x166 => ((try simp only [List.getElem?_toArray, List.getElem?_cons_succ, List.getElem?_cons_zero]); (try rfl))
                    case hq22x166 => exact fun _ _ _ h => h
                    case hy22x166 => exact Or.inr ⟨by rfl, rfl⟩
                    try simp only [Act.put, List.setIfInBounds_toArray, List.set_cons_zero, List.set_cons_succ]
                    refine wpAnyH_take (i := 23) (oi := ?oi23x167) (v := undef) ?hi23x167 (by kernel_rfl) (by kernel_rfl) (by kernel_rfl) ?hq23x167 ?hy23x167 hHeld ?rest23x167
                    case hi23x167 => ((try simp only [List.getElem?_toArray, List.getElem?_cons_succ, List.getElem?_cons_zero]); (try rfl))
                    case hq23x167 => exact fun _ _ _ h => h
                    case hy23x167 => exact Or.inr ⟨by rfl, rfl⟩
                    try simp only [Act.put, List.setIfInBounds_toArray, List.set_cons_zero, List.set_cons_succ]
                    refine wpAnyH_take (i := 24) (oi := ?oi24x168) (v := undef) ?hi24x168 (by kernel_rfl) (by kernel_rfl) (by kernel_rfl) ?hq24x168 ?hy24x168 hHeld ?rest24x168
                    case hi24x168 => ((try simp only [List.getElem?_toArray, List.getElem?_cons_succ, List.getElem?_cons_zero]); (try rfl))
                    case hq24x168 => exact fun _ _ _ h => h
                    case hy24x168 => exact Or.inr ⟨by rfl, rfl⟩
                    try simp only [Act.put, List.setIfInBounds_toArray, List.set_cons_zero, List.set_cons_succ]
                    refine wpAnyH_take (i := 25) (oi := ?oi25x169) (v := undef) ?hi25x169 (by kernel_rfl) (by kernel_rfl) (by kernel_rfl) ?hq25x169 ?hy25x169 hHeld ?rest25x169
                    case hi25x169 => ((try simp only [List.getElem?_toArray, List.getElem?_cons_succ, List.getElem?_cons_zero]); (try rfl))
                    case hq25x169 => exact fun _ _ _ h => h
                    case hy25x169 => exact Or.inr ⟨by rfl, rfl⟩
                    try simp only [Act.put, List.setIfInBounds_toArray, List.set_cons_zero, List.set_cons_succ]
                    refine wpAnyH_take (i := 26) (oi := ?oi26x170) (v := undef) ?hi26x170 (by kernel_rfl) (by kernel_rfl) (by kernel_rfl) ?hq26x170 ?hy26x170 hHeld ?rest26x170
                    case hi26x170 => ((try simp only [List.getElem?_toArray, List.getElem?_cons_succ, List.getElem?_cons_zero]); (try rfl))
                    case hq26x170 => exact fun _ _ _ h => h
                    case hy26x170 => exact Or.inr ⟨by rfl, rfl⟩
                    try simp only [Act.put, List.setIfInBounds_toArray, List.set_cons_zero, List.set_cons_succ]
                    refine wpAnyH_take (i := 27) (oi := ?oi27x171) (v := undef) ?hi27x171 (by kernel_rfl) (by kernel_rfl) (by kernel_rfl) ?hq27x171 ?hy27x171 hHeld ?rest27x171
                    case hi27x171 => ((try simp only [List.getElem?_toArray, List.getElem?_cons_succ, List.getElem?_cons_zero]); (try rfl))
                    case hq27x171 => exact fun _ _ _ h => h
                    case hy27x171 => exact Or.inr ⟨by rfl, rfl⟩
                    try simp only [Act.put, List.setIfInBounds_toArray, List.set_cons_zero, List.set_cons_succ]
                    refine wpAnyH_take (i := 28) (oi := ?oi28x172) (v := undef) ?hi28x172 (by kernel_rfl) (by kernel_rfl) (by kernel_rfl) ?hq28x172 ?hy28x172 hHeld ?rest28x172
                    case hi28x172 => ((try simp only [List.getElem?_toArray, List.getElem?_cons_succ, List.getElem?_cons_zero]); (try rfl))
                    case hq28x172 => exact fun _ _ _ h => h
                    case hy28x172 => exact Or.inr ⟨by rfl, rfl⟩
                    try simp only [Act.put, List.setIfInBounds_toArray, List.set_cons_zero, List.set_cons_succ]
                    refine wpAnyH_take (i := 29) (oi := ?oi29x173) (v := undef) ?hi29x173 (by kernel_rfl) (by kernel_rfl) (by kernel_rfl) ?hq29x173 ?hy29x173 hHeld ?rest29x173
                    case hi29x173 => ((try simp only [List.getElem?_toArray, List.getElem?_cons_succ, List.getElem?_cons_zero]); (try rfl))
                    case hq29x173 => exact fun _ _ _ h => h
                    case hy29x173 => exact Or.inr ⟨by rfl, rfl⟩
                    try simp only [Act.put, List.setIfInBounds_toArray, List.set_cons_zero, List.set_cons_succ]
                    refine wpAnyH_take (i := 30) (oi := ?oi30x174) (v := ?v30x174) ?hi30x174 (by kernel_rfl) (by kernel_rfl) (by kernel_rfl) ?hq30x174 ?hy30x174 hHeld ?rest30x174
                    case hi30x174 => ((try simp only [List.getElem?_toArray, List.getElem?_cons_succ, List.getElem?_cons_zero]); (try rfl))
                    case hq30x174 => exact fun _ _ _ h => h
                    case hy30x174 => exact Or.inl ⟨by rfl, by intro w hSw; clear hSw; go_simp; try with_reducible rfl⟩
                    try simp only [Act.put, List.setIfInBounds_toArray, List.set_cons_zero, List.set_cons_succ]
                    refine wpAnyH_take (i := 31) (oi := ?oi31x175) (v := ?v31x175) ?hi31x175 (by kernel_rfl) (by kernel_rfl) (by kernel_rfl) ?hq31x175 ?hy31x175 hHeld ?rest31x175
                    case hi31x175 => ((try simp only [List.getElem?_toArray, List.getElem?_cons_succ, List.getElem?_cons_zero]); (try rfl))
                    case hq31x175 => exact fun _ _ _ h => h
                    case hy31x175 => exact Or.inl ⟨by rfl, by intro w hSw; clear hSw; go_simp; try with_reducible rfl⟩
                    try simp only [Act.put, List.setIfInBounds_toArray, List.set_cons_zero, List.set_cons_succ]
                    refine wpAnyH_done (by kernel_rfl) ?_ _
                    clear hHeld
                    have Y := Lib.hid X.out.kr.kx
                    clear X
                    go_wp2_with fail
                    go_roundw
                    case rel => exact ⟨j + 1, by omega, by go_num, by rw [D2], Y⟩
                    case measure => simp [intOf] <;> omega
                  · have D1 : decide (twTo kp o j) = false := decide_eq_false hD
                    obtain ⟨DJ, hDJ⟩ : ∃ D, decide (twTo kp o j) = D := ⟨_, rfl⟩
                    rw [hDJ] at D1 ⊢
                    subst D1
                    clear hDJ
                    by_cases e1 : kyOf p = kyOf o
                    · rw [decide_eq_true e1] at TW
                      have D2 : decide (p.sg ≤ o.sg) = decide (twTo kp o (j + 1)) := decide_eq_decide.2 ⟨fun h => IS.2 (Or.inr ⟨e1, h⟩), fun h => ((IS.1 h).resolve_left hD).2⟩
                      have DD := Lib.hid D2
                      clear hD IS e1 D2
                      go_upto_region 36 with fail
                      refine wp_region_held_drew (S := fun wx => KD w (some ⟨b1, off1, none⟩) (some ⟨b2, off2, none⟩) (some ⟨b3, off3, none⟩) l kp dp b1 (off1 + d * 8) o b2 (off2 + j * 8) p b3 (off3 + i) (.int .i64 d) wx) (by kernel_rfl) X.out (fun hHeld => ?_)
                      refine wpAnyH_take (i := 0) (oi := ?oi0x176) (v := ?v0x176) ?hi0x176 (by kernel_rfl) (by kernel_rfl) (by kernel_rfl) ?hq0x176 ?hy0x176 hHeld ?rest0x176
                      case hi0x176 => ((try simp only [List.getElem?_toArray, List.getElem?_cons_succ, List.getElem?_cons_zero]); (try rfl))
                      case hq0x176 => exact fun _ _ _ h => h
                      case hy0x176 => exact Or.inl ⟨by rfl, by intro w hSw; clear hSw; go_simp; try with_reducible rfl⟩
                      try simp only [Act.put, List.setIfInBounds_toArray, List.set_cons_zero, List.set_cons_succ]
                      refine wpAnyH_take (i := 1) (oi := ?oi1x177) (v := ?v1x177) ?hi1x177 (by kernel_rfl) (by kernel_rfl) (by kernel_rfl) ?hq1x177 ?hy1x177 hHeld ?rest1x177
                      case hi1x177 => ((try simp only [List.getElem?_toArray, List.getElem?_cons_succ, List.getElem?_cons_zero]); (try rfl))
                      case hq1x177 => exact fun _ _ _ h => h
                      case hy1x177 => exact Or.inl ⟨by rfl, by intro w hSw; clear hSw; go_simp; try with_reducible rfl⟩
                      try simp only [Act.put, List.setIfInBounds_toArray, List.set_cons_zero, List.set_cons_succ]
                      refine wpAnyH_take (i := 2) (oi := ?oi2x178) (v := ?v2x178) ?hi2x178 (by kernel_rfl) (by kernel_rfl) (by kernel_rfl) ?hq2x178 ?hy2x178 hHeld ?rest2x178
                      case hi2x178 => ((try simp only [List.getElem?_toArray, List.getElem?_cons_succ, List.getElem?_cons_zero]); (try rfl))
                      case hq2x178 => exact fun _ _ _ h => h
                      case hy2x178 => exact Or.inl ⟨by rfl, by intro w hSw; clear hSw; go_simp; try with_reducible rfl⟩
                      try simp only [Act.put, List.setIfInBounds_toArray, List.set_cons_zero, List.set_cons_succ]
                      refine wpAnyH_take (i := 3) (oi := ?oi3x179) (v := ?v3x179) ?hi3x179 (by kernel_rfl) (by kernel_rfl) (by kernel_rfl) ?hq3x179 ?hy3x179 hHeld ?rest3x179
                      case hi3x179 => ((try simp only [List.getElem?_toArray, List.getElem?_cons_succ, List.getElem?_cons_zero]); (try rfl))
                      case hq3x179 => exact fun _ _ _ h => h
                      case hy3x179 => exact Or.inl ⟨by rfl, by intro w hSw; clear hSw; go_simp; try with_reducible rfl⟩
                      try simp only [Act.put, List.setIfInBounds_toArray, List.set_cons_zero, List.set_cons_succ]
                      refine wpAnyH_take (i := 4) (oi := ?oi4x180) (v := ?v4x180) ?hi4x180 (by kernel_rfl) (by kernel_rfl) (by kernel_rfl) ?hq4x180 ?hy4x180 hHeld ?rest4x180
                      case hi4x180 => ((try simp only [List.getElem?_toArray, List.getElem?_cons_succ, List.getElem?_cons_zero]); (try rfl))
                      case hq4x180 => exact fun _ _ _ h => h
                      case hy4x180 => exact Or.inl ⟨by rfl, by intro w hSw; clear hSw; go_simp; try with_reducible rfl⟩
                      try simp only [Act.put, List.setIfInBounds_toArray, List.set_cons_zero, List.set_cons_succ]
                      refine wpAnyH_take (i := 5) (oi := ?oi5x181) (v := ?v5x181) ?hi5x181 (by kernel_rfl) (by kernel_rfl) (by kernel_rfl) ?hq5x181 ?hy5x181 hHeld ?rest5x181
                      case hi5x181 => ((try simp only [List.getElem?_toArray, List.getElem?_cons_succ, List.getElem?_cons_zero]); (try rfl))
                      case hq5x181 => exact fun _ _ _ h => h
                      case hy5x181 =>
                        refine' yieldsIf_load_mid ?_ 33 (.tmp 182) ?_ b2 (off2 + j * 8) ?_ (obsC p) _ ?_ Tryz.underlying33 ?_ info8
                        · rfl
                        · rfl
                        · rfl
                        · exact fun _ h => h.kr.r2
                        · rfl
                      try simp only [Act.put, List.setIfInBounds_toArray, List.set_cons_zero, List.set_cons_succ]
                      refine wpAnyH_take (i := 6) (oi := ?oi6x182) (v := ?v6x182) ?hi6x182 (by kernel_rfl) (by kernel_rfl) (by kernel_rfl) ?hq6x182 ?hy6x182 hHeld ?rest6x182
                      case hi6x182 => ((try simp only [List.getElem?_toArray, List.getElem?_cons_succ, List.getElem?_cons_zero]); (try rfl))
                      case hq6x182 => exact fun _ _ _ h => h
                      case hy6x182 => exact Or.inl ⟨by rfl, by intro w hSw; clear hSw; go_simp; try with_reducible rfl⟩
                      try simp only [Act.put, List.setIfInBounds_toArray, List.set_cons_zero, List.set_cons_succ]
                      refine wpAnyH_take (i := 7) (oi := ?oi7x183) (v := ?v7x183) ?hi7x183 (by kernel_rfl) (by kernel_rfl) (by kernel_rfl) ?hq7x183 ?hy7x183 hHeld ?rest7x183
                      case hi7x183 => ((try simp only [List.getElem?_toArray, List.getElem?_cons_succ, List.getElem?_cons_zero]); (try rfl))
                      case hq7x183 => exact fun _ _ _ h => h
                      case hy7x183 => exact Or.inl ⟨by rfl, by intro w hSw; clear hSw; go_simp; try with_reducible rfl⟩
                      try simp only [Act.put, List.setIfInBounds_toArray, List.set_cons_zero, List.set_cons_succ]
                      refine wpAnyH_take (i := 8) (oi := ?oi8x184) (v := ?v8x184) ?hi8x184 (by kernel_rfl) (by kernel_rfl) (by kernel_rfl) ?hq8x184 ?hy8x184 hHeld ?rest8x184
                      case hi8x184 => ((try simp only [List.getElem?_toArray, List.getElem?_cons_succ, List.getElem?_cons_zero]); (try rfl))
                      case hq8x184 => exact fun _ _ _ h => h
                      case hy8x184 => exact Or.inl ⟨by rfl, by intro w hSw; clear hSw; go_simp; try with_reducible rfl⟩
                      try simp only [Act.put, List.setIfInBounds_toArray, List.set_cons_zero, List.set_cons_succ]
                      refine wpAnyH_take (i := 9) (oi := ?oi9x185) (v := ?v9x185) ?hi9x185 (by kernel_rfl) (by kernel_rfl) (by kernel_rfl) ?hq9x185 ?hy9x185 hHeld ?rest9x185
                      case hi9x185 => ((try simp only [List.getElem?_toArray, List.getElem?_cons_succ, List.getElem?_cons_zero]); (try rfl))
                      case hq9x185 => exact fun _ _ _ h => h
                      case hy9x185 => exact Or.inl ⟨by rfl, by intro w hSw; clear hSw; go_simp; try with_reducible rfl⟩
                      try simp only [Act.put, List.setIfInBounds_toArray, List.set_cons_zero, List.set_cons_succ]
                      refine wpAnyH_take (i := 10) (oi := ?oi10x186) (v := ?v10x186) ?hi10x186 (by kernel_rfl) (by kernel_rfl) (by kernel_rfl) ?hq10x186 ?hy10x186 hHeld ?rest10x186
                      case hi10x186 => ((try simp only [List.getElem?_toArray, List.getElem?_cons_succ, List.getElem?_cons_zero]); (try rfl))
                      case hq10x186 => exact fun _ _ _ h => h
                      case hy10x186 => exact Or.inl ⟨by rfl, by intro w hSw; have q := hSw.c3; clear hSw; go_simp; try with_reducible rfl⟩
                      try simp only [Act.put, List.setIfInBounds_toArray, List.set_cons_zero, List.set_cons_succ]
                      refine wpAnyH_take (i := 11) (oi := ?oi11x187) (v := ?v11x187) ?hi11x187 (by kernel_rfl) (by kernel_rfl) (by kernel_rfl) ?hq11x187 ?hy11x187 hHeld ?rest11x187
                      case hi11x187 => ((try simp only [List.getElem?_toArray, List.getElem?_cons_succ, List.getElem?_cons_zero]); (try rfl))
                      case hq11x187 => exact fun _ _ _ h => h
                      case hy11x187 => exact Or.inl ⟨by rfl, by intro w hSw; clear hSw; go_simp; try with_reducible rfl⟩
                      try simp only [Act.put, List.setIfInBounds_toArray, List.set_cons_zero, List.set_cons_succ]
                      refine wpAnyH_take (i := 12) (oi := ?oi12x188) (v := ?v12x188) ?hi12x188 (by kernel_rfl) (by kernel_rfl) (by kernel_rfl) ?hq12x188 ?hy12x188 hHeld ?rest12x188
                      case hi12x188 => ((try simp only [List.getElem?_toArray, List.getElem?_cons_succ, List.getElem?_cons_zero]); (try rfl))
                      case hq12x188 => exact fun _ _ _ h => h
                      case hy12x188 =>
                        refine' yieldsIf_load_mid ?_ 33 (.tmp 189) ?_ b1 (off1 + d * 8) ?_ (obsC o) _ ?_ Tryz.underlying33 ?_ info8
                        · rfl
                        · rfl
                        · rfl
                        · exact fun _ h => h.kr.r1
                        · rfl
                      try simp only [Act.put, List.setIfInBounds_toArray, List.set_cons_zero, List.set_cons_succ]
                      refine wpAnyH_ready (rs := [13]) (by kernel_rfl) (by simp) ?_
                      refine AllReadyH.cons rfl (fun K' hK => ?_) AllReadyH.nil
                      clear hHeld
                      go_simp
                      refine (TW.out _).mono ?_
                      rintro e wx ⟨rfl, hb⟩
                      replace X := Lib.hid (X.out.call hb)
                      clear hb TW
                      refine hK.out _ _ X.out (fun hHeld => ?_)
                      clear hK
                      try simp only [Act.put, List.setIfInBounds_toArray, List.set_cons_zero, List.set_cons_succ]
                      refine wpAnyH_take (i := 14) (oi := ?oi14x189) (v := ?v14x189) ?hi14x189 (by kernel_rfl) (by kernel_rfl) (by kernel_rfl) ?hq14x189 ?hy14x189 hHeld ?rest14x189
                      case hi14x189 => ((try simp only [List.getElem?_toArray, List.getElem?_cons_succ, List.getElem?_cons_zero]); (try rfl))
                      case hq14x189 => exact fun _ _ _ h => h
                      case hy14x189 => exact Or.inl ⟨by rfl, by intro w hSw; clear hSw; go_simp; try with_reducible rfl⟩
                      try simp only [Act.put, List.setIfInBounds_toArray, List.set_cons_zero, List.set_cons_succ]
                      refine wpAnyH_take (i := 15) (oi := ?oi15x190) (v := ?v15x190) ?hi15x190 (by kernel_rfl) (by kernel_rfl) (by kernel_rfl) ?hq15x190 ?hy15x190 hHeld ?rest15x190
                      case hi15x190 => ((try simp only [List.getElem?_toArray, List.getElem?_cons_succ, List.getElem?_cons_zero]); (try rfl))
                      case hq15x190 => exact fun _ _ _ h => h
                      case hy15x190 => exact Or.inl ⟨by rfl, by intro w hSw; clear hSw; go_simp; try with_reducible rfl⟩
                      try simp only [Act.put, List.setIfInBounds_toArray, List.set_cons_zero, List.set_cons_succ]
                      refine wpAnyH_take (i := 16) (oi := ?oi16x191) (v := ?v16x191) ?hi16x191 (by kernel_rfl) (by kernel_rfl) (by kernel_rfl) ?hq16x191 ?hy16x191 hHeld ?rest16x191
                      case hi16x191 => ((try simp only [List.getElem?_toArray, List.getElem?_cons_succ, List.getElem?_cons_zero]); (try rfl))
                      case hq16x191 => exact fun _ _ _ h => h
                      case hy16x191 => exact Or.inl ⟨by rfl, by intro w hSw; clear hSw; go_simp; try with_reducible rfl⟩
                      try simp only [Act.put, List.setIfInBounds_toArray, List.set_cons_zero, List.set_cons_succ]
                      refine wpAnyH_take (i := 17) (oi := ?oi17x192) (v := ?v17x192) ?hi17x192 (by kernel_rfl) (by kernel_rfl) (by kernel_rfl) ?hq17x192 ?hy17x192 hHeld ?rest17x192
                      case hi17x192 => ((try simp only [List.getElem?_toArray, List.getElem?_cons_succ, List.getElem?_cons_zero]); (try rfl))
                      case hq17x192 => exact fun _ _ _ h => h
                      case hy17x192 => exact Or.inl ⟨by rfl, by intro w hSw; clear hSw; go_simp; try with_reducible rfl⟩
                      try simp only [Act.put, List.setIfInBounds_toArray, List.set_cons_zero, List.set_cons_succ]
                      refine wpAnyH_take (i := 18) (oi := ?oi18x193) (v := ?v18x193) ?hi18x193 (by kernel_rfl) (by kernel_rfl) (by kernel_rfl) ?hq18x193 ?hy18x193 hHeld ?rest18x193
                      case hi18x193 => ((try simp only [List.getElem?_toArray, List.getElem?_cons_succ, List.getElem?_cons_zero]); (try rfl))
                      case hq18x193 => exact fun _ _ _ h => h
                      case hy18x193 => exact Or.inl ⟨by rfl, by intro w hSw; clear hSw; go_simp; try with_reducible rfl⟩
                      try simp only [Act.put, List.setIfInBounds_toArray, List.set_cons_zero, List.set_cons_succ]
                      refine wpAnyH_take (i := 19) (oi := ?oi19x194) (v := ?v19x194) ?hi19x194 (by kernel_rfl) (by kernel_rfl) (by kernel_rfl) ?hq19x194 ?hy19x194 hHeld ?rest19x194
                      case hi19x194 => ((try simp only [List.getElem?_toArray, List.getElem?_cons_succ, List.getElem?_cons_zero]); (try rfl))
                      case hq19x194 => exact fun _ _ _ h => h
                      case hy19x194 => exact Or.inl ⟨by rfl, by intro w hSw; have q := hSw.kr.r2 5 _ rfl; clear hSw; go_simp; try with_reducible rfl⟩
                      try simp only [Act.put, List.setIfInBounds_toArray, List.set_cons_zero, List.set_cons_succ]
                      refine wpAnyH_take (i := 20) (oi := ?oi20x195) (v := ?v20x195) ?hi20x195 (by kernel_rfl) (by kernel_rfl) (by kernel_rfl) ?hq20x195 ?hy20x195 hHeld ?rest20x195
                      case hi20x195 => ((try simp only [List.getElem?_toArray, List.getElem?_cons_succ, List.getElem?_cons_zero]); (try rfl))
                      case hq20x195 => exact fun _ _ _ h => h
                      case hy20x195 => exact Or.inl ⟨by rfl, by intro w hSw; clear hSw; go_simp; try with_reducible rfl⟩
                      try simp only [Act.put, List.setIfInBounds_toArray, List.set_cons_zero, List.set_cons_succ]
                      refine wpAnyH_take (i := 21) (oi := ?oi21x196) (v := ?v21x196) ?hi21x196 (by kernel_rfl) (by kernel_rfl) (by kernel_rfl) ?hq21x196 ?hy21x196 hHeld ?rest21x196
                      case hi21x196 => ((try simp only [List.getElem?_toArray, List.getElem?_cons_succ, List.getElem?_cons_zero]); (try rfl))
                      case hq21x196 => exact fun _ _ _ h => h
                      case hy21x196 => exact Or.inl ⟨by rfl, by intro w hSw; clear hSw; go_simp; try with_reducible rfl⟩
                      try simp only [Act.put, List.setIfInBounds_toArray, List.set_cons_zero, List.set_cons_succ]
                      refine wpAnyH_take (i := 22) (oi := ?oi22x197) (v := ?v22x197) ?hi22x197 (by kernel_rfl) (by kernel_rfl) (by kernel_rfl) ?hq22x197 ?hy22x197 hHeld ?rest22x197
                      case hi22x197 => ((try simp only [List.getElem?_toArray, List.getElem?_cons_succ, List.getElem?_cons_zero]); (try rfl))
                      case hq22x197 => exact fun _ _ _ h => h
                      case hy22x197 => exact Or.inl ⟨by rfl, by intro w hSw; clear hSw; go_simp; try with_reducible rfl⟩
                      try simp only [Act.put, List.setIfInBounds_toArray, List.set_cons_zero, List.set_cons_succ]
                      refine wpAnyH_take (i := 23) (oi := ?oi23x198) (v := ?v23x198) ?hi23x198 (by kernel_rfl) (by kernel_rfl) (by kernel_rfl) ?hq23x198 ?hy23x198 hHeld ?rest23x198
                      case hi23x198 => ((try simp only [List.getElem?_toArray, List.getElem?_cons_succ, List.getElem?_cons_zero]); (try rfl))
                      case hq23x198 => exact fun _ _ _ h => h
                      case hy23x198 => exact Or.inl ⟨by rfl, by intro w hSw; clear hSw; go_simp; try with_reducible rfl⟩
                      try simp only [Act.put, List.setIfInBounds_toArray, List.set_cons_zero, List.set_cons_succ]
                      refine wpAnyH_take (i := 24) (oi := ?oi24x199) (v := ?v24x199) ?hi24x199 (by kernel_rfl) (by kernel_rfl) (by kernel_rfl) ?hq24x199 ?hy24x199 hHeld ?rest24x199
                      case hi24x199 => ((try simp only [List.getElem?_toArray, List.getElem?_cons_succ, List.getElem?_cons_zero]); (try rfl))
                      case hq24x199 => exact fun _ _ _ h => h
                      case hy24x199 => exact Or.inl ⟨by rfl, by intro w hSw; have q := hSw.c3; clear hSw; go_simp; try with_reducible rfl⟩
                      try simp only [Act.put, List.setIfInBounds_toArray, List.set_cons_zero, List.set_cons_succ]
                      refine wpAnyH_take (i := 25) (oi := ?oi25x200) (v := ?v25x200) ?hi25x200 (by kernel_rfl) (by kernel_rfl) (by kernel_rfl) ?hq25x200 ?hy25x200 hHeld ?rest25x200
                      case hi25x200 => ((try simp only [List.getElem?_toArray, List.getElem?_cons_succ, List.getElem?_cons_zero]); (try rfl))
                      case hq25x200 => exact fun _ _ _ h => h
                      case hy25x200 => exact Or.inl ⟨by rfl, by intro w hSw; clear hSw; go_simp; try with_reducible rfl⟩
                      try simp only [Act.put, List.setIfInBounds_toArray, List.set_cons_zero, List.set_cons_succ]
                      refine wpAnyH_take (i := 26) (oi := ?oi26x201) (v := ?v26x201) ?hi26x201 (by kernel_rfl) (by kernel_rfl) (by kernel_rfl) ?hq26x201 ?hy26x201 hHeld ?rest26x201
                      case hi26x201 => ((try simp only [List.getElem?_toArray, List.getElem?_cons_succ, List.getElem?_cons_zero]); (try rfl))
                      case hq26x201 => exact fun _ _ _ h => h
                      case hy26x201 => exact Or.inl ⟨by rfl, by intro w hSw; clear hSw; go_simp; try with_reducible rfl⟩
                      try simp only [Act.put, List.setIfInBounds_toArray, List.set_cons_zero, List.set_cons_succ]
                      refine wpAnyH_take (i := 27) (oi := ?oi27x202) (v := ?v27x202) ?hi27x202 (by kernel_rfl) (by kernel_rfl) (by kernel_rfl) ?hq27x202 ?hy27x202 hHeld ?rest27x202
                      case hi27x202 => ((try simp only [List.getElem?_toArray, List.getElem?_cons_succ, List.getElem?_cons_zero]); (try rfl))
                      case hq27x202 => exact fun _ _ _ h => h
                      case hy27x202 => exact Or.inl ⟨by rfl, by intro w hSw; have q := hSw.kr.r1 5 _ rfl; clear hSw; go_simp; try with_reducible rfl⟩
                      try simp only [Act.put, List.setIfInBounds_toArray, List.set_cons_zero, List.set_cons_succ]
                      refine wpAnyH_take (i := 28) (oi := ?oi28x203) (v := ?v28x203) ?hi28x203 (by kernel_rfl) (by kernel_rfl) (by kernel_rfl) ?hq28x203 ?hy28x203 hHeld ?rest28x203
                      case hi28x203 => ((try simp only [List.getElem?_toArray, List.getElem?_cons_succ, List.getElem?_cons_zero]); (try rfl))
                      case hq28x203 => exact fun _ _ _ h => h
                      case hy28x203 => exact Or.inl ⟨by rfl, by intro w hSw; clear hSw; go_simp; try with_reducible rfl⟩
                      try simp only [Act.put, List.setIfInBounds_toArray, List.set_cons_zero, List.set_cons_succ]
                      refine wpAnyH_take (i := 29) (oi := ?oi29x204) (v := ?v29x204) ?hi29x204 (by kernel_rfl) (by kernel_rfl) (by kernel_rfl) ?hq29x204 ?hy29x204 hHeld ?rest29x204
                      case hi29x204 => ((try simp only [List.getElem?_toArray, List.getElem?_cons_succ, List.getElem?_cons_zero]); (try rfl))
                      case hq29x204 => exact fun _ _ _ h => h
                      case hy29x204 => exact Or.inl ⟨by rfl, by intro w hSw; clear hSw; go_simp; try with_reducible rfl⟩
                      try simp only [Act.put, List.setIfInBounds_toArray, List.set_cons_zero, List.set_cons_succ]
                      refine wpAnyH_take (i := 30) (oi := ?oi30x205) (v := ?v30x205) ?hi30x205 (by kernel_rfl) (by kernel_rfl) (by kernel_rfl) ?hq30x205 ?hy30x205 hHeld ?rest30x205
                      case hi30x205 => ((try simp only [List.getElem?_toArray, List.getElem?_cons_succ, List.getElem?_cons_zero]); (try rfl))
                      case hq30x205 => exact fun _ _ _ h => h
                      case hy30x205 => exact Or.inl ⟨by rfl, by intro w hSw; clear hSw; go_simp; try with_reducible rfl⟩
                      try simp only [Act.put, List.setIfInBounds_toArray, List.set_cons_zero, List.set_cons_succ]
                      refine wpAnyH_take (i := 31) (oi := ?oi31x206) (v := ?v31x206) ?hi31x206 (by kernel_rfl) (by kernel_rfl) (by kernel_rfl) ?hq31x206 ?hy31x206 hHeld ?rest31x206
                      case hi31x206 => ((try simp only [List.getElem?_toArray, List.getElem?_cons_succ, List.getElem?_cons_zero]); (try rfl))
                      case hq31x206 => exact fun _ _ _ h => h
                      case hy31x206 => exact Or.inl ⟨by rfl, by intro w hSw; clear hSw; go_simp; try with_reducible rfl⟩
                      try simp only [Act.put, List.setIfInBounds_toArray, List.set_cons_zero, List.set_cons_succ]
                      refine wpAnyH_done (by kernel_rfl) ?_ _
                      clear hHeld
                      have Y := Lib.hid X.out.kr.kx
                      clear X
                      go_wp2_with fail
                      go_roundw
                      case rel => exact ⟨j + 1, by omega, by go_num, by rw [← DD.out], Y⟩
                      case measure => simp [intOf] <;> omega
                    · rw [decide_eq_false e1] at TW
                      have DD : Hid (decide (twTo kp o (j + 1)) = false) := Lib.hid (decide_eq_false (fun h => e1 ((IS.1 h).resolve_left hD).1))
                      clear hD IS e1
                      go_upto_region 36 with fail
                      refine wp_region_held_drew (S := fun wx => KD w (some ⟨b1, off1, none⟩) (some ⟨b2, off2, none⟩) (some ⟨b3, off3, none⟩) l kp dp b1 (off1 + d * 8) o b2 (off2 + j * 8) p b3 (off3 + i) (.int .i64 d) wx) (by kernel_rfl) X.out (fun hHeld => ?_)
                      refine wpAnyH_take (i := 0) (oi := ?oi0x207) (v := ?v0x207) ?hi0x207 (by kernel_rfl) (by kernel_rfl) (by kernel_rfl) ?hq0x207 ?hy0x207 hHeld ?rest0x207
                      case hi0x207 => ((try simp only [List.getElem?_toArray, List.getElem?_cons_succ, List.getElem?_cons_zero]); (try rfl))
                      case hq0x207 => exact fun _ _ _ h => h
                      case hy0x207 => exact Or.inl ⟨by rfl, by intro w hSw; clear hSw; go_simp; try with_reducible rfl⟩
                      try simp only [Act.put, List.setIfInBounds_toArray, List.set_cons_zero, List.set_cons_succ]
                      refine wpAnyH_take (i := 1) (oi := ?oi1x208) (v := ?v1x208) ?hi1x208 (by kernel_rfl) (by kernel_rfl) (by kernel_rfl) ?hq1x208 ?hy1x208 hHeld ?rest1x208
                      case hi1x208 => ((try simp only [List.getElem?_toArray, List.getElem?_cons_succ, List.getElem?_cons_zero]); (try rfl))
                      case hq1x208 => exact fun _ _ _ h => h
                      case hy1x208 => exact Or.inl ⟨by rfl, by intro w hSw; clear hSw; go_simp; try with_reducible rfl⟩
                      try simp only [Act.put, List.setIfInBounds_toArray, List.set_cons_zero, List.set_cons_succ]
                      refine wpAnyH_take (i := 2) (oi := ?oi2x209) (v := ?v2x209) ?hi2x209 (by kernel_rfl) (by kernel_rfl) (by kernel_rfl) ?hq2x209 ?hy2x209 hHeld ?rest2x209
                      case hi2x209 => ((try simp only [List.getElem?_toArray, List.getElem?_cons_succ, List.getElem?_cons_zero]); (try rfl))
                      case hq2x209 => exact fun _ _ _ h => h
                      case hy2x209 => exact Or.inl ⟨by rfl, by intro w hSw; clear hSw; go_simp; try with_reducible rfl⟩
                      try simp only [Act.put, List.setIfInBounds_toArray, List.set_cons_zero, List.set_cons_succ]
                      refine wpAnyH_take (i := 3) (oi := ?oi3x210) (v := ?v3x210) ?hi3x210 (by kernel_rfl) (by kernel_rfl) (by kernel_rfl) ?hq3x210 ?hy3x210 hHeld ?rest3x210
                      case hi3x210 => ((try simp only [List.getElem?_toArray, List.getElem?_cons_succ, List.getElem?_cons_zero]); (try rfl))
                      case hq3x210 => exact fun _ _ _ h => h
                      case hy3x210 => exact Or.inl ⟨by rfl, by intro w hSw; clear hSw; go_simp; try with_reducible rfl⟩
                      try simp only [Act.put, List.setIfInBounds_toArray, List.set_cons_zero, List.set_cons_succ]
                      refine wpAnyH_take (i := 4) (oi := ?oi4x211) (v := ?v4x211) ?hi4x211 (by kernel_rfl) (by kernel_rfl) (by kernel_rfl) ?hq4x211 ?hy4x211 hHeld ?rest4x211
                      case hi4x211 => ((try simp only [List.getElem?_toArray, List.getElem?_cons_succ, List.getElem?_cons_zero]); (try rfl))
                      case hq4x211 => exact fun _ _ _ h => h
                      case hy4x211 => exact Or.inl ⟨by rfl, by intro w hSw; clear hSw; go_simp; try with_reducible rfl⟩
                      try simp only [Act.put, List.setIfInBounds_toArray, List.set_cons_zero, List.set_cons_succ]
                      refine wpAnyH_take (i := 5) (oi := ?oi5x212) (v := ?v5x212) ?hi5x212 (by kernel_rfl) (by kernel_rfl) (by kernel_rfl) ?hq5x212 ?hy5x212 hHeld ?rest5x212
                      case hi5x212 => ((try simp only [List.getElem?_toArray, List.getElem?_cons_succ, List.getElem?_cons_zero]); (try rfl))
                      case hq5x212 => exact fun _ _ _ h => h
                      case hy5x212 =>
                        refine' yieldsIf_load_mid ?_ 33 (.tmp 182) ?_ b2 (off2 + j * 8) ?_ (obsC p) _ ?_ Tryz.underlying33 ?_ info8
                        · rfl
                        · rfl
                        · rfl
                        · exact fun _ h => h.kr.r2
                        · rfl
                      try simp only [Act.put, List.setIfInBounds_toArray, List.set_cons_zero, List.set_cons_succ]
                      refine wpAnyH_take (i := 6) (oi := ?oi6x213) (v := ?v6x213) ?hi6x213 (by kernel_rfl) (by kernel_rfl) (by kernel_rfl) ?hq6x213 ?hy6x213 hHeld ?rest6x213
                      case hi6x213 => ((try simp only [List.getElem?_toArray, List.getElem?_cons_succ, List.getElem?_cons_zero]); (try rfl))
                      case hq6x213 => exact fun _ _ _ h => h
                      case hy6x213 => exact Or.inl ⟨by rfl, by intro w hSw; clear hSw; go_simp; try with_reducible rfl⟩
                      try simp only [Act.put, List.setIfInBounds_toArray, List.set_cons_zero, List.set_cons_succ]
                      refine wpAnyH_take (i := 7) (oi := ?oi7x214) (v := ?v7x214) ?hi7x214 (by kernel_rfl) (by kernel_rfl) (by kernel_rfl) ?hq7x214 ?hy7x214 hHeld ?rest7x214
                      case hi7x214 => ((try simp only [List.getElem?_toArray, List.getElem?_cons_succ, List.getElem?_cons_zero]); (try rfl))
                      case hq7x214 => exact fun _ _ _ h => h
                      case hy7x214 => exact Or.inl ⟨by rfl, by intro w hSw; clear hSw; go_simp; try with_reducible rfl⟩
                      try simp only [Act.put, List.setIfInBounds_toArray, List.set_cons_zero, List.set_cons_succ]
                      refine wpAnyH_take (i := 8) (oi := ?oi8x215) (v := ?v8x215) ?hi8x215 (by kernel_rfl) (by kernel_rfl) (by kernel_rfl) ?hq8x215 ?hy8x215 hHeld ?rest8x215
                      case hi8x215 => ((try simp only [List.getElem?_toArray, List.getElem?_cons_succ, List.getElem?_cons_zero]); (try rfl))
                      case hq8x215 => exact fun _ _ _ h => h
                      case hy8x215 => exact Or.inl ⟨by rfl, by intro w hSw; clear hSw; go_simp; try with_reducible rfl⟩
                      try simp only [Act.put, List.setIfInBounds_toArray, List.set_cons_zero, List.set_cons_succ]
                      refine wpAnyH_take (i := 9) (oi := ?oi9x216) (v := ?v9x216) ?hi9x216 (by kernel_rfl) (by kernel_rfl) (by kernel_rfl) ?hq9x216 ?hy9x216 hHeld ?rest9x216
                      case hi9x216 => ((try simp only [List.getElem?_toArray, List.getElem?_cons_succ, List.getElem?_cons_zero]); (try rfl))
                      case hq9x216 => exact fun _ _ _ h => h
                      case hy9x216 => exact Or.inl ⟨by rfl, by intro w hSw; clear hSw; go_simp; try with_reducible rfl⟩
                      try simp only [Act.put, List.setIfInBounds_toArray, List.set_cons_zero, List.set_cons_succ]
                      refine wpAnyH_take (i := 10) (oi := ?oi10x217) (v := ?v10x217) ?hi10x217 (by kernel_rfl) (by kernel_rfl) (by kernel_rfl) ?hq10x217 ?hy10x217 hHeld ?rest10x217
                      case hi10x217 => ((try simp only [List.getElem?_toArray, List.getElem?_cons_succ, List.getElem?_cons_zero]); (try rfl))
                      case hq10x217 => exact fun _ _ _ h => h
                      case hy10x217 => exact Or.inl ⟨by rfl, by intro w hSw; have q := hSw.c3; clear hSw; go_simp; try with_reducible rfl⟩
                      try simp only [Act.put, List.setIfInBounds_toArray, List.set_cons_zero, List.set_cons_succ]
                      refine wpAnyH_take (i := 11) (oi := ?oi11x218) (v := ?v11x218) ?hi11x218 (by kernel_rfl) (by kernel_rfl) (by kernel_rfl) ?hq11x218 ?hy11x218 hHeld ?rest11x218
                      case hi11x218 => ((try simp only [List.getElem?_toArray, List.getElem?_cons_succ, List.getElem?_cons_zero]); (try rfl))
                      case hq11x218 => exact fun _ _ _ h => h
                      case hy11x218 => exact Or.inl ⟨by rfl, by intro w hSw; clear hSw; go_simp; try with_reducible rfl⟩
                      try simp only [Act.put, List.setIfInBounds_toArray, List.set_cons_zero, List.set_cons_succ]
                      refine wpAnyH_take (i := 12) (oi := ?oi12x219) (v := ?v12x219) ?hi12x219 (by kernel_rfl) (by kernel_rfl) (by kernel_rfl) ?hq12x219 ?hy12x219 hHeld ?rest12x219
                      case hi12x219 => ((try simp only [List.getElem?_toArray, List.getElem?_cons_succ, List.getElem?_cons_zero]); (try rfl))
                      case hq12x219 => exact fun _ _ _ h => h
                      case hy12x219 =>
                        refine' yieldsIf_load_mid ?_ 33 (.tmp 189) ?_ b1 (off1 + d * 8) ?_ (obsC o) _ ?_ Tryz.underlying33 ?_ info8
                        · rfl
                        · rfl
                        · rfl
                        · exact fun _ h => h.kr.r1
                        · rfl
                      try simp only [Act.put, List.setIfInBounds_toArray, List.set_cons_zero, List.set_cons_succ]
                      refine wpAnyH_ready (rs := [13]) (by kernel_rfl) (by simp) ?_
                      refine AllReadyH.cons rfl (fun K' hK => ?_) AllReadyH.nil
                      clear hHeld
                      go_simp
                      refine (TW.out _).mono ?_
                      rintro e wx ⟨rfl, hb⟩
                      replace X := Lib.hid (X.out.call hb)
                      clear hb TW
                      refine hK.out _ _ X.out (fun hHeld => ?_)
                      clear hK
                      try simp only [Act.put, List.setIfInBounds_toArray, List.set_cons_zero, List.set_cons_succ]
                      refine wpAnyH_take (i := 14) (oi := ?oi14x220) (v := ?v14x220) ?hi14x220 (by kernel_rfl) (by kernel_rfl) (by kernel_rfl) ?hq14x220 ?hy14x220 hHeld ?rest14x220
                      case hi14x220 => ((try simp only [List.getElem?_toArray, List.getElem?_cons_succ, List.getElem?_cons_zero]); (try rfl))
                      case hq14x220 => exact fun _ _ _ h => h
                      case hy14x220 => exact Or.inl ⟨by rfl, by intro w hSw; clear hSw; go_simp; try with_reducible rfl⟩
                      try simp only [Act.put, List.setIfInBounds_toArray, List.set_cons_zero, List.set_cons_succ]
                      refine wpAnyH_take (i := 15) (oi := ?oi15x221) (v := undef) ?hi15x221 (by kernel_rfl) (by kernel_rfl) (by kernel_rfl) ?hq15x221 ?hy15x221 hHeld ?rest15x221
                      case hi15x221 => ((try simp only [List.getElem?_toArray, List.getElem?_cons_succ, List.getElem?_cons_zero]); (try rfl))
                      case hq15x221 => exact fun _ _ _ h => h
                      case hy15x221 => exact Or.inr ⟨by rfl, rfl⟩
                      try simp only [Act.put, List.setIfInBounds_toArray, List.set_cons_zero, List.set_cons_succ]
                      refine wpAnyH_take (i := 16) (oi := ?oi16x222) (v := undef) ?hi16x222 (by kernel_rfl) (by kernel_rfl) (by kernel_rfl) ?hq16x222 ?hy16x222 hHeld ?rest16x222
                      case hi16x222 => ((try simp only [List.getElem?_toArray, List.getElem?_cons_succ, List.getElem?_cons_zero]); (try rfl))
                      case hq16x222 => exact fun _ _ _ h => h
                      case hy16x222 => exact Or.inr ⟨by rfl, rfl⟩
                      try simp only [Act.put, List.setIfInBounds_toArray, List.set_cons_zero, List.set_cons_succ]
                      refine wpAnyH_take (i := 17) (oi := ?oi17x223) (v := undef) ?hi17x223 (by kernel_rfl) (by kernel_rfl) (by kernel_rfl) ?hq17x223 ?hy17x223 hHeld ?rest17x223
                      case hi17x223 => ((try simp only [List.getElem?_toArray, List.getElem?_cons_succ, List.getElem?_cons_zero]); (try rfl))
                      case hq17x223 => exact fun _ _ _ h => h
                      case hy17x223 => exact Or.inr ⟨by rfl, rfl⟩
                      try simp only [Act.put, List.setIfInBounds_toArray, List.set_cons_zero, List.set_cons_succ]
                      refine wpAnyH_take (i := 18) (oi := ?oi18x224) (v := undef) ?hi18x224 (by kernel_rfl) (by kernel_rfl) (by kernel_rfl) ?hq18x224 ?hy18x224 hHeld ?rest18x224
                      case hi18x224 => ((try simp only [List.getElem?_toArray, List.getElem?_cons_succ, List.getElem?_cons_zero]); (try rfl))
                      case hq18x224 => exact fun _ _ _ h => h
                      case hy18x224 => exact Or.inr ⟨by rfl, rfl⟩
                      try simp only [Act.put, List.setIfInBounds_toArray, List.set_cons_zero, List.set_cons_succ]
                      refine wpAnyH_take (i := 19) (oi := ?oi19x225) (v := undef) ?hi19x225 (by kernel_rfl) (by kernel_rfl) (by kernel_rfl) ?hq19x225 ?hy19x225 hHeld ?rest19x225
                      case hi19x225 => ((try simp only [List.getElem?_toArray, List.getElem?_cons_succ, List.getElem?_cons_zero]); (try rfl))
                      case hq19x225 => exact fun _ _ _ h => h
                      case hy19x225 => exact Or.inr ⟨by rfl, rfl⟩
                      try simp only [Act.put, List.setIfInBounds_toArray, List.set_cons_zero, List.set_cons_succ]
                      refine wpAnyH_take (i := 20) (oi := ?oi20x226) (v := undef) ?hi20x226 (by kernel_rfl) (by kernel_rfl) (by kernel_rfl) ?hq20x226 ?hy20x226 hHeld ?rest20x226
                      case hi20x226 => ((try simp only [List.getElem?_toArray, List.getElem?_cons_succ, List.getElem?_cons_zero]); (try rfl))
                      case hq20x226 => exact fun _ _ _ h => h
                      case hy20x226 => exact Or.inr ⟨by rfl, rfl⟩
                      try simp only [Act.put, List.setIfInBounds_toArray, List.set_cons_zero, List.set_cons_succ]
                      refine wpAnyH_take (i := 21) (oi := ?oi21x227) (v := undef) ?hi21x227 (by kernel_rfl) (by kernel_rfl) (by kernel_rfl) ?hq21x227 ?hy21x227 hHeld ?rest21x227
                      case hi21x227 => ((try simp only [List.getElem?_toArray, List.getElem?_cons_succ, List.getElem?_cons_zero]); (try rfl))
                      case hq21x227 => exact fun _ _ _ h => h
                      case hy21x227 => exact Or.inr ⟨by rfl, rfl⟩
                      try simp only [Act.put, List.setIfInBounds_toArray, List.set_cons_zero, List.set_cons_succ]
                      refine wpAnyH_take (i := 22) (oi := ?oi22x228) (v := undef) ?hi22x228 (by kernel_rfl) (by kernel_rfl) (by kernel_rfl) ?hq22x228 ?hy22x228 hHeld ?rest22x228
                      case hi22x228 => ((try simp only [List.getElem?_toArray, List.getElem?_cons_succ, List.getElem?_cons_zero]); (try rfl))
                      case hq22x228 => exact fun _ _ _ h => h
                      case hy22x228 => exact Or.inr ⟨by rfl, rfl⟩
                      try simp only [Act.put, List.setIfInBounds_toArray, List.set_cons_zero, List.set_cons_succ]
                      refine wpAnyH_take (i := 23) (oi := ?oi23x229) (v := undef) ?hi23x229 (by kernel_rfl) (by kernel_rfl) (by kernel_rfl) ?hq23x229 ?hy23x229 hHeld ?rest23x229
                      case hi23x229 => ((try simp only [List.getElem?_toArray, List.getElem?_cons_succ, List.getElem?_cons_zero]); (try rfl))
                      case hq23x229 => exact fun _ _ _ h => h
                      case hy23x229 => exact Or.inr ⟨by rfl, rfl⟩
                      try simp only [Act.put, List.setIfInBounds_toArray, List.set_cons_zero, List.set_cons_succ]
                      refine wpAnyH_take (i := 24) (oi := ?oi24x230) (v := undef) ?hi24x230 (by kernel_rfl) (by kernel_rfl) (by kernel_rfl) ?hq24x230 ?hy24x230 hHeld ?rest24x230
                      case hi24x230 => ((try simp only [List.getElem?_toArray, List.getElem?_cons_succ, List.getElem?_cons_zero]); (try rfl))
                      case hq24x230 => exact fun _ _ _ h => h
                      case hy24x230 => exact Or.inr ⟨by rfl, rfl⟩
                      try simp only [Act.put, List.setIfInBounds_toArray, List.set_cons_zero, List.set_cons_succ]
                      refine wpAnyH_take (i := 25) (oi := ?oi25x231) (v := undef) ?hi25x231 (by kernel_rfl) (by kernel_rfl) (by kernel_rfl) ?hq25x231 ?hy25x231 hHeld ?rest25x231
                      case hi25x231 => ((try simp only [List.getElem?_toArray, List.getElem?_cons_succ, List.getElem?_cons_zero]); (try rfl))
                      case hq25x231 => exact fun _ _ _ h => h
                      case hy25x231 => exact Or.inr ⟨by rfl, rfl⟩
                      try simp only [Act.put, List.setIfInBounds_toArray, List.set_cons_zero, List.set_cons_succ]
                      refine wpAnyH_take (i := 26) (oi := ?oi26x232) (v := undef) ?hi26x232 (by kernel_rfl) (by kernel_rfl) (by kernel_rfl) ?hq26x232 ?hy26x232 hHeld ?rest26x232
                      case hi26x232 => ((try simp only [List.getElem?_toArray, List.getElem?_cons_succ, List.getElem?_cons_zero]); (try rfl))
                      case hq26x232 => exact fun _ _ _ h => h
                      case hy26x232 => exact Or.inr ⟨by rfl, rfl⟩
                      try simp only [Act.put, List.setIfInBounds_toArray, List.set_cons_zero, List.set_cons_succ]
                      refine wpAnyH_take (i := 27) (oi := ?oi27x233) (v := undef) ?hi27x233 (by kernel_rfl) (by kernel_rfl) (by kernel_rfl) ?hq27x233 ?hy27x233 hHeld ?rest27x233
                      case hi27x233 => ((try simp only [List.getElem?_toArray, List.getElem?_cons_succ, List.getElem?_cons_zero]); (try rfl))
                      case hq27x233 => exact fun _ _ _ h => h
                      case hy27x233 => exact Or.inr ⟨by rfl, rfl⟩
                      try simp only [Act.put, List.setIfInBounds_toArray, List.set_cons_zero, List.set_cons_succ]
                      refine wpAnyH_take (i := 28) (oi := ?oi28x234) (v := undef) ?hi28x234 (by kernel_rfl) (by kernel_rfl) (by kernel_rfl) ?hq28x234 ?hy28x234 hHeld ?rest28x234
                      case hi28x234 => ((try simp only [List.getElem?_toArray, List.getElem?_cons_succ, List.getElem?_cons_zero]); (try rfl))
                      case hq28x234 => exact fun _ _ _ h => h
                      case hy28x234 => exact Or.inr ⟨by rfl, rfl⟩
                      try simp only [Act.put, List.setIfInBounds_toArray, List.set_cons_zero, List.set_cons_succ]
                      refine wpAnyH_take (i := 29) (oi := ?oi29x235) (v := ?v29x235) ?hi29x235 (by kernel_rfl) (by kernel_rfl) (by kernel_rfl) ?hq29x235 ?hy29x235 hHeld ?rest29x235
                      case hi29x235 => ((try simp only [List.getElem?_toArray, List.getElem?_cons_succ, List.getElem?_cons_zero]); (try rfl))
                      case hq29x235 => exact fun _ _ _ h => h
                      case hy29x235 => exact Or.inl ⟨by rfl, by intro w hSw; clear hSw; go_simp; try with_reducible rfl⟩
                      try simp only [Act.put, List.setIfInBounds_toArray, List.set_cons_zero, List.set_cons_succ]
                      refine wpAnyH_take (i := 30) (oi := ?oi30x236) (v := ?v30x236) ?hi30x236 (by kernel_rfl) (by kernel_rfl) (by kernel_rfl) ?hq30x236 ?hy30x236 hHeld ?rest30x236
                      case hi30x236 => ((try simp only [List.getElem?_toArray, List.getElem?_cons_succ, List.getElem?_cons_zero]); (try rfl))
                      case hq30x236 => exact fun _ _ _ h => h
                      case hy30x236 => exact Or.inl ⟨by rfl, by intro w hSw; clear hSw; go_simp; try with_reducible rfl⟩
                      try simp only [Act.put, List.setIfInBounds_toArray, List.set_cons_zero, List.set_cons_succ]
                      refine wpAnyH_take (i := 31) (oi := ?oi31x237) (v := ?v31x237) ?hi31x237 (by kernel_rfl) (by kernel_rfl) (by kernel_rfl) ?hq31x237 ?hy31x237 hHeld ?rest31x237
                      case hi31x237 => ((try simp only [List.getElem?_toArray, List.getElem?_cons_succ, List.getElem?_cons_zero]); (try rfl))
                      case hq31x237 => exact fun _ _ _ h => h
                      case hy31x237 => exact Or.inl ⟨by rfl, by intro w hSw; clear hSw; go_simp; try with_reducible rfl⟩
                      try simp only [Act.put, List.setIfInBounds_toArray, List.set_cons_zero, List.set_cons_succ]
                      refine wpAnyH_done (by kernel_rfl) ?_ _
                      clear hHeld
                      have Y := Lib.hid X.out.kr.kx
                      clear X
                      go_wp2_with fail
                      go_roundw
                      case rel => exact ⟨j + 1, by omega, by go_num, by rw [DD.out], Y⟩
                      case measure => simp [intOf] <;> omega
                · obtain rfl : j = nk := by omega
                  rw [FN.out]
                  clear FN
                  go_wp2_with fail
                  go_roundw
                  case rel => exact ⟨i + 1, by omega, by go_num, X3⟩
                  case measure => simp [intOf] <;> omega
          · have i5 : ¬ (i : Int) < (nd : Int) := by omega
            go_wp2_with fail
            go_ret
            exact ⟨rfl, X4.out.below⟩
end Vw
end Go.Proofs.YtaghilgfldaaiaaGreatDoor
