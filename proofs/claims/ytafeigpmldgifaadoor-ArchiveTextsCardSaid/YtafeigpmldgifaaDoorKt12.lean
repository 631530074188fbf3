/-
  Lemmas and walks, texts joined: KRChk, KRCh, KRCh2, KRCh3a.
-/
import Derived.RegionTactic
import Derived.Deep.RegionHeld3
import Derived.Test.YtafeigpmldgifaaDoorKt03
import Derived.Test.YtafeigpmldgifaaDoorKt11
set_option linter.unusedSimpArgs false
set_option linter.unusedVariables false
/-
  The walk of Check of the reference of merge.
-/
namespace Go.Proofs.YtafeigpmldgifaaDoor
namespace Cgw
open Go.RowKit Lw Go.Proofs.YtafeigpmldgifaaDoor.Dp Go.Proofs.YtafeigpmldgifaaDoor.Cgp Go.Proofs.YtafeigpmldgifaaDoor.Arw

def ChkPost (c : Cg) (w : World) (e : Ending) (w' : World) : Prop := (∃ r, e = .returned (.int .i64 r) ∧ ((okC c ∧ r = 0) ∨ (¬ okC c ∧ r = 8))) ∧ Below w.heap.size w w'
set_option maxRecDepth 100000 in
set_option maxHeartbeats 32000000 in
theorem rmcheck_any (c : Cg) (w : World) (cb : CB c) :
    Calls Tryd.prog 23 #[.agg (cgC c).toArray] w (ChkPost c w) := by
  obtain ⟨cz, h0⟩ : ∃ cz, cz = c := ⟨c, rfl⟩
  rw [show ChkPost c w = ChkPost cz w from by rw [h0]]
  have H0 := Lib.hid h0
  clear h0
  have X0 := Lib.hid (CX.new w c)
  have CA := Lib.hid (fun w' => Dw.rcheck_any c.a.n c.a.y c.a.h c.a.s c.a.c w')
  have CBb := Lib.hid (fun w' => Dw.rcheck_any c.b.n c.b.y c.b.h c.b.s c.b.c w')
  have nb := cb.n1
  clear cb
  have GA := Lib.hid (fun (h : okG c.a) => errC_t h)
  have GA' := Lib.hid (fun (h : ¬ okG c.a) => errC_f h)
  have GB := Lib.hid (fun (h : okG c.b) => errC_t h)
  have GB' := Lib.hid (fun (h : ¬ okG c.b) => errC_f h)
  obtain ⟨k, ⟨an, ay, ah, az, ac⟩, ⟨bn, by_, bh, bs, bc⟩, n⟩ := c
  simp only at nb GA GA' GB GB' CA CBb
  generalize errC an ay ah az ac = ea at *
  generalize errC bn by_ bh bs bc = eb at *
  go_enter Tryd.func23, Tryd.ntmps23
  go_wp2_with fail
  generalize w.alloc (.cells (cgC ⟨k, ⟨an, ay, ah, az, ac⟩, ⟨bn, by_, bh, bs, bc⟩, n⟩).toArray 52) = w1 at *
  refine wp_region_held_drew (S := fun wx => CX w ⟨k, ⟨an, ay, ah, az, ac⟩, ⟨bn, by_, bh, bs, bc⟩, n⟩ wx) (by kernel_rfl) (X0.out.call (Below.refl _ _).drew) (fun hHeld => ?_)
  clear X0
  refine wpAnyH_take (i := 0) (oi := ?oi0x1) (v := ?v0x1) ?hi0x1 (by kernel_rfl) (by kernel_rfl) (by kernel_rfl) ?hq0x1 ?hy0x1 hHeld ?rest0x1
  case hi0x1 => ((try simp only [List.getElem?_toArray, List.getElem?_cons_succ, List.getElem?_cons_zero]); (try rfl))
  case hq0x1 => exact fun _ _ _ h => h
  case hy0x1 => exact Or.inl ⟨by rfl, by intro w hSw; clear hSw; go_simp; try with_reducible rfl⟩
  try simp only [Act.put, List.setIfInBounds_toArray, List.set_cons_zero, List.set_cons_succ]
  refine wpAnyH_take (i := 1) (oi := ?oi1x2) (v := ?v1x2) ?hi1x2 (by kernel_rfl) (by kernel_rfl) (by kernel_rfl) ?hq1x2 ?hy1x2 hHeld ?rest1x2
  case hi1x2 => ((try simp only [List.getElem?_toArray, List.getElem?_cons_succ, List.getElem?_cons_zero]); (try rfl))
  case hq1x2 => exact fun _ _ _ h => h
  case hy1x2 => exact Or.inl ⟨by rfl, by intro w hSw; have c1 := hSw.cell 1 _ rfl; have c2 := hSw.cell 2 _ rfl; have c3 := hSw.cell 3 _ rfl; have c4 := hSw.cell 4 _ rfl; have c5 := hSw.cell 5 _ rfl; have c6 := hSw.cell 6 _ rfl; have c7 := hSw.cell 7 _ rfl; have c8 := hSw.cell 8 _ rfl; have c9 := hSw.cell 9 _ rfl; have c10 := hSw.cell 10 _ rfl; clear hSw; go_simp; try with_reducible rfl⟩
  try simp only [Act.put, List.setIfInBounds_toArray, List.set_cons_zero, List.set_cons_succ]
  refine wpAnyH_take (i := 4) (oi := ?oi4x3) (v := ?v4x3) ?hi4x3 (by kernel_rfl) (by kernel_rfl) (by kernel_rfl) ?hq4x3 ?hy4x3 hHeld ?rest4x3
  case hi4x3 => ((try simp only [List.getElem?_toArray, List.getElem?_cons_succ, List.getElem?_cons_zero]); (try rfl))
  case hq4x3 => exact fun _ _ _ h => h
  case hy4x3 => exact Or.inl ⟨by rfl, by intro w hSw; clear hSw; go_simp; try with_reducible rfl⟩
  try simp only [Act.put, List.setIfInBounds_toArray, List.set_cons_zero, List.set_cons_succ]
  refine wpAnyH_take (i := 5) (oi := ?oi5x4) (v := ?v5x4) ?hi5x4 (by kernel_rfl) (by kernel_rfl) (by kernel_rfl) ?hq5x4 ?hy5x4 hHeld ?rest5x4
  case hi5x4 => ((try simp only [List.getElem?_toArray, List.getElem?_cons_succ, List.getElem?_cons_zero]); (try rfl))
  case hq5x4 => exact fun _ _ _ h => h
  case hy5x4 => exact Or.inl ⟨by rfl, by intro w hSw; have c1 := hSw.cell 1 _ rfl; have c2 := hSw.cell 2 _ rfl; have c3 := hSw.cell 3 _ rfl; have c4 := hSw.cell 4 _ rfl; have c5 := hSw.cell 5 _ rfl; have c6 := hSw.cell 6 _ rfl; have c7 := hSw.cell 7 _ rfl; have c8 := hSw.cell 8 _ rfl; have c9 := hSw.cell 9 _ rfl; have c10 := hSw.cell 10 _ rfl; clear hSw; go_simp; try with_reducible rfl⟩
  try simp only [Act.put, List.setIfInBounds_toArray, List.set_cons_zero, List.set_cons_succ]
  refine wpAnyH_ready (rs := [2]) (by kernel_rfl) (by simp) ?_
  refine AllReadyH.cons rfl (fun K' hK => ?_) AllReadyH.nil
  have H1 := Lib.hid hHeld
  clear hHeld
  go_simp
  refine (CA.out _).mono ?_
  rintro e wx ⟨rfl, hb⟩
  replace H1 := Lib.hid (H1.out.call hb)
  refine hK.out _ _ H1.out (fun hHeld => ?_)
  clear hK H1 hb
  try simp only [Act.put, List.setIfInBounds_toArray, List.set_cons_zero, List.set_cons_succ]
  refine wpAnyH_take (i := 3) (oi := ?oi3x5) (v := ?v3x5) ?hi3x5 (by kernel_rfl) (by kernel_rfl) (by kernel_rfl) ?hq3x5 ?hy3x5 hHeld ?rest3x5
  case hi3x5 => ((try simp only [List.getElem?_toArray, List.getElem?_cons_succ, List.getElem?_cons_zero]); (try rfl))
  case hq3x5 => exact fun _ _ _ h => h
  case hy3x5 => exact Or.inl ⟨by rfl, by intro w hSw; clear hSw; go_simp; try with_reducible rfl⟩
  try simp only [Act.put, List.setIfInBounds_toArray, List.set_cons_zero, List.set_cons_succ]
  refine wpAnyH_ready (rs := [6]) (by kernel_rfl) (by simp) ?_
  refine AllReadyH.cons rfl (fun K' hK => ?_) AllReadyH.nil
  have H1 := Lib.hid hHeld
  clear hHeld
  go_simp
  refine (CBb.out _).mono ?_
  rintro e wx ⟨rfl, hb⟩
  replace H1 := Lib.hid (H1.out.call hb)
  refine hK.out _ _ H1.out (fun hHeld => ?_)
  clear hK H1 hb
  try simp only [Act.put, List.setIfInBounds_toArray, List.set_cons_zero, List.set_cons_succ]
  refine wpAnyH_take (i := 7) (oi := ?oi7x6) (v := ?v7x6) ?hi7x6 (by kernel_rfl) (by kernel_rfl) (by kernel_rfl) ?hq7x6 ?hy7x6 hHeld ?rest7x6
  case hi7x6 => ((try simp only [List.getElem?_toArray, List.getElem?_cons_succ, List.getElem?_cons_zero]); (try rfl))
  case hq7x6 => exact fun _ _ _ h => h
  case hy7x6 => exact Or.inl ⟨by rfl, by intro w hSw; clear hSw; go_simp; try with_reducible rfl⟩
  try simp only [Act.put, List.setIfInBounds_toArray, List.set_cons_zero, List.set_cons_succ]
  refine wpAnyH_take (i := 8) (oi := ?oi8x7) (v := ?v8x7) ?hi8x7 (by kernel_rfl) (by kernel_rfl) (by kernel_rfl) ?hq8x7 ?hy8x7 hHeld ?rest8x7
  case hi8x7 => ((try simp only [List.getElem?_toArray, List.getElem?_cons_succ, List.getElem?_cons_zero]); (try rfl))
  case hq8x7 => exact fun _ _ _ h => h
  case hy8x7 => exact Or.inl ⟨by rfl, by intro w hSw; clear hSw; go_simp; try with_reducible rfl⟩
  try simp only [Act.put, List.setIfInBounds_toArray, List.set_cons_zero, List.set_cons_succ]
  refine wpAnyH_take (i := 9) (oi := ?oi9x8) (v := ?v9x8) ?hi9x8 (by kernel_rfl) (by kernel_rfl) (by kernel_rfl) ?hq9x8 ?hy9x8 hHeld ?rest9x8
  case hi9x8 => ((try simp only [List.getElem?_toArray, List.getElem?_cons_succ, List.getElem?_cons_zero]); (try rfl))
  case hq9x8 => exact fun _ _ _ h => h
  case hy9x8 => exact Or.inl ⟨by rfl, by intro w hSw; clear hSw; go_simp; try with_reducible rfl⟩
  try simp only [Act.put, List.setIfInBounds_toArray, List.set_cons_zero, List.set_cons_succ]
  refine wpAnyH_done (by kernel_rfl) ?_ _
  have XN := Lib.hid hHeld
  clear hHeld CA CBb
  have c0 := XN.out.cell 0 _ rfl
  have c1 := XN.out.cell 1 _ rfl
  have c2 := XN.out.cell 2 _ rfl
  have c3 := XN.out.cell 3 _ rfl
  have c4 := XN.out.cell 4 _ rfl
  have c5 := XN.out.cell 5 _ rfl
  have c6 := XN.out.cell 6 _ rfl
  have c7 := XN.out.cell 7 _ rfl
  have c8 := XN.out.cell 8 _ rfl
  have c9 := XN.out.cell 9 _ rfl
  have c10 := XN.out.cell 10 _ rfl
  have c11 := XN.out.cell 11 _ rfl
  by_cases gA : okG ⟨an, ay, ah, az, ac⟩
  · have eA := GA.out gA
    clear GA GA'
    by_cases gB : okG ⟨bn, by_, bh, bs, bc⟩
    · have eB := GB.out gB
      clear GB GB'
      by_cases k1 : k = 1
      · subst k1
        by_cases e0 : an = 0
        · skip
          by_cases z0 : (⟨bn, by_, bh, bs, bc⟩ : Dg) = zeroG
          · skip
            have zb1 : bn = 0 := congrArg Dg.n z0
            have zb2 : by_ = 0 := congrArg Dg.y z0
            have zb3 : bh = 0 := congrArg Dg.h z0
            have zb4 : bs = 0 := congrArg Dg.s z0
            have zb5 : bc = 0 := congrArg Dg.c z0
            by_cases n0 : n = 0
            · skip
              have NO : Hid (okC cz) := Lib.hid (by rw [H0.out]; exact (show okC ⟨1, ⟨an, ay, ah, az, ac⟩, ⟨bn, by_, bh, bs, bc⟩, n⟩ from okC_1.2 ⟨gA, e0, z0, n0⟩))
              clear gA gB H0 z0
              go_wp2_with fail
              all_goals (go_ret; exact ⟨⟨0, rfl, Or.inl ⟨NO.out, rfl⟩⟩, XN.out.below⟩)
            · have n1 : (n == 0) = false := beq_eq_false_iff_ne.2 n0
              have NO : Hid (¬ okC cz) := Lib.hid (by rw [H0.out]; exact (show ¬ okC ⟨1, ⟨an, ay, ah, az, ac⟩, ⟨bn, by_, bh, bs, bc⟩, n⟩ from fun h => n0 (okC_1.1 h).2.2.2))
              clear gA gB H0 
              go_wp2_with fail
              all_goals (go_ret; exact ⟨⟨8, rfl, Or.inr ⟨NO.out, rfl⟩⟩, XN.out.below⟩)
          · skip
            rcases dg_ne z0 with g | ⟨e1, g⟩ | ⟨e1, e2, g⟩ | ⟨e1, e2, e3, g⟩ | ⟨e1, e2, e3, e4, g⟩
            · simp only [zeroG] at g
              have NO : Hid (¬ okC cz) := Lib.hid (by rw [H0.out]; exact (show ¬ okC ⟨1, ⟨an, ay, ah, az, ac⟩, ⟨bn, by_, bh, bs, bc⟩, n⟩ from fun h => z0 (okC_1.1 h).2.2.1))
              clear gA gB H0 z0
              go_wp2_with fail
              all_goals (go_ret; exact ⟨⟨8, rfl, Or.inr ⟨NO.out, rfl⟩⟩, XN.out.below⟩)
            · simp only [zeroG] at g e1
              have NO : Hid (¬ okC cz) := Lib.hid (by rw [H0.out]; exact (show ¬ okC ⟨1, ⟨an, ay, ah, az, ac⟩, ⟨bn, by_, bh, bs, bc⟩, n⟩ from fun h => z0 (okC_1.1 h).2.2.1))
              clear gA gB H0 z0
              go_wp2_with fail
              all_goals (go_ret; exact ⟨⟨8, rfl, Or.inr ⟨NO.out, rfl⟩⟩, XN.out.below⟩)
            · simp only [zeroG] at g e1 e2
              have NO : Hid (¬ okC cz) := Lib.hid (by rw [H0.out]; exact (show ¬ okC ⟨1, ⟨an, ay, ah, az, ac⟩, ⟨bn, by_, bh, bs, bc⟩, n⟩ from fun h => z0 (okC_1.1 h).2.2.1))
              clear gA gB H0 z0
              go_wp2_with fail
              all_goals (go_ret; exact ⟨⟨8, rfl, Or.inr ⟨NO.out, rfl⟩⟩, XN.out.below⟩)
            · simp only [zeroG] at g e1 e2 e3
              have NO : Hid (¬ okC cz) := Lib.hid (by rw [H0.out]; exact (show ¬ okC ⟨1, ⟨an, ay, ah, az, ac⟩, ⟨bn, by_, bh, bs, bc⟩, n⟩ from fun h => z0 (okC_1.1 h).2.2.1))
              clear gA gB H0 z0
              go_wp2_with fail
              all_goals (go_ret; exact ⟨⟨8, rfl, Or.inr ⟨NO.out, rfl⟩⟩, XN.out.below⟩)
            · simp only [zeroG] at g e1 e2 e3 e4
              have NO : Hid (¬ okC cz) := Lib.hid (by rw [H0.out]; exact (show ¬ okC ⟨1, ⟨an, ay, ah, az, ac⟩, ⟨bn, by_, bh, bs, bc⟩, n⟩ from fun h => z0 (okC_1.1 h).2.2.1))
              clear gA gB H0 z0
              go_wp2_with fail
              all_goals (go_ret; exact ⟨⟨8, rfl, Or.inr ⟨NO.out, rfl⟩⟩, XN.out.below⟩)
        · skip
          have NO : Hid (¬ okC cz) := Lib.hid (by rw [H0.out]; exact (show ¬ okC ⟨1, ⟨an, ay, ah, az, ac⟩, ⟨bn, by_, bh, bs, bc⟩, n⟩ from fun h => e0 (okC_1.1 h).2.1))
          clear gA gB H0 
          go_wp2_with fail
          all_goals (go_ret; exact ⟨⟨8, rfl, Or.inr ⟨NO.out, rfl⟩⟩, XN.out.below⟩)
      by_cases k2 : k = 2
      · subst k2
        by_cases n0 : n = 0
        · skip
          by_cases z0 : (⟨an, ay, ah, az, ac⟩ : Dg) = ⟨bn, by_, bh, bs, bc⟩
          · skip
            have za1 : an = bn := congrArg Dg.n z0
            have za2 : ay = by_ := congrArg Dg.y z0
            have za3 : ah = bh := congrArg Dg.h z0
            have za4 : az = bs := congrArg Dg.s z0
            have za5 : ac = bc := congrArg Dg.c z0
            have NO : Hid (¬ okC cz) := Lib.hid (by rw [H0.out]; exact (show ¬ okC ⟨2, ⟨an, ay, ah, az, ac⟩, ⟨bn, by_, bh, bs, bc⟩, n⟩ from fun h => (okC_2.1 h).2.2.1 z0))
            clear gA gB H0 z0
            go_wp2_with fail
            all_goals (go_ret; exact ⟨⟨8, rfl, Or.inr ⟨NO.out, rfl⟩⟩, XN.out.below⟩)
          · skip
            rcases dg_ne z0 with g | ⟨e1, g⟩ | ⟨e1, e2, g⟩ | ⟨e1, e2, e3, g⟩ | ⟨e1, e2, e3, e4, g⟩
            · simp only at g
              have NO : Hid (okC cz) := Lib.hid (by rw [H0.out]; exact (show okC ⟨2, ⟨an, ay, ah, az, ac⟩, ⟨bn, by_, bh, bs, bc⟩, n⟩ from okC_2.2 ⟨gA, gB, z0, n0⟩))
              clear gA gB H0 z0
              go_wp2_with fail
              all_goals (go_ret; exact ⟨⟨0, rfl, Or.inl ⟨NO.out, rfl⟩⟩, XN.out.below⟩)
            · simp only at g e1
              have NO : Hid (okC cz) := Lib.hid (by rw [H0.out]; exact (show okC ⟨2, ⟨an, ay, ah, az, ac⟩, ⟨bn, by_, bh, bs, bc⟩, n⟩ from okC_2.2 ⟨gA, gB, z0, n0⟩))
              clear gA gB H0 z0
              go_wp2_with fail
              all_goals (go_ret; exact ⟨⟨0, rfl, Or.inl ⟨NO.out, rfl⟩⟩, XN.out.below⟩)
            · simp only at g e1 e2
              have NO : Hid (okC cz) := Lib.hid (by rw [H0.out]; exact (show okC ⟨2, ⟨an, ay, ah, az, ac⟩, ⟨bn, by_, bh, bs, bc⟩, n⟩ from okC_2.2 ⟨gA, gB, z0, n0⟩))
              clear gA gB H0 z0
              go_wp2_with fail
              all_goals (go_ret; exact ⟨⟨0, rfl, Or.inl ⟨NO.out, rfl⟩⟩, XN.out.below⟩)
            · simp only at g e1 e2 e3
              have NO : Hid (okC cz) := Lib.hid (by rw [H0.out]; exact (show okC ⟨2, ⟨an, ay, ah, az, ac⟩, ⟨bn, by_, bh, bs, bc⟩, n⟩ from okC_2.2 ⟨gA, gB, z0, n0⟩))
              clear gA gB H0 z0
              go_wp2_with fail
              all_goals (go_ret; exact ⟨⟨0, rfl, Or.inl ⟨NO.out, rfl⟩⟩, XN.out.below⟩)
            · simp only at g e1 e2 e3 e4
              have NO : Hid (okC cz) := Lib.hid (by rw [H0.out]; exact (show okC ⟨2, ⟨an, ay, ah, az, ac⟩, ⟨bn, by_, bh, bs, bc⟩, n⟩ from okC_2.2 ⟨gA, gB, z0, n0⟩))
              clear gA gB H0 z0
              go_wp2_with fail
              all_goals (go_ret; exact ⟨⟨0, rfl, Or.inl ⟨NO.out, rfl⟩⟩, XN.out.below⟩)
        · have n1 : (n == 0) = false := beq_eq_false_iff_ne.2 n0
          have NO : Hid (¬ okC cz) := Lib.hid (by rw [H0.out]; exact (show ¬ okC ⟨2, ⟨an, ay, ah, az, ac⟩, ⟨bn, by_, bh, bs, bc⟩, n⟩ from fun h => n0 (okC_2.1 h).2.2.2))
          clear gA gB H0 
          go_wp2_with fail
          all_goals (go_ret; exact ⟨⟨8, rfl, Or.inr ⟨NO.out, rfl⟩⟩, XN.out.below⟩)
      by_cases k3 : k = 3
      · subst k3
        by_cases n0 : n = 0
        · skip
          by_cases p0 : 0 < bn
          · skip
            have NO : Hid (okC cz) := Lib.hid (by rw [H0.out]; exact (show okC ⟨3, ⟨an, ay, ah, az, ac⟩, ⟨bn, by_, bh, bs, bc⟩, n⟩ from okC_3.2 ⟨gA, gB, p0, n0⟩))
            clear gA gB H0 
            go_wp2_with fail
            all_goals (go_ret; exact ⟨⟨0, rfl, Or.inl ⟨NO.out, rfl⟩⟩, XN.out.below⟩)
          · have p1 : decide (0 < bn) = false := decide_eq_false p0
            have NO : Hid (¬ okC cz) := Lib.hid (by rw [H0.out]; exact (show ¬ okC ⟨3, ⟨an, ay, ah, az, ac⟩, ⟨bn, by_, bh, bs, bc⟩, n⟩ from fun h => p0 (okC_3.1 h).2.2.1))
            clear gA gB H0 
            go_wp2_with fail
            all_goals (go_ret; exact ⟨⟨8, rfl, Or.inr ⟨NO.out, rfl⟩⟩, XN.out.below⟩)
        · have n1 : (n == 0) = false := beq_eq_false_iff_ne.2 n0
          have NO : Hid (¬ okC cz) := Lib.hid (by rw [H0.out]; exact (show ¬ okC ⟨3, ⟨an, ay, ah, az, ac⟩, ⟨bn, by_, bh, bs, bc⟩, n⟩ from fun h => n0 (okC_3.1 h).2.2.2))
          clear gA gB H0 
          go_wp2_with fail
          all_goals (go_ret; exact ⟨⟨8, rfl, Or.inr ⟨NO.out, rfl⟩⟩, XN.out.below⟩)
      by_cases k4 : k = 4
      · subst k4
        by_cases n0 : n = 0 ∨ n ≠ 0
        · skip
          have z0 : (⟨an, ay, ah, az, ac⟩ : Dg) ≠ zeroG := fun h => zero_no (h ▸ gA)
          rcases dg_ne z0 with g | ⟨e1, g⟩ | ⟨e1, e2, g⟩ | ⟨e1, e2, e3, g⟩ | ⟨e1, e2, e3, e4, g⟩
          · simp only [zeroG] at g
            have NO : Hid (¬ okC cz) := Lib.hid (by rw [H0.out]; exact (show ¬ okC ⟨4, ⟨an, ay, ah, az, ac⟩, ⟨bn, by_, bh, bs, bc⟩, n⟩ from fun h => z0 (okC_4.1 h).1))
            clear gA gB H0 z0
            go_wp2_with fail
            all_goals (go_ret; exact ⟨⟨8, rfl, Or.inr ⟨NO.out, rfl⟩⟩, XN.out.below⟩)
          · simp only [zeroG] at g e1
            have NO : Hid (¬ okC cz) := Lib.hid (by rw [H0.out]; exact (show ¬ okC ⟨4, ⟨an, ay, ah, az, ac⟩, ⟨bn, by_, bh, bs, bc⟩, n⟩ from fun h => z0 (okC_4.1 h).1))
            clear gA gB H0 z0
            go_wp2_with fail
            all_goals (go_ret; exact ⟨⟨8, rfl, Or.inr ⟨NO.out, rfl⟩⟩, XN.out.below⟩)
          · simp only [zeroG] at g e1 e2
            have NO : Hid (¬ okC cz) := Lib.hid (by rw [H0.out]; exact (show ¬ okC ⟨4, ⟨an, ay, ah, az, ac⟩, ⟨bn, by_, bh, bs, bc⟩, n⟩ from fun h => z0 (okC_4.1 h).1))
            clear gA gB H0 z0
            go_wp2_with fail
            all_goals (go_ret; exact ⟨⟨8, rfl, Or.inr ⟨NO.out, rfl⟩⟩, XN.out.below⟩)
          · simp only [zeroG] at g e1 e2 e3
            have NO : Hid (¬ okC cz) := Lib.hid (by rw [H0.out]; exact (show ¬ okC ⟨4, ⟨an, ay, ah, az, ac⟩, ⟨bn, by_, bh, bs, bc⟩, n⟩ from fun h => z0 (okC_4.1 h).1))
            clear gA gB H0 z0
            go_wp2_with fail
            all_goals (go_ret; exact ⟨⟨8, rfl, Or.inr ⟨NO.out, rfl⟩⟩, XN.out.below⟩)
          · simp only [zeroG] at g e1 e2 e3 e4
            have NO : Hid (¬ okC cz) := Lib.hid (by rw [H0.out]; exact (show ¬ okC ⟨4, ⟨an, ay, ah, az, ac⟩, ⟨bn, by_, bh, bs, bc⟩, n⟩ from fun h => z0 (okC_4.1 h).1))
            clear gA gB H0 z0
            go_wp2_with fail
            all_goals (go_ret; exact ⟨⟨8, rfl, Or.inr ⟨NO.out, rfl⟩⟩, XN.out.below⟩)
        · exact absurd (Classical.em _) n0
      have NO : Hid (¬ okC cz) := Lib.hid (by rw [H0.out]; exact (show ¬ okC ⟨k, ⟨an, ay, ah, az, ac⟩, ⟨bn, by_, bh, bs, bc⟩, n⟩ from okC_o k1 k2 k3 k4))
      clear gA gB H0 
      go_wp2_with fail
      all_goals (go_ret; exact ⟨⟨8, rfl, Or.inr ⟨NO.out, rfl⟩⟩, XN.out.below⟩)
    · have eB := GB'.out gB
      clear GB GB'
      by_cases k1 : k = 1
      · subst k1
        by_cases e0 : an = 0
        · skip
          by_cases z0 : (⟨bn, by_, bh, bs, bc⟩ : Dg) = zeroG
          · skip
            have zb1 : bn = 0 := congrArg Dg.n z0
            have zb2 : by_ = 0 := congrArg Dg.y z0
            have zb3 : bh = 0 := congrArg Dg.h z0
            have zb4 : bs = 0 := congrArg Dg.s z0
            have zb5 : bc = 0 := congrArg Dg.c z0
            by_cases n0 : n = 0
            · skip
              have NO : Hid (okC cz) := Lib.hid (by rw [H0.out]; exact (show okC ⟨1, ⟨an, ay, ah, az, ac⟩, ⟨bn, by_, bh, bs, bc⟩, n⟩ from okC_1.2 ⟨gA, e0, z0, n0⟩))
              clear gA gB H0 z0
              go_wp2_with fail
              all_goals (go_ret; exact ⟨⟨0, rfl, Or.inl ⟨NO.out, rfl⟩⟩, XN.out.below⟩)
            · have n1 : (n == 0) = false := beq_eq_false_iff_ne.2 n0
              have NO : Hid (¬ okC cz) := Lib.hid (by rw [H0.out]; exact (show ¬ okC ⟨1, ⟨an, ay, ah, az, ac⟩, ⟨bn, by_, bh, bs, bc⟩, n⟩ from fun h => n0 (okC_1.1 h).2.2.2))
              clear gA gB H0 
              go_wp2_with fail
              all_goals (go_ret; exact ⟨⟨8, rfl, Or.inr ⟨NO.out, rfl⟩⟩, XN.out.below⟩)
          · skip
            rcases dg_ne z0 with g | ⟨e1, g⟩ | ⟨e1, e2, g⟩ | ⟨e1, e2, e3, g⟩ | ⟨e1, e2, e3, e4, g⟩
            · simp only [zeroG] at g
              have NO : Hid (¬ okC cz) := Lib.hid (by rw [H0.out]; exact (show ¬ okC ⟨1, ⟨an, ay, ah, az, ac⟩, ⟨bn, by_, bh, bs, bc⟩, n⟩ from fun h => z0 (okC_1.1 h).2.2.1))
              clear gA gB H0 z0
              go_wp2_with fail
              all_goals (go_ret; exact ⟨⟨8, rfl, Or.inr ⟨NO.out, rfl⟩⟩, XN.out.below⟩)
            · simp only [zeroG] at g e1
              have NO : Hid (¬ okC cz) := Lib.hid (by rw [H0.out]; exact (show ¬ okC ⟨1, ⟨an, ay, ah, az, ac⟩, ⟨bn, by_, bh, bs, bc⟩, n⟩ from fun h => z0 (okC_1.1 h).2.2.1))
              clear gA gB H0 z0
              go_wp2_with fail
              all_goals (go_ret; exact ⟨⟨8, rfl, Or.inr ⟨NO.out, rfl⟩⟩, XN.out.below⟩)
            · simp only [zeroG] at g e1 e2
              have NO : Hid (¬ okC cz) := Lib.hid (by rw [H0.out]; exact (show ¬ okC ⟨1, ⟨an, ay, ah, az, ac⟩, ⟨bn, by_, bh, bs, bc⟩, n⟩ from fun h => z0 (okC_1.1 h).2.2.1))
              clear gA gB H0 z0
              go_wp2_with fail
              all_goals (go_ret; exact ⟨⟨8, rfl, Or.inr ⟨NO.out, rfl⟩⟩, XN.out.below⟩)
            · simp only [zeroG] at g e1 e2 e3
              have NO : Hid (¬ okC cz) := Lib.hid (by rw [H0.out]; exact (show ¬ okC ⟨1, ⟨an, ay, ah, az, ac⟩, ⟨bn, by_, bh, bs, bc⟩, n⟩ from fun h => z0 (okC_1.1 h).2.2.1))
              clear gA gB H0 z0
              go_wp2_with fail
              all_goals (go_ret; exact ⟨⟨8, rfl, Or.inr ⟨NO.out, rfl⟩⟩, XN.out.below⟩)
            · simp only [zeroG] at g e1 e2 e3 e4
              have NO : Hid (¬ okC cz) := Lib.hid (by rw [H0.out]; exact (show ¬ okC ⟨1, ⟨an, ay, ah, az, ac⟩, ⟨bn, by_, bh, bs, bc⟩, n⟩ from fun h => z0 (okC_1.1 h).2.2.1))
              clear gA gB H0 z0
              go_wp2_with fail
              all_goals (go_ret; exact ⟨⟨8, rfl, Or.inr ⟨NO.out, rfl⟩⟩, XN.out.below⟩)
        · skip
          have NO : Hid (¬ okC cz) := Lib.hid (by rw [H0.out]; exact (show ¬ okC ⟨1, ⟨an, ay, ah, az, ac⟩, ⟨bn, by_, bh, bs, bc⟩, n⟩ from fun h => e0 (okC_1.1 h).2.1))
          clear gA gB H0 
          go_wp2_with fail
          all_goals (go_ret; exact ⟨⟨8, rfl, Or.inr ⟨NO.out, rfl⟩⟩, XN.out.below⟩)
      by_cases k2 : k = 2
      · subst k2
        have NO : Hid (¬ okC cz) := Lib.hid (by rw [H0.out]; exact (show ¬ okC ⟨2, ⟨an, ay, ah, az, ac⟩, ⟨bn, by_, bh, bs, bc⟩, n⟩ from fun h => gB (okC_2.1 h).2.1))
        clear gA gB H0 
        go_wp2_with fail
        all_goals (go_ret; exact ⟨⟨8, rfl, Or.inr ⟨NO.out, rfl⟩⟩, XN.out.below⟩)
      by_cases k3 : k = 3
      · subst k3
        have NO : Hid (¬ okC cz) := Lib.hid (by rw [H0.out]; exact (show ¬ okC ⟨3, ⟨an, ay, ah, az, ac⟩, ⟨bn, by_, bh, bs, bc⟩, n⟩ from fun h => gB (okC_3.1 h).2.1))
        clear gA gB H0 
        go_wp2_with fail
        all_goals (go_ret; exact ⟨⟨8, rfl, Or.inr ⟨NO.out, rfl⟩⟩, XN.out.below⟩)
      by_cases k4 : k = 4
      · subst k4
        by_cases n0 : n = 0 ∨ n ≠ 0
        · skip
          have z0 : (⟨an, ay, ah, az, ac⟩ : Dg) ≠ zeroG := fun h => zero_no (h ▸ gA)
          rcases dg_ne z0 with g | ⟨e1, g⟩ | ⟨e1, e2, g⟩ | ⟨e1, e2, e3, g⟩ | ⟨e1, e2, e3, e4, g⟩
          · simp only [zeroG] at g
            have NO : Hid (¬ okC cz) := Lib.hid (by rw [H0.out]; exact (show ¬ okC ⟨4, ⟨an, ay, ah, az, ac⟩, ⟨bn, by_, bh, bs, bc⟩, n⟩ from fun h => z0 (okC_4.1 h).1))
            clear gA gB H0 z0
            go_wp2_with fail
            all_goals (go_ret; exact ⟨⟨8, rfl, Or.inr ⟨NO.out, rfl⟩⟩, XN.out.below⟩)
          · simp only [zeroG] at g e1
            have NO : Hid (¬ okC cz) := Lib.hid (by rw [H0.out]; exact (show ¬ okC ⟨4, ⟨an, ay, ah, az, ac⟩, ⟨bn, by_, bh, bs, bc⟩, n⟩ from fun h => z0 (okC_4.1 h).1))
            clear gA gB H0 z0
            go_wp2_with fail
            all_goals (go_ret; exact ⟨⟨8, rfl, Or.inr ⟨NO.out, rfl⟩⟩, XN.out.below⟩)
          · simp only [zeroG] at g e1 e2
            have NO : Hid (¬ okC cz) := Lib.hid (by rw [H0.out]; exact (show ¬ okC ⟨4, ⟨an, ay, ah, az, ac⟩, ⟨bn, by_, bh, bs, bc⟩, n⟩ from fun h => z0 (okC_4.1 h).1))
            clear gA gB H0 z0
            go_wp2_with fail
            all_goals (go_ret; exact ⟨⟨8, rfl, Or.inr ⟨NO.out, rfl⟩⟩, XN.out.below⟩)
          · simp only [zeroG] at g e1 e2 e3
            have NO : Hid (¬ okC cz) := Lib.hid (by rw [H0.out]; exact (show ¬ okC ⟨4, ⟨an, ay, ah, az, ac⟩, ⟨bn, by_, bh, bs, bc⟩, n⟩ from fun h => z0 (okC_4.1 h).1))
            clear gA gB H0 z0
            go_wp2_with fail
            all_goals (go_ret; exact ⟨⟨8, rfl, Or.inr ⟨NO.out, rfl⟩⟩, XN.out.below⟩)
          · simp only [zeroG] at g e1 e2 e3 e4
            have NO : Hid (¬ okC cz) := Lib.hid (by rw [H0.out]; exact (show ¬ okC ⟨4, ⟨an, ay, ah, az, ac⟩, ⟨bn, by_, bh, bs, bc⟩, n⟩ from fun h => z0 (okC_4.1 h).1))
            clear gA gB H0 z0
            go_wp2_with fail
            all_goals (go_ret; exact ⟨⟨8, rfl, Or.inr ⟨NO.out, rfl⟩⟩, XN.out.below⟩)
        · exact absurd (Classical.em _) n0
      have NO : Hid (¬ okC cz) := Lib.hid (by rw [H0.out]; exact (show ¬ okC ⟨k, ⟨an, ay, ah, az, ac⟩, ⟨bn, by_, bh, bs, bc⟩, n⟩ from okC_o k1 k2 k3 k4))
      clear gA gB H0 
      go_wp2_with fail
      all_goals (go_ret; exact ⟨⟨8, rfl, Or.inr ⟨NO.out, rfl⟩⟩, XN.out.below⟩)
  · have eA := GA'.out gA
    clear GA GA'
    by_cases gB : okG ⟨bn, by_, bh, bs, bc⟩
    · have eB := GB.out gB
      clear GB GB'
      by_cases k1 : k = 1
      · subst k1
        have NO : Hid (¬ okC cz) := Lib.hid (by rw [H0.out]; exact (show ¬ okC ⟨1, ⟨an, ay, ah, az, ac⟩, ⟨bn, by_, bh, bs, bc⟩, n⟩ from fun h => gA (okC_1.1 h).1))
        clear gA gB H0 
        go_wp2_with fail
        all_goals (go_ret; exact ⟨⟨8, rfl, Or.inr ⟨NO.out, rfl⟩⟩, XN.out.below⟩)
      by_cases k2 : k = 2
      · subst k2
        have NO : Hid (¬ okC cz) := Lib.hid (by rw [H0.out]; exact (show ¬ okC ⟨2, ⟨an, ay, ah, az, ac⟩, ⟨bn, by_, bh, bs, bc⟩, n⟩ from fun h => gA (okC_2.1 h).1))
        clear gA gB H0 
        go_wp2_with fail
        all_goals (go_ret; exact ⟨⟨8, rfl, Or.inr ⟨NO.out, rfl⟩⟩, XN.out.below⟩)
      by_cases k3 : k = 3
      · subst k3
        have NO : Hid (¬ okC cz) := Lib.hid (by rw [H0.out]; exact (show ¬ okC ⟨3, ⟨an, ay, ah, az, ac⟩, ⟨bn, by_, bh, bs, bc⟩, n⟩ from fun h => gA (okC_3.1 h).1))
        clear gA gB H0 
        go_wp2_with fail
        all_goals (go_ret; exact ⟨⟨8, rfl, Or.inr ⟨NO.out, rfl⟩⟩, XN.out.below⟩)
      by_cases k4 : k = 4
      · subst k4
        by_cases n0 : n = 0 ∨ n ≠ 0
        · skip
          by_cases z0 : (⟨an, ay, ah, az, ac⟩ : Dg) = zeroG
          · skip
            have za1 : an = 0 := congrArg Dg.n z0
            have za2 : ay = 0 := congrArg Dg.y z0
            have za3 : ah = 0 := congrArg Dg.h z0
            have za4 : az = 0 := congrArg Dg.s z0
            have za5 : ac = 0 := congrArg Dg.c z0
            by_cases y0 : (⟨bn, by_, bh, bs, bc⟩ : Dg) = zeroG
            · skip
              have yb1 : bn = 0 := congrArg Dg.n y0
              have yb2 : by_ = 0 := congrArg Dg.y y0
              have yb3 : bh = 0 := congrArg Dg.h y0
              have yb4 : bs = 0 := congrArg Dg.s y0
              have yb5 : bc = 0 := congrArg Dg.c y0
              by_cases p0 : 0 ≤ n
              · skip
                have NO : Hid (okC cz) := Lib.hid (by rw [H0.out]; exact (show okC ⟨4, ⟨an, ay, ah, az, ac⟩, ⟨bn, by_, bh, bs, bc⟩, n⟩ from okC_4.2 ⟨z0, y0, p0, nb⟩))
                clear gA gB H0 y0 z0
                go_wp2_with fail
                all_goals (go_ret; exact ⟨⟨0, rfl, Or.inl ⟨NO.out, rfl⟩⟩, XN.out.below⟩)
              · have p1 : decide (0 ≤ n) = false := decide_eq_false p0
                have NO : Hid (¬ okC cz) := Lib.hid (by rw [H0.out]; exact (show ¬ okC ⟨4, ⟨an, ay, ah, az, ac⟩, ⟨bn, by_, bh, bs, bc⟩, n⟩ from fun h => p0 (okC_4.1 h).2.2.1))
                clear gA gB H0 
                go_wp2_with fail
                all_goals (go_ret; exact ⟨⟨8, rfl, Or.inr ⟨NO.out, rfl⟩⟩, XN.out.below⟩)
            · skip
              rcases dg_ne y0 with g | ⟨e1, g⟩ | ⟨e1, e2, g⟩ | ⟨e1, e2, e3, g⟩ | ⟨e1, e2, e3, e4, g⟩
              · simp only [zeroG] at g
                have NO : Hid (¬ okC cz) := Lib.hid (by rw [H0.out]; exact (show ¬ okC ⟨4, ⟨an, ay, ah, az, ac⟩, ⟨bn, by_, bh, bs, bc⟩, n⟩ from fun h => y0 (okC_4.1 h).2.1))
                clear gA gB H0 y0
                go_wp2_with fail
                all_goals (go_ret; exact ⟨⟨8, rfl, Or.inr ⟨NO.out, rfl⟩⟩, XN.out.below⟩)
              · simp only [zeroG] at g e1
                have NO : Hid (¬ okC cz) := Lib.hid (by rw [H0.out]; exact (show ¬ okC ⟨4, ⟨an, ay, ah, az, ac⟩, ⟨bn, by_, bh, bs, bc⟩, n⟩ from fun h => y0 (okC_4.1 h).2.1))
                clear gA gB H0 y0
                go_wp2_with fail
                all_goals (go_ret; exact ⟨⟨8, rfl, Or.inr ⟨NO.out, rfl⟩⟩, XN.out.below⟩)
              · simp only [zeroG] at g e1 e2
                have NO : Hid (¬ okC cz) := Lib.hid (by rw [H0.out]; exact (show ¬ okC ⟨4, ⟨an, ay, ah, az, ac⟩, ⟨bn, by_, bh, bs, bc⟩, n⟩ from fun h => y0 (okC_4.1 h).2.1))
                clear gA gB H0 y0
                go_wp2_with fail
                all_goals (go_ret; exact ⟨⟨8, rfl, Or.inr ⟨NO.out, rfl⟩⟩, XN.out.below⟩)
              · simp only [zeroG] at g e1 e2 e3
                have NO : Hid (¬ okC cz) := Lib.hid (by rw [H0.out]; exact (show ¬ okC ⟨4, ⟨an, ay, ah, az, ac⟩, ⟨bn, by_, bh, bs, bc⟩, n⟩ from fun h => y0 (okC_4.1 h).2.1))
                clear gA gB H0 y0
                go_wp2_with fail
                all_goals (go_ret; exact ⟨⟨8, rfl, Or.inr ⟨NO.out, rfl⟩⟩, XN.out.below⟩)
              · simp only [zeroG] at g e1 e2 e3 e4
                have NO : Hid (¬ okC cz) := Lib.hid (by rw [H0.out]; exact (show ¬ okC ⟨4, ⟨an, ay, ah, az, ac⟩, ⟨bn, by_, bh, bs, bc⟩, n⟩ from fun h => y0 (okC_4.1 h).2.1))
                clear gA gB H0 y0
                go_wp2_with fail
                all_goals (go_ret; exact ⟨⟨8, rfl, Or.inr ⟨NO.out, rfl⟩⟩, XN.out.below⟩)
          · skip
            rcases dg_ne z0 with g | ⟨e1, g⟩ | ⟨e1, e2, g⟩ | ⟨e1, e2, e3, g⟩ | ⟨e1, e2, e3, e4, g⟩
            · simp only [zeroG] at g
              have NO : Hid (¬ okC cz) := Lib.hid (by rw [H0.out]; exact (show ¬ okC ⟨4, ⟨an, ay, ah, az, ac⟩, ⟨bn, by_, bh, bs, bc⟩, n⟩ from fun h => z0 (okC_4.1 h).1))
              clear gA gB H0 z0
              go_wp2_with fail
              all_goals (go_ret; exact ⟨⟨8, rfl, Or.inr ⟨NO.out, rfl⟩⟩, XN.out.below⟩)
            · simp only [zeroG] at g e1
              have NO : Hid (¬ okC cz) := Lib.hid (by rw [H0.out]; exact (show ¬ okC ⟨4, ⟨an, ay, ah, az, ac⟩, ⟨bn, by_, bh, bs, bc⟩, n⟩ from fun h => z0 (okC_4.1 h).1))
              clear gA gB H0 z0
              go_wp2_with fail
              all_goals (go_ret; exact ⟨⟨8, rfl, Or.inr ⟨NO.out, rfl⟩⟩, XN.out.below⟩)
            · simp only [zeroG] at g e1 e2
              have NO : Hid (¬ okC cz) := Lib.hid (by rw [H0.out]; exact (show ¬ okC ⟨4, ⟨an, ay, ah, az, ac⟩, ⟨bn, by_, bh, bs, bc⟩, n⟩ from fun h => z0 (okC_4.1 h).1))
              clear gA gB H0 z0
              go_wp2_with fail
              all_goals (go_ret; exact ⟨⟨8, rfl, Or.inr ⟨NO.out, rfl⟩⟩, XN.out.below⟩)
            · simp only [zeroG] at g e1 e2 e3
              have NO : Hid (¬ okC cz) := Lib.hid (by rw [H0.out]; exact (show ¬ okC ⟨4, ⟨an, ay, ah, az, ac⟩, ⟨bn, by_, bh, bs, bc⟩, n⟩ from fun h => z0 (okC_4.1 h).1))
              clear gA gB H0 z0
              go_wp2_with fail
              all_goals (go_ret; exact ⟨⟨8, rfl, Or.inr ⟨NO.out, rfl⟩⟩, XN.out.below⟩)
            · simp only [zeroG] at g e1 e2 e3 e4
              have NO : Hid (¬ okC cz) := Lib.hid (by rw [H0.out]; exact (show ¬ okC ⟨4, ⟨an, ay, ah, az, ac⟩, ⟨bn, by_, bh, bs, bc⟩, n⟩ from fun h => z0 (okC_4.1 h).1))
              clear gA gB H0 z0
              go_wp2_with fail
              all_goals (go_ret; exact ⟨⟨8, rfl, Or.inr ⟨NO.out, rfl⟩⟩, XN.out.below⟩)
        · exact absurd (Classical.em _) n0
      have NO : Hid (¬ okC cz) := Lib.hid (by rw [H0.out]; exact (show ¬ okC ⟨k, ⟨an, ay, ah, az, ac⟩, ⟨bn, by_, bh, bs, bc⟩, n⟩ from okC_o k1 k2 k3 k4))
      clear gA gB H0 
      go_wp2_with fail
      all_goals (go_ret; exact ⟨⟨8, rfl, Or.inr ⟨NO.out, rfl⟩⟩, XN.out.below⟩)
    · have eB := GB'.out gB
      clear GB GB'
      by_cases k1 : k = 1
      · subst k1
        have NO : Hid (¬ okC cz) := Lib.hid (by rw [H0.out]; exact (show ¬ okC ⟨1, ⟨an, ay, ah, az, ac⟩, ⟨bn, by_, bh, bs, bc⟩, n⟩ from fun h => gA (okC_1.1 h).1))
        clear gA gB H0 
        go_wp2_with fail
        all_goals (go_ret; exact ⟨⟨8, rfl, Or.inr ⟨NO.out, rfl⟩⟩, XN.out.below⟩)
      by_cases k2 : k = 2
      · subst k2
        have NO : Hid (¬ okC cz) := Lib.hid (by rw [H0.out]; exact (show ¬ okC ⟨2, ⟨an, ay, ah, az, ac⟩, ⟨bn, by_, bh, bs, bc⟩, n⟩ from fun h => gA (okC_2.1 h).1))
        clear gA gB H0 
        go_wp2_with fail
        all_goals (go_ret; exact ⟨⟨8, rfl, Or.inr ⟨NO.out, rfl⟩⟩, XN.out.below⟩)
      by_cases k3 : k = 3
      · subst k3
        have NO : Hid (¬ okC cz) := Lib.hid (by rw [H0.out]; exact (show ¬ okC ⟨3, ⟨an, ay, ah, az, ac⟩, ⟨bn, by_, bh, bs, bc⟩, n⟩ from fun h => gA (okC_3.1 h).1))
        clear gA gB H0 
        go_wp2_with fail
        all_goals (go_ret; exact ⟨⟨8, rfl, Or.inr ⟨NO.out, rfl⟩⟩, XN.out.below⟩)
      by_cases k4 : k = 4
      · subst k4
        by_cases n0 : n = 0 ∨ n ≠ 0
        · skip
          by_cases z0 : (⟨an, ay, ah, az, ac⟩ : Dg) = zeroG
          · skip
            have za1 : an = 0 := congrArg Dg.n z0
            have za2 : ay = 0 := congrArg Dg.y z0
            have za3 : ah = 0 := congrArg Dg.h z0
            have za4 : az = 0 := congrArg Dg.s z0
            have za5 : ac = 0 := congrArg Dg.c z0
            by_cases y0 : (⟨bn, by_, bh, bs, bc⟩ : Dg) = zeroG
            · skip
              have yb1 : bn = 0 := congrArg Dg.n y0
              have yb2 : by_ = 0 := congrArg Dg.y y0
              have yb3 : bh = 0 := congrArg Dg.h y0
              have yb4 : bs = 0 := congrArg Dg.s y0
              have yb5 : bc = 0 := congrArg Dg.c y0
              by_cases p0 : 0 ≤ n
              · skip
                have NO : Hid (okC cz) := Lib.hid (by rw [H0.out]; exact (show okC ⟨4, ⟨an, ay, ah, az, ac⟩, ⟨bn, by_, bh, bs, bc⟩, n⟩ from okC_4.2 ⟨z0, y0, p0, nb⟩))
                clear gA gB H0 y0 z0
                go_wp2_with fail
                all_goals (go_ret; exact ⟨⟨0, rfl, Or.inl ⟨NO.out, rfl⟩⟩, XN.out.below⟩)
              · have p1 : decide (0 ≤ n) = false := decide_eq_false p0
                have NO : Hid (¬ okC cz) := Lib.hid (by rw [H0.out]; exact (show ¬ okC ⟨4, ⟨an, ay, ah, az, ac⟩, ⟨bn, by_, bh, bs, bc⟩, n⟩ from fun h => p0 (okC_4.1 h).2.2.1))
                clear gA gB H0 
                go_wp2_with fail
                all_goals (go_ret; exact ⟨⟨8, rfl, Or.inr ⟨NO.out, rfl⟩⟩, XN.out.below⟩)
            · skip
              rcases dg_ne y0 with g | ⟨e1, g⟩ | ⟨e1, e2, g⟩ | ⟨e1, e2, e3, g⟩ | ⟨e1, e2, e3, e4, g⟩
              · simp only [zeroG] at g
                have NO : Hid (¬ okC cz) := Lib.hid (by rw [H0.out]; exact (show ¬ okC ⟨4, ⟨an, ay, ah, az, ac⟩, ⟨bn, by_, bh, bs, bc⟩, n⟩ from fun h => y0 (okC_4.1 h).2.1))
                clear gA gB H0 y0
                go_wp2_with fail
                all_goals (go_ret; exact ⟨⟨8, rfl, Or.inr ⟨NO.out, rfl⟩⟩, XN.out.below⟩)
              · simp only [zeroG] at g e1
                have NO : Hid (¬ okC cz) := Lib.hid (by rw [H0.out]; exact (show ¬ okC ⟨4, ⟨an, ay, ah, az, ac⟩, ⟨bn, by_, bh, bs, bc⟩, n⟩ from fun h => y0 (okC_4.1 h).2.1))
                clear gA gB H0 y0
                go_wp2_with fail
                all_goals (go_ret; exact ⟨⟨8, rfl, Or.inr ⟨NO.out, rfl⟩⟩, XN.out.below⟩)
              · simp only [zeroG] at g e1 e2
                have NO : Hid (¬ okC cz) := Lib.hid (by rw [H0.out]; exact (show ¬ okC ⟨4, ⟨an, ay, ah, az, ac⟩, ⟨bn, by_, bh, bs, bc⟩, n⟩ from fun h => y0 (okC_4.1 h).2.1))
                clear gA gB H0 y0
                go_wp2_with fail
                all_goals (go_ret; exact ⟨⟨8, rfl, Or.inr ⟨NO.out, rfl⟩⟩, XN.out.below⟩)
              · simp only [zeroG] at g e1 e2 e3
                have NO : Hid (¬ okC cz) := Lib.hid (by rw [H0.out]; exact (show ¬ okC ⟨4, ⟨an, ay, ah, az, ac⟩, ⟨bn, by_, bh, bs, bc⟩, n⟩ from fun h => y0 (okC_4.1 h).2.1))
                clear gA gB H0 y0
                go_wp2_with fail
                all_goals (go_ret; exact ⟨⟨8, rfl, Or.inr ⟨NO.out, rfl⟩⟩, XN.out.below⟩)
              · simp only [zeroG] at g e1 e2 e3 e4
                have NO : Hid (¬ okC cz) := Lib.hid (by rw [H0.out]; exact (show ¬ okC ⟨4, ⟨an, ay, ah, az, ac⟩, ⟨bn, by_, bh, bs, bc⟩, n⟩ from fun h => y0 (okC_4.1 h).2.1))
                clear gA gB H0 y0
                go_wp2_with fail
                all_goals (go_ret; exact ⟨⟨8, rfl, Or.inr ⟨NO.out, rfl⟩⟩, XN.out.below⟩)
          · skip
            rcases dg_ne z0 with g | ⟨e1, g⟩ | ⟨e1, e2, g⟩ | ⟨e1, e2, e3, g⟩ | ⟨e1, e2, e3, e4, g⟩
            · simp only [zeroG] at g
              have NO : Hid (¬ okC cz) := Lib.hid (by rw [H0.out]; exact (show ¬ okC ⟨4, ⟨an, ay, ah, az, ac⟩, ⟨bn, by_, bh, bs, bc⟩, n⟩ from fun h => z0 (okC_4.1 h).1))
              clear gA gB H0 z0
              go_wp2_with fail
              all_goals (go_ret; exact ⟨⟨8, rfl, Or.inr ⟨NO.out, rfl⟩⟩, XN.out.below⟩)
            · simp only [zeroG] at g e1
              have NO : Hid (¬ okC cz) := Lib.hid (by rw [H0.out]; exact (show ¬ okC ⟨4, ⟨an, ay, ah, az, ac⟩, ⟨bn, by_, bh, bs, bc⟩, n⟩ from fun h => z0 (okC_4.1 h).1))
              clear gA gB H0 z0
              go_wp2_with fail
              all_goals (go_ret; exact ⟨⟨8, rfl, Or.inr ⟨NO.out, rfl⟩⟩, XN.out.below⟩)
            · simp only [zeroG] at g e1 e2
              have NO : Hid (¬ okC cz) := Lib.hid (by rw [H0.out]; exact (show ¬ okC ⟨4, ⟨an, ay, ah, az, ac⟩, ⟨bn, by_, bh, bs, bc⟩, n⟩ from fun h => z0 (okC_4.1 h).1))
              clear gA gB H0 z0
              go_wp2_with fail
              all_goals (go_ret; exact ⟨⟨8, rfl, Or.inr ⟨NO.out, rfl⟩⟩, XN.out.below⟩)
            · simp only [zeroG] at g e1 e2 e3
              have NO : Hid (¬ okC cz) := Lib.hid (by rw [H0.out]; exact (show ¬ okC ⟨4, ⟨an, ay, ah, az, ac⟩, ⟨bn, by_, bh, bs, bc⟩, n⟩ from fun h => z0 (okC_4.1 h).1))
              clear gA gB H0 z0
              go_wp2_with fail
              all_goals (go_ret; exact ⟨⟨8, rfl, Or.inr ⟨NO.out, rfl⟩⟩, XN.out.below⟩)
            · simp only [zeroG] at g e1 e2 e3 e4
              have NO : Hid (¬ okC cz) := Lib.hid (by rw [H0.out]; exact (show ¬ okC ⟨4, ⟨an, ay, ah, az, ac⟩, ⟨bn, by_, bh, bs, bc⟩, n⟩ from fun h => z0 (okC_4.1 h).1))
              clear gA gB H0 z0
              go_wp2_with fail
              all_goals (go_ret; exact ⟨⟨8, rfl, Or.inr ⟨NO.out, rfl⟩⟩, XN.out.below⟩)
        · exact absurd (Classical.em _) n0
      have NO : Hid (¬ okC cz) := Lib.hid (by rw [H0.out]; exact (show ¬ okC ⟨k, ⟨an, ay, ah, az, ac⟩, ⟨bn, by_, bh, bs, bc⟩, n⟩ from okC_o k1 k2 k3 k4))
      clear gA gB H0 
      go_wp2_with fail
      all_goals (go_ret; exact ⟨⟨8, rfl, Or.inr ⟨NO.out, rfl⟩⟩, XN.out.below⟩)
end Cgw
end Go.Proofs.YtafeigpmldgifaaDoor
/-
  The walk of change of the reference: its beginnings, so far.
-/
namespace Go.Proofs.YtafeigpmldgifaaDoor
namespace Cgw
open Go.RowKit Lw Go.Proofs.YtafeigpmldgifaaDoor.Dp Go.Proofs.YtafeigpmldgifaaDoor.Cgp Go.Proofs.YtafeigpmldgifaaDoor.Arw

theorem beh_yes (s b : ByteArray) (t : List UInt8) (h : s.data.toList = b.data.toList ++ t) (w : World) (hs : s.size ≤ 100000) (hb : b.size ≤ 100) :
    Calls Tryd.prog 30 #[.string s, .string b] w fun e w' => e = .returned (.tuple #[.string (strL t), .bool true]) ∧ w = w' := by
  refine (behind_any s b w hs hb).mono ?_
  rintro e w' ⟨r, ok, rfl, hr, _, rfl⟩
  rcases hr with ⟨h1, rfl⟩ | ⟨h1, _, _⟩
  · rw [h] at h1
    have ht := List.append_cancel_left h1
    have e : strL t = r := by
      apply ByteArray.ext
      apply Array.ext'
      exact ht
    rw [e]
    exact ⟨rfl, rfl⟩
  · exact absurd h (h1 t)
theorem beh_no (s b : ByteArray) (h : ∀ t, s.data.toList ≠ b.data.toList ++ t) (w : World) (hs : s.size ≤ 100000) (hb : b.size ≤ 100) :
    Calls Tryd.prog 30 #[.string s, .string b] w fun e w' => e = .returned (.tuple #[.string ⟨#[]⟩, .bool false]) ∧ w = w' := by
  refine (behind_any s b w hs hb).mono ?_
  rintro e w' ⟨r, ok, rfl, hr, _, rfl⟩
  rcases hr with ⟨h1, _⟩ | ⟨_, rfl, h3⟩
  · exact absurd h1 (h _)
  · have e : r = ⟨#[]⟩ := by
      apply ByteArray.ext
      apply Array.ext'
      exact h3
    rw [e]
    exact ⟨rfl, rfl⟩
/-- Two of the four words never begin the same line. -/
theorem word_first {u v t t' : List UInt8} {a b : UInt8} (h : a :: u ++ t = b :: v ++ t') : a = b := (List.cons.inj h).1
/-- A line that begins with a word of the four begins with no other one. -/
theorem ways (l : List UInt8) : (∃ t, l = addW ++ 32 :: t) ∨ (∃ t, l = joinW ++ 32 :: t) ∨ (∃ t, l = numW ++ 32 :: t) ∨ (∃ t, l = undoW ++ 32 :: t) ∨
    ((∀ t, l ≠ addW ++ 32 :: t) ∧ (∀ t, l ≠ joinW ++ 32 :: t) ∧ (∀ t, l ≠ numW ++ 32 :: t) ∧ (∀ t, l ≠ undoW ++ 32 :: t)) := by
  by_cases h1 : ∃ t, l = addW ++ 32 :: t
  · exact Or.inl h1
  by_cases h2 : ∃ t, l = joinW ++ 32 :: t
  · exact Or.inr (Or.inl h2)
  by_cases h3 : ∃ t, l = numW ++ 32 :: t
  · exact Or.inr (Or.inr (Or.inl h3))
  by_cases h4 : ∃ t, l = undoW ++ 32 :: t
  · exact Or.inr (Or.inr (Or.inr (Or.inl h4)))
  exact Or.inr (Or.inr (Or.inr (Or.inr ⟨fun t e => h1 ⟨t, e⟩, fun t e => h2 ⟨t, e⟩, fun t e => h3 ⟨t, e⟩, fun t e => h4 ⟨t, e⟩⟩)))
/-- The boxes of change: the result's, and the change's next to it. -/
theorem CY.two (w : World) : CY w (w.heap.size + 1) zeroC ((w.alloc (.cells (cgC zeroC).toArray 52)).alloc (.cells (cgC zeroC).toArray 52)) := by
  have e : (w.alloc (.cells (cgC zeroC).toArray 52)).heap.size = w.heap.size + 1 := by simp
  have r := Rw.new (w.alloc (.cells (cgC zeroC).toArray 52)) (cgC zeroC) 52
  have b := (Below.refl (w.alloc (.cells (cgC zeroC).toArray 52)).heap.size _).alloc (Nat.le_refl _) (.cells (cgC zeroC).toArray 52)
  rw [e] at r
  exact ⟨(Rw.new w (cgC zeroC) _).call b, r, Nat.lt_succ_self _, below_then ((Below.refl _ _).alloc (Nat.le_refl _) _) b⟩
def RChPost (s : ByteArray) (w : World) (e : Ending) (w' : World) : Prop := ∃ (c : Cg) (ok : Bool), e = .returned (.tuple #[.agg (cgC c).toArray, .bool ok]) ∧ (ok = true → RdIs s.data.toList c 0) ∧ (ok = false → RdIs s.data.toList zeroC 12) ∧ CB c ∧ Below w.heap.size w w'
set_option maxRecDepth 100000 in
set_option maxHeartbeats 4000000 in
theorem rchange_none (s : ByteArray) (w : World) (hs : s.size ≤ 1000)
    (h1 : ∀ t, s.data.toList ≠ addW ++ 32 :: t) (h2 : ∀ t, s.data.toList ≠ joinW ++ 32 :: t) (h3 : ∀ t, s.data.toList ≠ numW ++ 32 :: t) (h4 : ∀ t, s.data.toList ≠ undoW ++ 32 :: t) :
    Calls Tryd.prog 19 #[.string s] w (RChPost s w) := by
  have RC := Lib.hid (cand_0 h1 h2 h3 h4 zeroC)
  have B1 := Lib.hid (fun w' => beh_no s ⟨#[97, 100, 100, 32]⟩ (fun t => h1 t) w' (by omega) (by decide))
  have B2 := Lib.hid (fun w' => beh_no s ⟨#[106, 111, 105, 110, 32]⟩ (fun t => h2 t) w' (by omega) (by decide))
  have B3 := Lib.hid (fun w' => beh_no s ⟨#[110, 117, 109, 98, 101, 114, 32]⟩ (fun t => h3 t) w' (by omega) (by decide))
  have B4 := Lib.hid (fun w' => beh_no s ⟨#[117, 110, 100, 111, 32]⟩ (fun t => h4 t) w' (by omega) (by decide))
  have zno : ¬ okC zeroC := fun h => by rcases okC_k h with k | k | k | k <;> exact absurd k (by decide)
  have CK := Lib.hid (fun w' => (rmcheck_any zeroC w' CB.zero).mono (fun e w'' (h : ChkPost zeroC w' e w'') => show e = .returned (.int .i64 8) ∧ Below w'.heap.size w' w'' from by
    obtain ⟨⟨r, h1, h2⟩, hb⟩ := h
    rcases h2 with ⟨h2, _⟩ | ⟨_, h2⟩
    · exact absurd h2 zno
    · exact ⟨by rw [h1, h2], hb⟩))
  have Y0 := Lib.hid (CY.two w)
  generalize hw1 : (w.alloc (.cells (cgC zeroC).toArray 52)).alloc (.cells (cgC zeroC).toArray 52) = w1 at *
  have HW := Lib.hid hw1
  clear hw1
  clear h1 h2 h3 h4
  go_enter Tryd.func19, Tryd.ntmps19
  go_upto_region 2 with fail
  rw [show (w.alloc (.cells #[.int .u8 0, .int .i64 0, .int .i64 0, .int .u8 0, .int .u8 0, .int .i64 0, .int .i64 0, .int .i64 0, .int .u8 0, .int .u8 0, .int .i64 0, .int .i64 0] 52)).alloc (.cells #[.int .u8 0, .int .i64 0, .int .i64 0, .int .u8 0, .int .u8 0, .int .i64 0, .int .i64 0, .int .i64 0, .int .u8 0, .int .u8 0, .int .i64 0, .int .i64 0] 52) = w1 from HW.out]
  go_wp2_with fail
  refine (B1.out _).mono ?_
  rintro e w' ⟨rfl, rfl⟩
  clear B1
  go_wp2_with fail
  refine (B2.out _).mono ?_
  rintro e w' ⟨rfl, rfl⟩
  clear B2
  go_wp2_with fail
  refine (B3.out _).mono ?_
  rintro e w' ⟨rfl, rfl⟩
  clear B3
  go_wp2_with fail
  refine (B4.out _).mono ?_
  rintro e w' ⟨rfl, rfl⟩
  clear B4
  go_upto_region 18 with fail
  refine wp_region_held_drew (S := fun wx => CY w (w.heap.size + 1) zeroC wx) (by kernel_rfl) (Y0.out.call (Below.refl _ _).drew) (fun hHeld => ?_)
  clear Y0
  refine wpAnyH_take (i := 0) (oi := ?oi0) (v := ?v0) ?hi0 (by kernel_rfl) (by kernel_rfl) (by kernel_rfl) ?hq0 ?hy0 hHeld ?rest0
  case hi0 => ((try simp only [List.getElem?_toArray, List.getElem?_cons_succ, List.getElem?_cons_zero]); (try rfl))
  case hq0 => exact fun _ _ _ h => h
  case hy0 => exact Or.inl ⟨by rfl, by intro w hSw; have c0 := hSw.cell 0 (.int .u8 0) rfl; have c1 := hSw.cell 1 (.int .i64 0) rfl; have c2 := hSw.cell 2 (.int .i64 0) rfl; have c3 := hSw.cell 3 (.int .u8 0) rfl; have c4 := hSw.cell 4 (.int .u8 0) rfl; have c5 := hSw.cell 5 (.int .i64 0) rfl; have c6 := hSw.cell 6 (.int .i64 0) rfl; have c7 := hSw.cell 7 (.int .i64 0) rfl; have c8 := hSw.cell 8 (.int .u8 0) rfl; have c9 := hSw.cell 9 (.int .u8 0) rfl; have c10 := hSw.cell 10 (.int .i64 0) rfl; have c11 := hSw.cell 11 (.int .i64 0) rfl; clear hSw; go_simp; try with_reducible rfl⟩
  try simp only [Act.put, List.setIfInBounds_toArray, List.set_cons_zero, List.set_cons_succ]
  refine wpAnyH_take (i := 1) (oi := ?oi1) (v := ?v1) ?hi1 (by kernel_rfl) (by kernel_rfl) (by kernel_rfl) ?hq1 ?hy1 hHeld ?rest1
  case hi1 => ((try simp only [List.getElem?_toArray, List.getElem?_cons_succ, List.getElem?_cons_zero]); (try rfl))
  case hq1 => exact fun _ _ _ h => h
  case hy1 => exact Or.inl ⟨by rfl, by intro w hSw; have c0 := hSw.cell 0 (.int .u8 0) rfl; have c1 := hSw.cell 1 (.int .i64 0) rfl; have c2 := hSw.cell 2 (.int .i64 0) rfl; have c3 := hSw.cell 3 (.int .u8 0) rfl; have c4 := hSw.cell 4 (.int .u8 0) rfl; have c5 := hSw.cell 5 (.int .i64 0) rfl; have c6 := hSw.cell 6 (.int .i64 0) rfl; have c7 := hSw.cell 7 (.int .i64 0) rfl; have c8 := hSw.cell 8 (.int .u8 0) rfl; have c9 := hSw.cell 9 (.int .u8 0) rfl; have c10 := hSw.cell 10 (.int .i64 0) rfl; have c11 := hSw.cell 11 (.int .i64 0) rfl; clear hSw; go_simp; try with_reducible rfl⟩
  try simp only [Act.put, List.setIfInBounds_toArray, List.set_cons_zero, List.set_cons_succ]
  refine wpAnyH_ready (rs := [2]) (by kernel_rfl) (by simp) ?_
  refine AllReadyH.cons rfl (fun K' hK => ?_) AllReadyH.nil
  have H1 := Lib.hid hHeld
  clear hHeld
  go_simp
  refine (CK.out _).mono ?_
  rintro e wx ⟨rfl, hb⟩
  replace H1 := Lib.hid (H1.out.call hb)
  refine hK.out _ _ H1.out (fun hHeld => ?_)
  clear hK H1 hb
  try simp only [Act.put, List.setIfInBounds_toArray, List.set_cons_zero, List.set_cons_succ]
  refine wpAnyH_take (i := 3) (oi := ?oi3) (v := ?v3) ?hi3 (by kernel_rfl) (by kernel_rfl) (by kernel_rfl) ?hq3 ?hy3 hHeld ?rest3
  case hi3 => ((try simp only [List.getElem?_toArray, List.getElem?_cons_succ, List.getElem?_cons_zero]); (try rfl))
  case hq3 => exact fun _ _ _ h => h
  case hy3 => exact Or.inl ⟨by rfl, by intro w hSw; clear hSw; go_simp; try with_reducible rfl⟩
  try simp only [Act.put, List.setIfInBounds_toArray, List.set_cons_zero, List.set_cons_succ]
  refine wpAnyH_take (i := 4) (oi := ?oi4) (v := ?v4) ?hi4 (by kernel_rfl) (by kernel_rfl) (by kernel_rfl) ?hq4 ?hy4 hHeld ?rest4
  case hi4 => ((try simp only [List.getElem?_toArray, List.getElem?_cons_succ, List.getElem?_cons_zero]); (try rfl))
  case hq4 => exact fun _ _ _ h => h
  case hy4 => exact Or.inl ⟨by rfl, by intro w hSw; clear hSw; go_simp; try with_reducible rfl⟩
  try simp only [Act.put, List.setIfInBounds_toArray, List.set_cons_zero, List.set_cons_succ]
  refine wpAnyH_take (i := 5) (oi := ?oi5) (v := undef) ?hi5 (by kernel_rfl) (by kernel_rfl) (by kernel_rfl) ?hq5 ?hy5 hHeld ?rest5
  case hi5 => ((try simp only [List.getElem?_toArray, List.getElem?_cons_succ, List.getElem?_cons_zero]); (try rfl))
  case hq5 => exact fun _ _ _ h => h
  case hy5 => exact Or.inr ⟨by rfl, rfl⟩
  try simp only [Act.put, List.setIfInBounds_toArray, List.set_cons_zero, List.set_cons_succ]
  refine wpAnyH_take (i := 6) (oi := ?oi6) (v := undef) ?hi6 (by kernel_rfl) (by kernel_rfl) (by kernel_rfl) ?hq6 ?hy6 hHeld ?rest6
  case hi6 => ((try simp only [List.getElem?_toArray, List.getElem?_cons_succ, List.getElem?_cons_zero]); (try rfl))
  case hq6 => exact fun _ _ _ h => h
  case hy6 => exact Or.inr ⟨by rfl, rfl⟩
  try simp only [Act.put, List.setIfInBounds_toArray, List.set_cons_zero, List.set_cons_succ]
  refine wpAnyH_take (i := 7) (oi := ?oi7) (v := undef) ?hi7 (by kernel_rfl) (by kernel_rfl) (by kernel_rfl) ?hq7 ?hy7 hHeld ?rest7
  case hi7 => ((try simp only [List.getElem?_toArray, List.getElem?_cons_succ, List.getElem?_cons_zero]); (try rfl))
  case hq7 => exact fun _ _ _ h => h
  case hy7 => exact Or.inr ⟨by rfl, rfl⟩
  try simp only [Act.put, List.setIfInBounds_toArray, List.set_cons_zero, List.set_cons_succ]
  refine wpAnyH_take (i := 8) (oi := ?oi8) (v := undef) ?hi8 (by kernel_rfl) (by kernel_rfl) (by kernel_rfl) ?hq8 ?hy8 hHeld ?rest8
  case hi8 => ((try simp only [List.getElem?_toArray, List.getElem?_cons_succ, List.getElem?_cons_zero]); (try rfl))
  case hq8 => exact fun _ _ _ h => h
  case hy8 => exact Or.inr ⟨by rfl, rfl⟩
  try simp only [Act.put, List.setIfInBounds_toArray, List.set_cons_zero, List.set_cons_succ]
  refine wpAnyH_take (i := 9) (oi := ?oi9) (v := undef) ?hi9 (by kernel_rfl) (by kernel_rfl) (by kernel_rfl) ?hq9 ?hy9 hHeld ?rest9
  case hi9 => ((try simp only [List.getElem?_toArray, List.getElem?_cons_succ, List.getElem?_cons_zero]); (try rfl))
  case hq9 => exact fun _ _ _ h => h
  case hy9 => exact Or.inr ⟨by rfl, rfl⟩
  try simp only [Act.put, List.setIfInBounds_toArray, List.set_cons_zero, List.set_cons_succ]
  refine wpAnyH_take (i := 10) (oi := ?oi10) (v := ?v10) ?hi10 (by kernel_rfl) (by kernel_rfl) (by kernel_rfl) ?hq10 ?hy10 hHeld ?rest10
  case hi10 => ((try simp only [List.getElem?_toArray, List.getElem?_cons_succ, List.getElem?_cons_zero]); (try rfl))
  case hq10 => exact fun _ _ _ h => h
  case hy10 => exact Or.inl ⟨by rfl, by intro w hSw; clear hSw; go_simp; try with_reducible rfl⟩
  try simp only [Act.put, List.setIfInBounds_toArray, List.set_cons_zero, List.set_cons_succ]
  refine wpAnyH_ready (rs := [11]) (by kernel_rfl) (by simp) ?_
  refine AllReadyH.cons rfl (fun K' hK => ?_) AllReadyH.nil
  rw [if_pos (by rfl)]
  have TH := hHeld.res.th
  have H1 := Lib.hid hHeld
  have HZ := Lib.hid (hHeld.res.sets (cgC zeroC) rfl)
  have HY : Hid (CY w (w.heap.size + 1) zeroC (World.setCells wx w.heap.size 0 (cgC zeroC))) := Lib.hid ⟨HZ.out, H1.out.bx.sets_apart (cgC zeroC) (Nat.succ_ne_self _) 0, H1.out.lt, below_setCells w.heap.size (Nat.le_refl _) (cgC zeroC) 0 wx H1.out.below⟩
  clear hHeld H1 HZ
  refine wp_store_mid _ _ _ rfl w.heap.size 0 (cgC zeroC).toArray rfl rfl TH infoCg (cgone zeroC) ?_
  rw [List.toList_toArray]
  refine hK.out _ _ HY.out (fun hHeld => ?_)
  clear hK TH
  generalize World.setCells wx w.heap.size 0 (cgC zeroC) = w6 at *
  try simp only [Act.put, List.setIfInBounds_toArray, List.set_cons_zero, List.set_cons_succ]
  refine wpAnyH_take (i := 12) (oi := ?oi12) (v := ?v12) ?hi12 (by kernel_rfl) (by kernel_rfl) (by kernel_rfl) ?hq12 ?hy12 hHeld ?rest12
  case hi12 => ((try simp only [List.getElem?_toArray, List.getElem?_cons_succ, List.getElem?_cons_zero]); (try rfl))
  case hq12 => exact fun _ _ _ h => h
  case hy12 => exact Or.inl ⟨by rfl, by intro w hSw; clear hSw; go_simp; try with_reducible rfl⟩
  try simp only [Act.put, List.setIfInBounds_toArray, List.set_cons_zero, List.set_cons_succ]
  refine wpAnyH_done (by kernel_rfl) ?_ _
  clear hHeld
  go_wp2_with fail
  exact bodyPost_ret (ret_cell_tmp Tryd.results19 _ _ w.heap.size (cgC zeroC) _ rfl HY.out.res.row Tryd.underlying52 rfl infoCg) rfl ⟨zeroC, false, rfl, (fun h => by cases h), fun _ => RC.out.no (fun h => zno h.1), CB.zero, HY.out.below⟩
end Cgw
end Go.Proofs.YtafeigpmldgifaaDoor
/-
  The walk of change of the reference: the ways of lines that begin with a word of the four.
-/
namespace Go.Proofs.YtafeigpmldgifaaDoor
namespace Cgw
open Go.RowKit Lw Go.Proofs.YtafeigpmldgifaaDoor.Dp Go.Proofs.YtafeigpmldgifaaDoor.Cgp Go.Proofs.YtafeigpmldgifaaDoor.Arw

/-- The boxes, whatever the result's holds. -/
structure CZ (w0 : World) (b : Nat) (r c : Cg) (w : World) : Prop where
  res : Rw w w0.heap.size (cgC r)
  bx : Rw w b (cgC c)
  lt : w0.heap.size < b
  below : Below w0.heap.size w0 w
theorem CZ.of {w0 w : World} {b : Nat} {c : Cg} (h : CY w0 b c w) : CZ w0 b zeroC c w := ⟨h.res, h.bx, h.lt, h.below⟩
theorem CZ.call {w0 w w' : World} {b : Nat} {r c : Cg} (h : CZ w0 b r c w) (hb : Below w.heap.size w w') : CZ w0 b r c w' := ⟨h.res.call hb, h.bx.call hb, h.lt, below_then h.below hb⟩
theorem CZ.cell {w0 w : World} {b : Nat} {r c : Cg} (h : CZ w0 b r c w) (j : Nat) (v : Value) (hj : (cgC c)[j]? = some v) : w.cell? ⟨b, j, none⟩ = some v := h.bx.cell hj
theorem CZ.sets {w0 w : World} {b : Nat} {r c : Cg} (h : CZ w0 b r c w) : CZ w0 b c c (w.setCells w0.heap.size 0 (cgC c)) :=
  ⟨h.res.sets (cgC c) rfl, h.bx.sets_apart (cgC c) (Nat.ne_of_gt h.lt) 0, h.lt, below_setCells w0.heap.size (Nat.le_refl _) (cgC c) 0 w h.below⟩
end Cgw
end Go.Proofs.YtafeigpmldgifaaDoor
/-
  The walk of change of the reference: the way of a line that begins with add.
-/
namespace Go.Proofs.YtafeigpmldgifaaDoor
namespace Cgw
open Go.RowKit Lw Go.Proofs.YtafeigpmldgifaaDoor.Dp Go.Proofs.YtafeigpmldgifaaDoor.Cgp Go.Proofs.YtafeigpmldgifaaDoor.Arw

set_option maxRecDepth 100000 in
set_option maxHeartbeats 16000000 in
theorem rchange_add (s : ByteArray) (w : World) (hs : s.size ≤ 1000) (t : List UInt8) (h : s.data.toList = addW ++ 32 :: t) :
    Calls Tryd.prog 19 #[.string s] w (RChPost s w) := by
  have HL := Lib.hid h
  have zt : (strL t).size ≤ 1000 := by
    have e := congrArg List.length h
    have e1 : s.data.toList.length = s.size := rfl
    have e2 : (strL t).size = t.length := rfl
    rw [List.length_append, List.length_cons] at e
    omega
  have B1 := Lib.hid (fun w' => beh_yes s ⟨#[97, 100, 100, 32]⟩ t h w' (by omega) (by decide))
  have B2 := Lib.hid (fun w' => beh_no s ⟨#[106, 111, 105, 110, 32]⟩ (fun t' e => absurd (Option.some.inj (show some (97 : UInt8) = some 106 from congrArg List.head? (h.symm.trans e))) (by decide)) w' (by omega) (by decide))
  have B3 := Lib.hid (fun w' => beh_no s ⟨#[110, 117, 109, 98, 101, 114, 32]⟩ (fun t' e => absurd (Option.some.inj (show some (97 : UInt8) = some 110 from congrArg List.head? (h.symm.trans e))) (by decide)) w' (by omega) (by decide))
  have B4 := Lib.hid (fun w' => beh_no s ⟨#[117, 110, 100, 111, 32]⟩ (fun t' e => absurd (Option.some.inj (show some (97 : UInt8) = some 117 from congrArg List.head? (h.symm.trans e))) (by decide)) w' (by omega) (by decide))
  obtain ⟨S10, hS10⟩ : ∃ S, s ++ (⟨#[10]⟩ : ByteArray) = S := ⟨_, rfl⟩
  have S10L : Hid (S10.data.toList = s.data.toList ++ [10]) := Lib.hid (by rw [← hS10]; simp)
  have cat : ∀ w', (Go.Op.stringOp .add s ⟨#[10]⟩).run Tryd.prog w' = .ok (.string S10) w' := fun w' => by rw [run_string_add_sum (P := Tryd.prog) (w := w') _ _ (by have : (⟨#[10]⟩ : ByteArray).size = 1 := rfl; rw [this]; omega), ← hS10]
  clear hS10
  have Y0 := Lib.hid (CY.two w)
  generalize hw1 : (w.alloc (.cells (cgC zeroC).toArray 52)).alloc (.cells (cgC zeroC).toArray 52) = w1 at *
  have HW := Lib.hid hw1
  clear hw1 h
  obtain ⟨x, hx⟩ : ∃ x, strL t = x := ⟨_, rfl⟩
  have HX : Hid (x.data.toList = t) := Lib.hid (by rw [← hx]; rfl)
  rw [hx] at zt B1
  clear hx
  have c0 := Y0.out.cell 0 _ rfl
  have f0 := Y0.out.bx.free (j := 0) (by decide)
  have Y1 := Lib.hid (Y0.out.one 0 (.int .u8 1) ⟨1, zeroG, zeroG, 0⟩ (by decide) rfl)
  clear Y0
  have PA := Lib.hid (fun (x : ByteArray) w' h => Dw.rparse_any x w' h)
  have HA := Lib.hid (fun (x : ByteArray) w' h => halves_any x w' h)
  have NU := Lib.hid (fun (x : ByteArray) w' h => rnumber_any x w' h)
  go_enter Tryd.func19, Tryd.ntmps19
  go_upto_region 2 with fail
  rw [show (w.alloc (.cells #[.int .u8 0, .int .i64 0, .int .i64 0, .int .u8 0, .int .u8 0, .int .i64 0, .int .i64 0, .int .i64 0, .int .u8 0, .int .u8 0, .int .i64 0, .int .i64 0] 52)).alloc (.cells #[.int .u8 0, .int .i64 0, .int .i64 0, .int .u8 0, .int .u8 0, .int .i64 0, .int .i64 0, .int .i64 0, .int .u8 0, .int .u8 0, .int .i64 0, .int .i64 0] 52) = w1 from HW.out]
  go_wp2_with fail
  refine (B1.out _).mono ?_
  rintro e w' ⟨rfl, rfl⟩
  clear B1
  go_wp2_with fail
  generalize (w1.setCell ⟨w.heap.size + 1, 0, none⟩ (.int .u8 1)) = wk at *
  clear c0 f0
  refine (PA.out x _ (by omega)).mono ?_
  rintro e wp ⟨a, ka, rfl, hpa, hbp⟩
  have Y4 := Lib.hid (Y1.out.call hbp)
  have ba := Lib.hid (parse_bd hpa)
  have RC := Lib.hid (cand_1 HL.out (by rw [← HX.out]; exact hpa))
  clear Y1 hbp hpa PA HA NU
  have ta := Lib.hid (there_sub Y4.out.bx.th 1 5 (by show 1 + 5 ≤ 12; decide))
  have Y5 := Lib.hid (Y4.out.many 1 (dC a) ⟨1, a, zeroG, 0⟩ (by show 1 + 5 ≤ 12; decide) rfl)
  clear Y4
  obtain ⟨wa, hwa⟩ : ∃ wa, wp.setCells (w.heap.size + 1) 1 (dC a) = wa := ⟨_, rfl⟩
  rw [hwa] at Y5
  have HWA := Lib.hid hwa
  clear hwa
  go_wp2_with (refine wpList_store_mid rfl _ (.tmp 25) (.tmp 23) rfl (w.heap.size + 1) 1 (dC a).toArray rfl rfl ta.out infoDg (dgone a) ?_; rw [List.toList_toArray, HWA.out])
  clear ta HWA
  have Y := Y5
  clear Y5
  obtain ⟨c, hc⟩ : ∃ c, (⟨1, a, zeroG, 0⟩ : Cg) = c := ⟨_, rfl⟩
  have CBX : Hid (CB c) := Lib.hid (by
    rw [← hc]
    exact ⟨(show (0 : Int) ≤ 1 by decide), (show (1 : Int) < 256 by decide), ba.out.1, ba.out.2, (by decide : (0 ≤ (zeroG).h ∧ (zeroG).h < 256) ∧ (0 ≤ (zeroG).s ∧ (zeroG).s < 256)).1, (by decide : (0 ≤ (zeroG).h ∧ (zeroG).h < 256) ∧ (0 ≤ (zeroG).s ∧ (zeroG).s < 256)).2, (show (-9223372036854775808 : Int) ≤ 0 by decide), (show (0 : Int) ≤ 9223372036854775807 by decide)⟩)
  rw [hc] at Y RC
  clear hc
  refine (B2.out _).mono ?_
  rintro e w' ⟨rfl, rfl⟩
  clear B2
  go_wp2_with fail
  refine (B3.out _).mono ?_
  rintro e w' ⟨rfl, rfl⟩
  clear B3
  go_wp2_with fail
  refine (B4.out _).mono ?_
  rintro e w' ⟨rfl, rfl⟩
  clear B4
  go_upto_region 18 with fail
  have CK := Lib.hid (fun w' => rmcheck_any c w' CBX.out)
  by_cases ok : okC c
  · replace CK := Lib.hid (fun w' => (CK.out w').mono (fun e w'' (h : ChkPost c w' e w'') => show e = .returned (.int .i64 0) ∧ Below w'.heap.size w' w'' from by
      obtain ⟨⟨r, h1, h2⟩, hb⟩ := h
      rcases h2 with ⟨_, h2⟩ | ⟨h2, _⟩
      · exact ⟨by rw [h1, h2], hb⟩
      · exact absurd ok h2))
    have LI := Lib.hid (fun w' => rline_any c w' CBX.out ok)
    by_cases eq : lineC c = s.data.toList
    · have EQ : Hid (∀ t : ByteArray, t.data.toList = lineC c ++ [10] → (t.toList == S10.toList) = true) := Lib.hid (fun t ht => by rw [Lib.toList_data, Lib.toList_data, S10L.out, ht, eq]; exact beq_self_eq_true _)
      have RD : Hid (RdIs s.data.toList c 0) := Lib.hid (RCand.yes ok eq)
      clear ok eq RC S10L
      refine wp_region_held_drew (S := fun wx => ∃ r, CZ w (w.heap.size + 1) r c wx) (by kernel_rfl) ⟨_, (CZ.of Y.out).call (Below.refl _ _).drew⟩ (fun hHeld => ?_)
      clear Y
      refine wpAnyH_take (i := 0) (oi := ?oi0y) (v := ?v0y) ?hi0y (by kernel_rfl) (by kernel_rfl) (by kernel_rfl) ?hq0y ?hy0y hHeld ?rest0y
      case hi0y => ((try simp only [List.getElem?_toArray, List.getElem?_cons_succ, List.getElem?_cons_zero]); (try rfl))
      case hq0y => exact fun _ _ _ h => h
      case hy0y => exact Or.inl ⟨by rfl, by intro w hSw; obtain ⟨_, hc⟩ := hSw; have c0 := hc.cell 0 (.int .u8 c.k) rfl; have c1 := hc.cell 1 (.int .i64 c.a.n) rfl; have c2 := hc.cell 2 (.int .i64 c.a.y) rfl; have c3 := hc.cell 3 (.int .u8 c.a.h) rfl; have c4 := hc.cell 4 (.int .u8 c.a.s) rfl; have c5 := hc.cell 5 (.int .i64 c.a.c) rfl; have c6 := hc.cell 6 (.int .i64 c.b.n) rfl; have c7 := hc.cell 7 (.int .i64 c.b.y) rfl; have c8 := hc.cell 8 (.int .u8 c.b.h) rfl; have c9 := hc.cell 9 (.int .u8 c.b.s) rfl; have c10 := hc.cell 10 (.int .i64 c.b.c) rfl; have c11 := hc.cell 11 (.int .i64 c.n) rfl; clear hc; go_simp; try with_reducible rfl⟩
      try simp only [Act.put, List.setIfInBounds_toArray, List.set_cons_zero, List.set_cons_succ]
      refine wpAnyH_take (i := 1) (oi := ?oi1y) (v := ?v1y) ?hi1y (by kernel_rfl) (by kernel_rfl) (by kernel_rfl) ?hq1y ?hy1y hHeld ?rest1y
      case hi1y => ((try simp only [List.getElem?_toArray, List.getElem?_cons_succ, List.getElem?_cons_zero]); (try rfl))
      case hq1y => exact fun _ _ _ h => h
      case hy1y => exact Or.inl ⟨by rfl, by intro w hSw; obtain ⟨_, hc⟩ := hSw; have c0 := hc.cell 0 (.int .u8 c.k) rfl; have c1 := hc.cell 1 (.int .i64 c.a.n) rfl; have c2 := hc.cell 2 (.int .i64 c.a.y) rfl; have c3 := hc.cell 3 (.int .u8 c.a.h) rfl; have c4 := hc.cell 4 (.int .u8 c.a.s) rfl; have c5 := hc.cell 5 (.int .i64 c.a.c) rfl; have c6 := hc.cell 6 (.int .i64 c.b.n) rfl; have c7 := hc.cell 7 (.int .i64 c.b.y) rfl; have c8 := hc.cell 8 (.int .u8 c.b.h) rfl; have c9 := hc.cell 9 (.int .u8 c.b.s) rfl; have c10 := hc.cell 10 (.int .i64 c.b.c) rfl; have c11 := hc.cell 11 (.int .i64 c.n) rfl; clear hc; go_simp; try with_reducible rfl⟩
      try simp only [Act.put, List.setIfInBounds_toArray, List.set_cons_zero, List.set_cons_succ]
      refine wpAnyH_ready (rs := [2]) (by kernel_rfl) (by simp) ?_
      refine AllReadyH.cons rfl (fun K' hK => ?_) AllReadyH.nil
      have H1 := Lib.hid hHeld
      clear hHeld
      go_simp
      refine (CK.out _).mono ?_
      rintro e wx ⟨rfl, hb⟩
      replace H1 : Hid (∃ r, CZ w (w.heap.size + 1) r c wx) := Lib.hid (H1.out.elim fun r h => ⟨r, h.call hb⟩)
      refine hK.out _ _ H1.out (fun hHeld => ?_)
      clear hK H1 hb
      try simp only [Act.put, List.setIfInBounds_toArray, List.set_cons_zero, List.set_cons_succ]
      refine wpAnyH_take (i := 3) (oi := ?oi3y) (v := ?v3y) ?hi3y (by kernel_rfl) (by kernel_rfl) (by kernel_rfl) ?hq3y ?hy3y hHeld ?rest3y
      case hi3y => ((try simp only [List.getElem?_toArray, List.getElem?_cons_succ, List.getElem?_cons_zero]); (try rfl))
      case hq3y => exact fun _ _ _ h => h
      case hy3y => exact Or.inl ⟨by rfl, by intro w hSw; clear hSw; go_simp; try with_reducible rfl⟩
      try simp only [Act.put, List.setIfInBounds_toArray, List.set_cons_zero, List.set_cons_succ]
      refine wpAnyH_take (i := 4) (oi := ?oi4y) (v := ?v4y) ?hi4y (by kernel_rfl) (by kernel_rfl) (by kernel_rfl) ?hq4y ?hy4y hHeld ?rest4y
      case hi4y => ((try simp only [List.getElem?_toArray, List.getElem?_cons_succ, List.getElem?_cons_zero]); (try rfl))
      case hq4y => exact fun _ _ _ h => h
      case hy4y => exact Or.inl ⟨by rfl, by intro w hSw; clear hSw; go_simp; try with_reducible rfl⟩
      try simp only [Act.put, List.setIfInBounds_toArray, List.set_cons_zero, List.set_cons_succ]
      refine wpAnyH_take (i := 5) (oi := ?oi5y) (v := ?v5y) ?hi5y (by kernel_rfl) (by kernel_rfl) (by kernel_rfl) ?hq5y ?hy5y hHeld ?rest5y
      case hi5y => ((try simp only [List.getElem?_toArray, List.getElem?_cons_succ, List.getElem?_cons_zero]); (try rfl))
      case hq5y => exact fun _ _ _ h => h
      case hy5y => exact Or.inl ⟨by rfl, by intro w hSw; obtain ⟨_, hc⟩ := hSw; have c0 := hc.cell 0 (.int .u8 c.k) rfl; have c1 := hc.cell 1 (.int .i64 c.a.n) rfl; have c2 := hc.cell 2 (.int .i64 c.a.y) rfl; have c3 := hc.cell 3 (.int .u8 c.a.h) rfl; have c4 := hc.cell 4 (.int .u8 c.a.s) rfl; have c5 := hc.cell 5 (.int .i64 c.a.c) rfl; have c6 := hc.cell 6 (.int .i64 c.b.n) rfl; have c7 := hc.cell 7 (.int .i64 c.b.y) rfl; have c8 := hc.cell 8 (.int .u8 c.b.h) rfl; have c9 := hc.cell 9 (.int .u8 c.b.s) rfl; have c10 := hc.cell 10 (.int .i64 c.b.c) rfl; have c11 := hc.cell 11 (.int .i64 c.n) rfl; clear hc; go_simp; try with_reducible rfl⟩
      try simp only [Act.put, List.setIfInBounds_toArray, List.set_cons_zero, List.set_cons_succ]
      refine wpAnyH_take (i := 7) (oi := ?oi7y) (v := ?v7y) ?hi7y (by kernel_rfl) (by kernel_rfl) (by kernel_rfl) ?hq7y ?hy7y hHeld ?rest7y
      case hi7y => ((try simp only [List.getElem?_toArray, List.getElem?_cons_succ, List.getElem?_cons_zero]); (try rfl))
      case hq7y => exact fun _ _ _ h => h
      case hy7y => exact Or.inl ⟨by rfl, by intro w hSw; clear hSw; go_simp; try with_reducible rfl⟩
      try simp only [Act.put, List.setIfInBounds_toArray, List.set_cons_zero, List.set_cons_succ]
      refine wpAnyH_take (i := 8) (oi := ?oi8y) (v := ?v8y) ?hi8y (by kernel_rfl) (by kernel_rfl) (by kernel_rfl) ?hq8y ?hy8y hHeld ?rest8y
      case hi8y => ((try simp only [List.getElem?_toArray, List.getElem?_cons_succ, List.getElem?_cons_zero]); (try rfl))
      case hq8y => exact fun _ _ _ h => h
      case hy8y => exact Or.inl ⟨by rfl, by intro w hSw; clear hSw; go_simp; try with_reducible rfl⟩
      try simp only [Act.put, List.setIfInBounds_toArray, List.set_cons_zero, List.set_cons_succ]
      refine wpAnyH_ready (rs := [6]) (by kernel_rfl) (by simp) ?_
      refine AllReadyH.cons rfl (fun K' hK => ?_) AllReadyH.nil
      have H1 := Lib.hid hHeld
      clear hHeld
      go_simp
      refine (LI.out _).mono ?_
      rintro e wx ⟨t, rfl, ht, zt, hb⟩
      replace H1 : Hid (∃ r, CZ w (w.heap.size + 1) r c wx) := Lib.hid (H1.out.elim fun r h => ⟨r, h.call hb⟩)
      have f1 := EQ.out t ht
      clear ht zt
      refine hK.out _ _ H1.out (fun hHeld => ?_)
      clear hK H1 hb
      try simp only [Act.put, List.setIfInBounds_toArray, List.set_cons_zero, List.set_cons_succ]
      refine wpAnyH_take (i := 9) (oi := ?oi9y) (v := ?v9y) ?hi9y (by kernel_rfl) (by kernel_rfl) (by kernel_rfl) ?hq9y ?hy9y hHeld ?rest9y
      case hi9y => ((try simp only [List.getElem?_toArray, List.getElem?_cons_succ, List.getElem?_cons_zero]); (try rfl))
      case hq9y => exact fun _ _ _ h => h
      case hy9y => exact Or.inl ⟨by rfl, by intro w hSw; clear hSw; go_simp; try with_reducible rfl⟩
      try simp only [Act.put, List.setIfInBounds_toArray, List.set_cons_zero, List.set_cons_succ]
      refine wpAnyH_take (i := 10) (oi := ?oi10y) (v := ?v10y) ?hi10y (by kernel_rfl) (by kernel_rfl) (by kernel_rfl) ?hq10y ?hy10y hHeld ?rest10y
      case hi10y => ((try simp only [List.getElem?_toArray, List.getElem?_cons_succ, List.getElem?_cons_zero]); (try rfl))
      case hq10y => exact fun _ _ _ h => h
      case hy10y => exact Or.inl ⟨by rfl, by intro w hSw; clear hSw; go_simp; try with_reducible rfl⟩
      try simp only [Act.put, List.setIfInBounds_toArray, List.set_cons_zero, List.set_cons_succ]
      refine wpAnyH_ready (rs := [11]) (by kernel_rfl) (by simp) ?_
      refine AllReadyH.cons rfl (fun K' hK => ?_) AllReadyH.nil
      rw [if_pos (by rfl)]
      obtain ⟨r, hr⟩ := hHeld
      have TH := hr.res.th
      have HZ := Lib.hid (hr.sets)
      clear hr
      refine wp_store_mid _ _ _ rfl w.heap.size 0 (cgC c).toArray rfl rfl TH infoCg (cgone c) ?_
      rw [List.toList_toArray]
      refine hK.out _ _ ⟨c, HZ.out⟩ (fun hHeld => ?_)
      clear hK TH
      generalize World.setCells _ w.heap.size 0 (cgC c) = w6 at *
      try simp only [Act.put, List.setIfInBounds_toArray, List.set_cons_zero, List.set_cons_succ]
      refine wpAnyH_take (i := 12) (oi := ?oi12y) (v := ?v12y) ?hi12y (by kernel_rfl) (by kernel_rfl) (by kernel_rfl) ?hq12y ?hy12y hHeld ?rest12y
      case hi12y => ((try simp only [List.getElem?_toArray, List.getElem?_cons_succ, List.getElem?_cons_zero]); (try rfl))
      case hq12y => exact fun _ _ _ h => h
      case hy12y => exact Or.inl ⟨by rfl, by intro w hSw; clear hSw; go_simp; try with_reducible rfl⟩
      try simp only [Act.put, List.setIfInBounds_toArray, List.set_cons_zero, List.set_cons_succ]
      refine wpAnyH_done (by kernel_rfl) ?_ _
      clear hHeld
      go_wp2_with fail
      exact bodyPost_ret (ret_cell_tmp Tryd.results19 _ _ w.heap.size (cgC c) _ rfl HZ.out.res.row Tryd.underlying52 rfl infoCg) rfl ⟨c, true, rfl, fun _ => RD.out, (fun h => by cases h), CBX.out, HZ.out.below⟩
    · have EQ : Hid (∀ t : ByteArray, t.data.toList = lineC c ++ [10] → (t.toList == S10.toList) = false) := Lib.hid (fun t ht => beq_eq_false_iff_ne.2 (by rw [Lib.toList_data, Lib.toList_data, S10L.out, ht]; exact fun e => eq (List.append_cancel_right e)))
      have RD : Hid (RdIs s.data.toList zeroC 12) := Lib.hid (RC.out.no (fun h => eq h.2))
      clear ok eq RC S10L
      refine wp_region_held_drew (S := fun wx => ∃ r, CZ w (w.heap.size + 1) r c wx) (by kernel_rfl) ⟨_, (CZ.of Y.out).call (Below.refl _ _).drew⟩ (fun hHeld => ?_)
      clear Y
      refine wpAnyH_take (i := 0) (oi := ?oi0o) (v := ?v0o) ?hi0o (by kernel_rfl) (by kernel_rfl) (by kernel_rfl) ?hq0o ?hy0o hHeld ?rest0o
      case hi0o => ((try simp only [List.getElem?_toArray, List.getElem?_cons_succ, List.getElem?_cons_zero]); (try rfl))
      case hq0o => exact fun _ _ _ h => h
      case hy0o => exact Or.inl ⟨by rfl, by intro w hSw; obtain ⟨_, hc⟩ := hSw; have c0 := hc.cell 0 (.int .u8 c.k) rfl; have c1 := hc.cell 1 (.int .i64 c.a.n) rfl; have c2 := hc.cell 2 (.int .i64 c.a.y) rfl; have c3 := hc.cell 3 (.int .u8 c.a.h) rfl; have c4 := hc.cell 4 (.int .u8 c.a.s) rfl; have c5 := hc.cell 5 (.int .i64 c.a.c) rfl; have c6 := hc.cell 6 (.int .i64 c.b.n) rfl; have c7 := hc.cell 7 (.int .i64 c.b.y) rfl; have c8 := hc.cell 8 (.int .u8 c.b.h) rfl; have c9 := hc.cell 9 (.int .u8 c.b.s) rfl; have c10 := hc.cell 10 (.int .i64 c.b.c) rfl; have c11 := hc.cell 11 (.int .i64 c.n) rfl; clear hc; go_simp; try with_reducible rfl⟩
      try simp only [Act.put, List.setIfInBounds_toArray, List.set_cons_zero, List.set_cons_succ]
      refine wpAnyH_take (i := 1) (oi := ?oi1o) (v := ?v1o) ?hi1o (by kernel_rfl) (by kernel_rfl) (by kernel_rfl) ?hq1o ?hy1o hHeld ?rest1o
      case hi1o => ((try simp only [List.getElem?_toArray, List.getElem?_cons_succ, List.getElem?_cons_zero]); (try rfl))
      case hq1o => exact fun _ _ _ h => h
      case hy1o => exact Or.inl ⟨by rfl, by intro w hSw; obtain ⟨_, hc⟩ := hSw; have c0 := hc.cell 0 (.int .u8 c.k) rfl; have c1 := hc.cell 1 (.int .i64 c.a.n) rfl; have c2 := hc.cell 2 (.int .i64 c.a.y) rfl; have c3 := hc.cell 3 (.int .u8 c.a.h) rfl; have c4 := hc.cell 4 (.int .u8 c.a.s) rfl; have c5 := hc.cell 5 (.int .i64 c.a.c) rfl; have c6 := hc.cell 6 (.int .i64 c.b.n) rfl; have c7 := hc.cell 7 (.int .i64 c.b.y) rfl; have c8 := hc.cell 8 (.int .u8 c.b.h) rfl; have c9 := hc.cell 9 (.int .u8 c.b.s) rfl; have c10 := hc.cell 10 (.int .i64 c.b.c) rfl; have c11 := hc.cell 11 (.int .i64 c.n) rfl; clear hc; go_simp; try with_reducible rfl⟩
      try simp only [Act.put, List.setIfInBounds_toArray, List.set_cons_zero, List.set_cons_succ]
      refine wpAnyH_ready (rs := [2]) (by kernel_rfl) (by simp) ?_
      refine AllReadyH.cons rfl (fun K' hK => ?_) AllReadyH.nil
      have H1 := Lib.hid hHeld
      clear hHeld
      go_simp
      refine (CK.out _).mono ?_
      rintro e wx ⟨rfl, hb⟩
      replace H1 : Hid (∃ r, CZ w (w.heap.size + 1) r c wx) := Lib.hid (H1.out.elim fun r h => ⟨r, h.call hb⟩)
      refine hK.out _ _ H1.out (fun hHeld => ?_)
      clear hK H1 hb
      try simp only [Act.put, List.setIfInBounds_toArray, List.set_cons_zero, List.set_cons_succ]
      refine wpAnyH_take (i := 3) (oi := ?oi3o) (v := ?v3o) ?hi3o (by kernel_rfl) (by kernel_rfl) (by kernel_rfl) ?hq3o ?hy3o hHeld ?rest3o
      case hi3o => ((try simp only [List.getElem?_toArray, List.getElem?_cons_succ, List.getElem?_cons_zero]); (try rfl))
      case hq3o => exact fun _ _ _ h => h
      case hy3o => exact Or.inl ⟨by rfl, by intro w hSw; clear hSw; go_simp; try with_reducible rfl⟩
      try simp only [Act.put, List.setIfInBounds_toArray, List.set_cons_zero, List.set_cons_succ]
      refine wpAnyH_take (i := 4) (oi := ?oi4o) (v := ?v4o) ?hi4o (by kernel_rfl) (by kernel_rfl) (by kernel_rfl) ?hq4o ?hy4o hHeld ?rest4o
      case hi4o => ((try simp only [List.getElem?_toArray, List.getElem?_cons_succ, List.getElem?_cons_zero]); (try rfl))
      case hq4o => exact fun _ _ _ h => h
      case hy4o => exact Or.inl ⟨by rfl, by intro w hSw; clear hSw; go_simp; try with_reducible rfl⟩
      try simp only [Act.put, List.setIfInBounds_toArray, List.set_cons_zero, List.set_cons_succ]
      refine wpAnyH_take (i := 5) (oi := ?oi5o) (v := ?v5o) ?hi5o (by kernel_rfl) (by kernel_rfl) (by kernel_rfl) ?hq5o ?hy5o hHeld ?rest5o
      case hi5o => ((try simp only [List.getElem?_toArray, List.getElem?_cons_succ, List.getElem?_cons_zero]); (try rfl))
      case hq5o => exact fun _ _ _ h => h
      case hy5o => exact Or.inl ⟨by rfl, by intro w hSw; obtain ⟨_, hc⟩ := hSw; have c0 := hc.cell 0 (.int .u8 c.k) rfl; have c1 := hc.cell 1 (.int .i64 c.a.n) rfl; have c2 := hc.cell 2 (.int .i64 c.a.y) rfl; have c3 := hc.cell 3 (.int .u8 c.a.h) rfl; have c4 := hc.cell 4 (.int .u8 c.a.s) rfl; have c5 := hc.cell 5 (.int .i64 c.a.c) rfl; have c6 := hc.cell 6 (.int .i64 c.b.n) rfl; have c7 := hc.cell 7 (.int .i64 c.b.y) rfl; have c8 := hc.cell 8 (.int .u8 c.b.h) rfl; have c9 := hc.cell 9 (.int .u8 c.b.s) rfl; have c10 := hc.cell 10 (.int .i64 c.b.c) rfl; have c11 := hc.cell 11 (.int .i64 c.n) rfl; clear hc; go_simp; try with_reducible rfl⟩
      try simp only [Act.put, List.setIfInBounds_toArray, List.set_cons_zero, List.set_cons_succ]
      refine wpAnyH_take (i := 7) (oi := ?oi7o) (v := ?v7o) ?hi7o (by kernel_rfl) (by kernel_rfl) (by kernel_rfl) ?hq7o ?hy7o hHeld ?rest7o
      case hi7o => ((try simp only [List.getElem?_toArray, List.getElem?_cons_succ, List.getElem?_cons_zero]); (try rfl))
      case hq7o => exact fun _ _ _ h => h
      case hy7o => exact Or.inl ⟨by rfl, by intro w hSw; clear hSw; go_simp; try with_reducible rfl⟩
      try simp only [Act.put, List.setIfInBounds_toArray, List.set_cons_zero, List.set_cons_succ]
      refine wpAnyH_take (i := 8) (oi := ?oi8o) (v := ?v8o) ?hi8o (by kernel_rfl) (by kernel_rfl) (by kernel_rfl) ?hq8o ?hy8o hHeld ?rest8o
      case hi8o => ((try simp only [List.getElem?_toArray, List.getElem?_cons_succ, List.getElem?_cons_zero]); (try rfl))
      case hq8o => exact fun _ _ _ h => h
      case hy8o => exact Or.inl ⟨by rfl, by intro w hSw; clear hSw; go_simp; try with_reducible rfl⟩
      try simp only [Act.put, List.setIfInBounds_toArray, List.set_cons_zero, List.set_cons_succ]
      refine wpAnyH_ready (rs := [6]) (by kernel_rfl) (by simp) ?_
      refine AllReadyH.cons rfl (fun K' hK => ?_) AllReadyH.nil
      have H1 := Lib.hid hHeld
      clear hHeld
      go_simp
      refine (LI.out _).mono ?_
      rintro e wx ⟨t, rfl, ht, zt, hb⟩
      replace H1 : Hid (∃ r, CZ w (w.heap.size + 1) r c wx) := Lib.hid (H1.out.elim fun r h => ⟨r, h.call hb⟩)
      have f1 := EQ.out t ht
      clear ht zt
      refine hK.out _ _ H1.out (fun hHeld => ?_)
      clear hK H1 hb
      try simp only [Act.put, List.setIfInBounds_toArray, List.set_cons_zero, List.set_cons_succ]
      refine wpAnyH_take (i := 9) (oi := ?oi9o) (v := ?v9o) ?hi9o (by kernel_rfl) (by kernel_rfl) (by kernel_rfl) ?hq9o ?hy9o hHeld ?rest9o
      case hi9o => ((try simp only [List.getElem?_toArray, List.getElem?_cons_succ, List.getElem?_cons_zero]); (try rfl))
      case hq9o => exact fun _ _ _ h => h
      case hy9o => exact Or.inl ⟨by rfl, by intro w hSw; clear hSw; go_simp; try with_reducible rfl⟩
      try simp only [Act.put, List.setIfInBounds_toArray, List.set_cons_zero, List.set_cons_succ]
      refine wpAnyH_take (i := 10) (oi := ?oi10o) (v := ?v10o) ?hi10o (by kernel_rfl) (by kernel_rfl) (by kernel_rfl) ?hq10o ?hy10o hHeld ?rest10o
      case hi10o => ((try simp only [List.getElem?_toArray, List.getElem?_cons_succ, List.getElem?_cons_zero]); (try rfl))
      case hq10o => exact fun _ _ _ h => h
      case hy10o => exact Or.inl ⟨by rfl, by intro w hSw; clear hSw; go_simp; try with_reducible rfl⟩
      try simp only [Act.put, List.setIfInBounds_toArray, List.set_cons_zero, List.set_cons_succ]
      refine wpAnyH_ready (rs := [11]) (by kernel_rfl) (by simp) ?_
      refine AllReadyH.cons rfl (fun K' hK => ?_) AllReadyH.nil
      rw [if_pos (by rfl)]
      obtain ⟨r, hr⟩ := hHeld
      have TH := hr.res.th
      have HZ := Lib.hid (hr.sets)
      clear hr
      refine wp_store_mid _ _ _ rfl w.heap.size 0 (cgC c).toArray rfl rfl TH infoCg (cgone c) ?_
      rw [List.toList_toArray]
      refine hK.out _ _ ⟨c, HZ.out⟩ (fun hHeld => ?_)
      clear hK TH
      generalize World.setCells _ w.heap.size 0 (cgC c) = w6 at *
      try simp only [Act.put, List.setIfInBounds_toArray, List.set_cons_zero, List.set_cons_succ]
      refine wpAnyH_take (i := 12) (oi := ?oi12o) (v := ?v12o) ?hi12o (by kernel_rfl) (by kernel_rfl) (by kernel_rfl) ?hq12o ?hy12o hHeld ?rest12o
      case hi12o => ((try simp only [List.getElem?_toArray, List.getElem?_cons_succ, List.getElem?_cons_zero]); (try rfl))
      case hq12o => exact fun _ _ _ h => h
      case hy12o => exact Or.inl ⟨by rfl, by intro w hSw; clear hSw; go_simp; try with_reducible rfl⟩
      try simp only [Act.put, List.setIfInBounds_toArray, List.set_cons_zero, List.set_cons_succ]
      refine wpAnyH_done (by kernel_rfl) ?_ _
      clear hHeld
      go_wp2_with fail
      exact bodyPost_ret (ret_cell_tmp Tryd.results19 _ _ w.heap.size (cgC c) _ rfl HZ.out.res.row Tryd.underlying52 rfl infoCg) rfl ⟨c, false, rfl, (fun h => by cases h), fun _ => RD.out, CBX.out, HZ.out.below⟩
  · replace CK := Lib.hid (fun w' => (CK.out w').mono (fun e w'' (h : ChkPost c w' e w'') => show e = .returned (.int .i64 8) ∧ Below w'.heap.size w' w'' from by
      obtain ⟨⟨r, h1, h2⟩, hb⟩ := h
      rcases h2 with ⟨h2, _⟩ | ⟨_, h2⟩
      · exact absurd h2 ok
      · exact ⟨by rw [h1, h2], hb⟩))
    have RD : Hid (RdIs s.data.toList zeroC 12) := Lib.hid (RC.out.no (fun h => ok h.1))
    clear ok RC S10L cat
    refine wp_region_held_drew (S := fun wx => ∃ r, CZ w (w.heap.size + 1) r c wx) (by kernel_rfl) ⟨_, (CZ.of Y.out).call (Below.refl _ _).drew⟩ (fun hHeld => ?_)
    clear Y
    refine wpAnyH_take (i := 0) (oi := ?oi0n) (v := ?v0n) ?hi0n (by kernel_rfl) (by kernel_rfl) (by kernel_rfl) ?hq0n ?hy0n hHeld ?rest0n
    case hi0n => ((try simp only [List.getElem?_toArray, List.getElem?_cons_succ, List.getElem?_cons_zero]); (try rfl))
    case hq0n => exact fun _ _ _ h => h
    case hy0n => exact Or.inl ⟨by rfl, by intro w hSw; obtain ⟨_, hc⟩ := hSw; have c0 := hc.cell 0 (.int .u8 c.k) rfl; have c1 := hc.cell 1 (.int .i64 c.a.n) rfl; have c2 := hc.cell 2 (.int .i64 c.a.y) rfl; have c3 := hc.cell 3 (.int .u8 c.a.h) rfl; have c4 := hc.cell 4 (.int .u8 c.a.s) rfl; have c5 := hc.cell 5 (.int .i64 c.a.c) rfl; have c6 := hc.cell 6 (.int .i64 c.b.n) rfl; have c7 := hc.cell 7 (.int .i64 c.b.y) rfl; have c8 := hc.cell 8 (.int .u8 c.b.h) rfl; have c9 := hc.cell 9 (.int .u8 c.b.s) rfl; have c10 := hc.cell 10 (.int .i64 c.b.c) rfl; have c11 := hc.cell 11 (.int .i64 c.n) rfl; clear hc; go_simp; try with_reducible rfl⟩
    try simp only [Act.put, List.setIfInBounds_toArray, List.set_cons_zero, List.set_cons_succ]
    refine wpAnyH_take (i := 1) (oi := ?oi1n) (v := ?v1n) ?hi1n (by kernel_rfl) (by kernel_rfl) (by kernel_rfl) ?hq1n ?hy1n hHeld ?rest1n
    case hi1n => ((try simp only [List.getElem?_toArray, List.getElem?_cons_succ, List.getElem?_cons_zero]); (try rfl))
    case hq1n => exact fun _ _ _ h => h
    case hy1n => exact Or.inl ⟨by rfl, by intro w hSw; obtain ⟨_, hc⟩ := hSw; have c0 := hc.cell 0 (.int .u8 c.k) rfl; have c1 := hc.cell 1 (.int .i64 c.a.n) rfl; have c2 := hc.cell 2 (.int .i64 c.a.y) rfl; have c3 := hc.cell 3 (.int .u8 c.a.h) rfl; have c4 := hc.cell 4 (.int .u8 c.a.s) rfl; have c5 := hc.cell 5 (.int .i64 c.a.c) rfl; have c6 := hc.cell 6 (.int .i64 c.b.n) rfl; have c7 := hc.cell 7 (.int .i64 c.b.y) rfl; have c8 := hc.cell 8 (.int .u8 c.b.h) rfl; have c9 := hc.cell 9 (.int .u8 c.b.s) rfl; have c10 := hc.cell 10 (.int .i64 c.b.c) rfl; have c11 := hc.cell 11 (.int .i64 c.n) rfl; clear hc; go_simp; try with_reducible rfl⟩
    try simp only [Act.put, List.setIfInBounds_toArray, List.set_cons_zero, List.set_cons_succ]
    refine wpAnyH_ready (rs := [2]) (by kernel_rfl) (by simp) ?_
    refine AllReadyH.cons rfl (fun K' hK => ?_) AllReadyH.nil
    have H1 := Lib.hid hHeld
    clear hHeld
    go_simp
    refine (CK.out _).mono ?_
    rintro e wx ⟨rfl, hb⟩
    replace H1 : Hid (∃ r, CZ w (w.heap.size + 1) r c wx) := Lib.hid (H1.out.elim fun r h => ⟨r, h.call hb⟩)
    refine hK.out _ _ H1.out (fun hHeld => ?_)
    clear hK H1 hb
    try simp only [Act.put, List.setIfInBounds_toArray, List.set_cons_zero, List.set_cons_succ]
    refine wpAnyH_take (i := 3) (oi := ?oi3n) (v := ?v3n) ?hi3n (by kernel_rfl) (by kernel_rfl) (by kernel_rfl) ?hq3n ?hy3n hHeld ?rest3n
    case hi3n => ((try simp only [List.getElem?_toArray, List.getElem?_cons_succ, List.getElem?_cons_zero]); (try rfl))
    case hq3n => exact fun _ _ _ h => h
    case hy3n => exact Or.inl ⟨by rfl, by intro w hSw; clear hSw; go_simp; try with_reducible rfl⟩
    try simp only [Act.put, List.setIfInBounds_toArray, List.set_cons_zero, List.set_cons_succ]
    refine wpAnyH_take (i := 4) (oi := ?oi4n) (v := ?v4n) ?hi4n (by kernel_rfl) (by kernel_rfl) (by kernel_rfl) ?hq4n ?hy4n hHeld ?rest4n
    case hi4n => ((try simp only [List.getElem?_toArray, List.getElem?_cons_succ, List.getElem?_cons_zero]); (try rfl))
    case hq4n => exact fun _ _ _ h => h
    case hy4n => exact Or.inl ⟨by rfl, by intro w hSw; clear hSw; go_simp; try with_reducible rfl⟩
    try simp only [Act.put, List.setIfInBounds_toArray, List.set_cons_zero, List.set_cons_succ]
    refine wpAnyH_take (i := 5) (oi := ?oi5n) (v := undef) ?hi5n (by kernel_rfl) (by kernel_rfl) (by kernel_rfl) ?hq5n ?hy5n hHeld ?rest5n
    case hi5n => ((try simp only [List.getElem?_toArray, List.getElem?_cons_succ, List.getElem?_cons_zero]); (try rfl))
    case hq5n => exact fun _ _ _ h => h
    case hy5n => exact Or.inr ⟨by rfl, rfl⟩
    try simp only [Act.put, List.setIfInBounds_toArray, List.set_cons_zero, List.set_cons_succ]
    refine wpAnyH_take (i := 6) (oi := ?oi6n) (v := undef) ?hi6n (by kernel_rfl) (by kernel_rfl) (by kernel_rfl) ?hq6n ?hy6n hHeld ?rest6n
    case hi6n => ((try simp only [List.getElem?_toArray, List.getElem?_cons_succ, List.getElem?_cons_zero]); (try rfl))
    case hq6n => exact fun _ _ _ h => h
    case hy6n => exact Or.inr ⟨by rfl, rfl⟩
    try simp only [Act.put, List.setIfInBounds_toArray, List.set_cons_zero, List.set_cons_succ]
    refine wpAnyH_take (i := 7) (oi := ?oi7n) (v := undef) ?hi7n (by kernel_rfl) (by kernel_rfl) (by kernel_rfl) ?hq7n ?hy7n hHeld ?rest7n
    case hi7n => ((try simp only [List.getElem?_toArray, List.getElem?_cons_succ, List.getElem?_cons_zero]); (try rfl))
    case hq7n => exact fun _ _ _ h => h
    case hy7n => exact Or.inr ⟨by rfl, rfl⟩
    try simp only [Act.put, List.setIfInBounds_toArray, List.set_cons_zero, List.set_cons_succ]
    refine wpAnyH_take (i := 8) (oi := ?oi8n) (v := undef) ?hi8n (by kernel_rfl) (by kernel_rfl) (by kernel_rfl) ?hq8n ?hy8n hHeld ?rest8n
    case hi8n => ((try simp only [List.getElem?_toArray, List.getElem?_cons_succ, List.getElem?_cons_zero]); (try rfl))
    case hq8n => exact fun _ _ _ h => h
    case hy8n => exact Or.inr ⟨by rfl, rfl⟩
    try simp only [Act.put, List.setIfInBounds_toArray, List.set_cons_zero, List.set_cons_succ]
    refine wpAnyH_take (i := 9) (oi := ?oi9n) (v := undef) ?hi9n (by kernel_rfl) (by kernel_rfl) (by kernel_rfl) ?hq9n ?hy9n hHeld ?rest9n
    case hi9n => ((try simp only [List.getElem?_toArray, List.getElem?_cons_succ, List.getElem?_cons_zero]); (try rfl))
    case hq9n => exact fun _ _ _ h => h
    case hy9n => exact Or.inr ⟨by rfl, rfl⟩
    try simp only [Act.put, List.setIfInBounds_toArray, List.set_cons_zero, List.set_cons_succ]
    refine wpAnyH_take (i := 10) (oi := ?oi10n) (v := ?v10n) ?hi10n (by kernel_rfl) (by kernel_rfl) (by kernel_rfl) ?hq10n ?hy10n hHeld ?rest10n
    case hi10n => ((try simp only [List.getElem?_toArray, List.getElem?_cons_succ, List.getElem?_cons_zero]); (try rfl))
    case hq10n => exact fun _ _ _ h => h
    case hy10n => exact Or.inl ⟨by rfl, by intro w hSw; clear hSw; go_simp; try with_reducible rfl⟩
    try simp only [Act.put, List.setIfInBounds_toArray, List.set_cons_zero, List.set_cons_succ]
    refine wpAnyH_ready (rs := [11]) (by kernel_rfl) (by simp) ?_
    refine AllReadyH.cons rfl (fun K' hK => ?_) AllReadyH.nil
    rw [if_pos (by rfl)]
    obtain ⟨r, hr⟩ := hHeld
    have TH := hr.res.th
    have HZ := Lib.hid (hr.sets)
    clear hr
    refine wp_store_mid _ _ _ rfl w.heap.size 0 (cgC c).toArray rfl rfl TH infoCg (cgone c) ?_
    rw [List.toList_toArray]
    refine hK.out _ _ ⟨c, HZ.out⟩ (fun hHeld => ?_)
    clear hK TH
    generalize World.setCells _ w.heap.size 0 (cgC c) = w6 at *
    try simp only [Act.put, List.setIfInBounds_toArray, List.set_cons_zero, List.set_cons_succ]
    refine wpAnyH_take (i := 12) (oi := ?oi12n) (v := ?v12n) ?hi12n (by kernel_rfl) (by kernel_rfl) (by kernel_rfl) ?hq12n ?hy12n hHeld ?rest12n
    case hi12n => ((try simp only [List.getElem?_toArray, List.getElem?_cons_succ, List.getElem?_cons_zero]); (try rfl))
    case hq12n => exact fun _ _ _ h => h
    case hy12n => exact Or.inl ⟨by rfl, by intro w hSw; clear hSw; go_simp; try with_reducible rfl⟩
    try simp only [Act.put, List.setIfInBounds_toArray, List.set_cons_zero, List.set_cons_succ]
    refine wpAnyH_done (by kernel_rfl) ?_ _
    clear hHeld
    go_wp2_with fail
    exact bodyPost_ret (ret_cell_tmp Tryd.results19 _ _ w.heap.size (cgC c) _ rfl HZ.out.res.row Tryd.underlying52 rfl infoCg) rfl ⟨c, false, rfl, (fun h => by cases h), fun _ => RD.out, CBX.out, HZ.out.below⟩
end Cgw
end Go.Proofs.YtafeigpmldgifaaDoor
