/-
  The walk of DesigNames.
-/
import Derived.Test.YtdjndoafnoidbaaDoorDBack
import Derived.Test.YtdjndoafnoidbaaDoorDNext2
namespace Go.Proofs.YtdjndoafnoidbaaDoor
namespace Dw
open Go.RowKit Dp Lw

def L2 (d e : Dg) : Ls := ⟨fun k => if k = 0 then d.n else e.n, fun k => if k = 0 then d.y else e.y, fun k => if k = 0 then d.h else e.h, fun k => if k = 0 then d.s else e.s, fun k => if k = 0 then d.c else e.c⟩
abbrev L1 (d : Dg) : Ls := L2 d d
theorem lst_two (W : World) (d e : Dg) (b : Nat) (hb : b = W.heap.size) (d0 : 0 ≤ d.h ∧ d.h < 256 ∧ 0 ≤ d.s ∧ d.s < 256) (e0 : 0 ≤ e.h ∧ e.h < 256 ∧ 0 ≤ e.s ∧ e.s < 256) :
    Lst (W.alloc (.cells (desigC d.n d.y d.h d.s d.c ++ desigC e.n e.y e.h e.s e.c).toArray 23)) b 0 2 (L2 d e) := by
  subst hb
  have r := rangeAt_new W (desigC d.n d.y d.h d.s d.c ++ desigC e.n e.y e.h e.s e.c) 23
  refine ⟨fun k hk j v hj => ?_, by simp, fun k hk => ?_, fun k hk => ?_, fun k hk => ?_, fun k hk => ?_⟩
  · have hj5 : j < 5 := by have := (List.getElem?_eq_some_iff.1 hj).1; simpa using this
    have h := r (k * 5 + j) v (by
      match k, hk with
      | 0, _ =>
        rw [List.getElem?_append_left (by simpa using hj5)]
        simpa [L2] using hj
      | 1, _ =>
        rw [List.getElem?_append_right (by simp)]
        have e : 1 * 5 + j - (desigC d.n d.y d.h d.s d.c).length = j := by simp
        rw [e]
        simpa [L2] using hj)
    rw [Nat.zero_add] at h
    rw [Nat.zero_add]
    exact h
  all_goals
    match k, hk with
    | 0, _ => simp [L2]; omega
    | 1, _ => simp [L2]; omega
theorem lst_one (W : World) (d : Dg) (b : Nat) (hb : b = W.heap.size) (d0 : 0 ≤ d.h ∧ d.h < 256 ∧ 0 ≤ d.s ∧ d.s < 256) :
    Lst (W.alloc (.cells (desigC d.n d.y d.h d.s d.c).toArray 23)) b 0 1 (L1 d) := by
  subst hb
  have r := rangeAt_new W (desigC d.n d.y d.h d.s d.c) 23
  refine ⟨fun k hk j v hj => ?_, by simp, fun k hk => ?_, fun k hk => ?_, fun k hk => ?_, fun k hk => ?_⟩
  · obtain rfl : k = 0 := by omega
    exact r j v (by simpa [L2] using hj) |> fun h => by simpa using h
  all_goals
    obtain rfl : k = 0 := by omega
    simp [L2]; omega
theorem info5f : (Tryd.prog.info? 23).map (fun i => (i.zero, i.size, i.bytes)) = some (some (.agg #[.int .i64 0, .int .i64 0, .int .u8 0, .int .u8 0, .int .i64 0]), 5, 32) := by kernel_rfl
theorem make_n (n : Nat) (hn : n ≤ 2000) (w : World) : (Instr.makeSlice 24 (.int .i64 (n : Int)) (.int .i64 (n : Int))).run Tryd.prog w = .ok (.slice (some ⟨w.heap.size, 0, none⟩) n n) (w.alloc (.cells (madeCells #[.int .i64 0, .int .i64 0, .int .u8 0, .int .u8 0, .int .i64 0] (n * 5)) 23)) := by
  obtain ⟨i, hi, hzz⟩ := Option.map_eq_some_iff.1 info5f
  simp only [Prod.mk.injEq] at hzz
  obtain ⟨hz, hs, hb⟩ := hzz
  have h := run_make (P := Tryd.prog) w 24 23 i _ Tryd.underlying24 hi hz .i64 .i64 (n : Int) (n : Int) (by omega) (Int.le_refl _) (by rw [hb]; omega) (by omega)
  rw [hs, Int.toNat_natCast] at h
  exact h
theorem made_1 : madeCells #[.int .i64 0, .int .i64 0, .int .u8 0, .int .u8 0, .int .i64 0] (1 * 5) = (desigC 0 0 0 0 0).toArray := by kernel_rfl
theorem wpList_make_run {P : Program} (w : World) {ops : Array Oper} {rest : List Oper} {o : Oper} {a : Act} {Q : Exit → Act → World → Prop} (hg : o.guard = none) (l c : Operand) (t : TypeId) (hop : o.op = Op.makeSlice t l c) (vl vc v : Value) (w' : World) (hl : a.eval l = vl) (hc : a.eval c = vc) (hrun : (Instr.makeSlice t vl vc).run P w = .ok v w') (hK : wpList P ops Q rest (a.put o.dst v) w') : wpList P ops Q (o :: rest) a w := by
  refine wpList_plain hg fun K hK' => ?_
  unfold Oper.wp
  simp [execOp, hop, hl, hc, hrun, Result.andThen]
  exact hK' _ _ hK
theorem not_text {l : List UInt8} (h : ¬ (okG (candT l) ∧ textG (candT l) = l)) : ∀ e, okG e → textG e ≠ l := fun e g t => by
  have := candT_is l e g t
  subst this
  exact h ⟨g, t⟩
theorem not_pack {l : List UInt8} (h : ¬ (okG (candU l) ∧ packG (candU l) = l)) : ∀ e, okG e → packG e ≠ l := fun e g t => by
  have := candU_is l e g t
  subst this
  exact h ⟨g, t⟩
theorem ok_3 : okTo (L2 (proG 2026 87 90 0) (proG 2026 87 67 0)) 2 := fun j hj => by
  match j, hj with
  | 0, _ => exact (by show okD 0 2026 87 90 0; decide)
  | 1, _ => exact (by show okD 0 2026 87 67 0; decide)
theorem next_3 : NextIs (L2 (proG 2026 87 90 0) (proG 2026 87 67 0)) 2 2026 87 0 2026 87 65 1 0 := Or.inr (Or.inr (Or.inr (Or.inr ⟨⟨by omega, by omega, by decide⟩, by omega, ok_3, by decide, rfl, rfl, rfl, by decide, by decide, rfl⟩)))
theorem ok_4 : okTo (L2 (proG 2026 87 90 0) (numG 5)) 2 := fun j hj => by
  match j, hj with
  | 0, _ => exact (by show okD 0 2026 87 90 0; decide)
  | 1, _ => exact (by show okD 5 0 0 0 0; decide)
theorem next_4 : NextIs (L2 (proG 2026 87 90 0) (numG 5)) 2 2026 86 0 2026 86 65 0 0 := Or.inr (Or.inr (Or.inr (Or.inr ⟨⟨by omega, by omega, by decide⟩, by omega, ok_4, by decide, rfl, rfl, rfl, by decide, by decide, rfl⟩)))
theorem ok_5 : okTo (L1 (proG 2026 87 72 3)) 1 := fun j hj => by
  match j, hj with
  | 0, _ => exact (by show okD 0 2026 87 72 3; decide)
theorem next_5 : NextIs (L1 (proG 2026 87 72 3)) 1 2026 87 0 2026 87 74 3 0 := Or.inr (Or.inr (Or.inr (Or.inr ⟨⟨by omega, by omega, by decide⟩, by omega, ok_5, by decide, rfl, rfl, rfl, by decide, by decide, rfl⟩)))
theorem ok_6 : okTo (L1 (proG 2026 87 90 619)) 1 := fun j hj => by
  match j, hj with
  | 0, _ => exact (by show okD 0 2026 87 90 619; decide)
theorem next_6 : NextIs (L1 (proG 2026 87 90 619)) 1 2026 87 0 0 0 0 0 16 := Or.inr (Or.inr (Or.inr (Or.inl ⟨⟨by omega, by omega, by decide⟩, by omega, ok_6, by decide, rfl, rfl, rfl, rfl, rfl, rfl⟩)))
theorem next_7 : NextIs (L1 zeroG) 0 2100 87 0 0 0 0 0 2 := Or.inl ⟨by decide, rfl, rfl, rfl, rfl, rfl, rfl⟩
theorem next_8 : NextIs (L1 zeroG) 0 2026 73 0 0 0 0 0 2 := Or.inl ⟨by decide, rfl, rfl, rfl, rfl, rfl, rfl⟩
theorem next_9 : NextIs (L1 zeroG) 1001 2026 87 0 0 0 0 0 4 := Or.inr (Or.inl ⟨⟨by omega, by omega, by decide⟩, by omega, rfl, rfl, rfl, rfl, rfl, rfl⟩)
theorem next_10 : NextIs (L1 zeroG) 1 2026 87 0 0 0 0 0 8 := Or.inr (Or.inr (Or.inl ⟨⟨by omega, by omega, by decide⟩, by omega, fun g => absurd (show okD 0 0 0 0 0 from g 0 (by omega)) (by decide), rfl, rfl, rfl, rfl, rfl, rfl⟩))
theorem half_0 : HalfIs 13 1 0 2 := Or.inr ⟨by omega, rfl, rfl⟩
theorem half_1 : HalfIs 2 32 0 2 := Or.inr ⟨by omega, rfl, rfl⟩
theorem half_2 : HalfIs 12 31 89 0 := Or.inl ⟨by omega, by omega, by omega, by omega, by decide, rfl⟩
theorem half_3 : HalfIs 5 1 74 0 := Or.inl ⟨by omega, by omega, by omega, by omega, by decide, rfl⟩
set_option maxRecDepth 100000 in
set_option maxHeartbeats 32000000 in
theorem names_any (w : World) (hT : Tb w) : Calls Tryd.prog 7 #[] w fun e w' => e = .returned (.bool true) ∧ Below w.heap.size w w' := by
  have I1 := Lib.hid (show ParseIs (⟨#[50, 48, 50, 54, 32, 87, 90]⟩ : ByteArray).data.toList (proG 2026 87 90 0) 0 from ParseIs.yes (by decide) (by decide +kernel))
  have I2 := Lib.hid (show ParseIs (⟨#[50, 48, 50, 54, 32, 87, 67]⟩ : ByteArray).data.toList (proG 2026 87 67 0) 0 from ParseIs.yes (by decide) (by decide +kernel))
  have m2 : ∀ w, (Instr.makeSlice 24 (.int .i64 1001) (.int .i64 1001)).run Tryd.prog w = .ok (.slice (some ⟨w.heap.size, 0, none⟩) 1001 1001) (w.alloc (.cells (madeCells #[.int .i64 0, .int .i64 0, .int .u8 0, .int .u8 0, .int .i64 0] (1001 * 5)) 23)) := fun w => make_n 1001 (by omega) w
  have m1 : ∀ w, (Instr.makeSlice 24 (.int .i64 1) (.int .i64 1)).run Tryd.prog w = .ok (.slice (some ⟨w.heap.size, 0, none⟩) 1 1) (w.alloc (.cells (desigC 0 0 0 0 0).toArray 23)) := fun w => by
    have h := make_n 1 (by omega) w
    rw [made_1] at h
    exact h
  generalize madeCells #[.int .i64 0, .int .i64 0, .int .u8 0, .int .u8 0, .int .i64 0] (1001 * 5) = MC at *
  have HT := Lib.hid hT
  clear hT
  go_enter Tryd.func7, Tryd.ntmps7
  go_wp2_with fail
  refine (parse_any _ _ HT.out (by decide)).mono ?_
  rintro e w1 ⟨⟨n1, y1, u1, z1, c1⟩, k1, rfl, i1, hb⟩
  obtain ⟨ed, rfl⟩ := i1.uniq I1.out
  obtain ⟨rfl, rfl, rfl, rfl, rfl⟩ := Dg.mk.inj ed
  have x1 := Bx.new w1 (desigC 0 2026 87 90 0) 23
  have B1 := hb.alloc hb.size (.cells (desigC 0 2026 87 90 0).toArray 23)
  have T1 := HT.out.below B1
  clear hb i1 ed I1
  go_wp2_with (refine wpList_store_new rfl _ (.tmp 1) (.tmp 35) rfl _ _ rfl rfl info5d rfl ?_ ?_; simp [Value.oneCell'])
  refine (parse_any _ _ T1 (by decide)).mono ?_
  rintro e w2 ⟨⟨n2, y2, u2, z2, c2⟩, k2, rfl, i2, hb⟩
  obtain ⟨ed, rfl⟩ := i2.uniq I2.out
  obtain ⟨rfl, rfl, rfl, rfl, rfl⟩ := Dg.mk.inj ed
  replace x1 := x1.call hb
  have B2 := (below_then B1 hb).alloc (below_then B1 hb).size (.cells (desigC 0 2026 87 67 0).toArray 23)
  have T2 := HT.out.below B2
  have lt1 := x1.lt
  have q0 := x1.cell 0 _ rfl
  have q1 := x1.cell 1 _ rfl
  have q2 := x1.cell 2 _ rfl
  have q3 := x1.cell 3 _ rfl
  have q4 := x1.cell 4 _ rfl
  have X1 := Lib.hid (x1.alloc (.cells (desigC 0 2026 87 67 0).toArray 23))
  clear hb i2 ed I2 B1 T1 x1
  go_wp2_with (refine wpList_store_new rfl _ (.tmp 3) (.tmp 39) rfl _ _ rfl rfl info5d rfl ?_ ?_; simp [Value.oneCell'])
  have BB := B2.alloc B2.size (.cells #[.int .i64 0, .int .i64 2026, .int .u8 87, .int .u8 90, .int .i64 0, .int .i64 0, .int .i64 2026, .int .u8 87, .int .u8 67, .int .i64 0] 23)
  have TT := HT.out.below BB
  have LL := lst_two (w2.alloc (.cells (desigC 0 2026 87 67 0).toArray 23)) (proG 2026 87 90 0) (proG 2026 87 67 0) (w2.heap.size + 1) (by simp) (by decide) (by decide)
  refine (next_list _ _ 0 2 2 2026 87 _ TT.ord LL (by omega) (by omega) (by omega) (by omega) (by decide) (by omega)).mono ?_
  rintro e w3 ⟨a1, a2, a3, a4, a5, a6, rfl, ix, hb⟩
  obtain ⟨rfl, rfl, rfl, rfl, rfl, rfl⟩ := ix.uniq next_3
  have B3 := (below_then BB hb).alloc (below_then BB hb).size (.cells (desigC 0 2026 87 65 1).toArray 23)
  have X1 := (X1.out.alloc (.cells #[.int .i64 0, .int .i64 2026, .int .u8 87, .int .u8 90, .int .i64 0, .int .i64 0, .int .i64 2026, .int .u8 87, .int .u8 67, .int .i64 0] 23)).call hb
  clear q0 q1 q2 q3 q4 lt1
  have lt1 := X1.lt
  have q0 := X1.cell 0 _ rfl
  have q1 := X1.cell 1 _ rfl
  have q2 := X1.cell 2 _ rfl
  have q3 := X1.cell 3 _ rfl
  have q4 := X1.cell 4 _ rfl
  clear X1
  have Y3 := Lib.hid (Bx.new w3 (desigC 0 2026 87 65 1) 23)
  clear hb ix BB TT B2 T2 LL
  go_wp2_with (first | (at_make; refine wpList_make_run _ rfl _ _ _ rfl _ _ _ _ rfl rfl (m2 _) ?_) | refine wpList_store_new rfl _ (.tmp 5) (.tmp 46) rfl _ _ rfl rfl info5d rfl ?_ ?_; simp [Value.oneCell'])
  have BB := B3.alloc B3.size (.cells #[.int .i64 0, .int .i64 2026, .int .u8 87, .int .u8 90, .int .i64 0, .int .i64 5, .int .i64 0, .int .u8 0, .int .u8 0, .int .i64 0] 23)
  have TT := HT.out.below BB
  have LL := lst_two (w3.alloc (.cells (desigC 0 2026 87 65 1).toArray 23)) (proG 2026 87 90 0) (numG 5) (w3.heap.size + 1) (by simp) (by decide) (by decide)
  refine (next_list _ _ 0 2 2 2026 86 _ TT.ord LL (by omega) (by omega) (by omega) (by omega) (by decide) (by omega)).mono ?_
  rintro e w4 ⟨a1, a2, a3, a4, a5, a6, rfl, ix, hb⟩
  obtain ⟨rfl, rfl, rfl, rfl, rfl, rfl⟩ := ix.uniq next_4
  have B4 := (below_then BB hb).alloc (below_then BB hb).size (.cells (desigC 0 2026 86 65 0).toArray 23)
  have Y3 := (Y3.out.alloc (.cells #[.int .i64 0, .int .i64 2026, .int .u8 87, .int .u8 90, .int .i64 0, .int .i64 5, .int .i64 0, .int .u8 0, .int .u8 0, .int .i64 0] 23)).call hb
  clear q0 q1 q2 q3 q4 lt1
  have Y3 := Lib.hid (Y3.alloc (.cells (desigC 0 2026 86 65 0).toArray 23))
  have Y4 := Lib.hid (Bx.new w4 (desigC 0 2026 86 65 0) 23)
  clear hb ix BB TT B3 LL
  go_wp2_with (first | (at_make; refine wpList_make_run _ rfl _ _ _ rfl _ _ _ _ rfl rfl (m2 _) ?_) | refine wpList_store_new rfl _ (.tmp 7) (.tmp 53) rfl _ _ rfl rfl info5d rfl ?_ ?_; simp [Value.oneCell'])
  have BB := B4.alloc B4.size (.cells #[.int .i64 0, .int .i64 2026, .int .u8 87, .int .u8 72, .int .i64 3] 23)
  have TT := HT.out.below BB
  have LL := lst_one (w4.alloc (.cells (desigC 0 2026 86 65 0).toArray 23)) (proG 2026 87 72 3) (w4.heap.size + 1) (by simp) (by decide)
  refine (next_list _ _ 0 1 1 2026 87 _ TT.ord LL (by omega) (by omega) (by omega) (by omega) (by decide) (by omega)).mono ?_
  rintro e w5 ⟨a1, a2, a3, a4, a5, a6, rfl, ix, hb⟩
  obtain ⟨rfl, rfl, rfl, rfl, rfl, rfl⟩ := ix.uniq next_5
  have B5 := (below_then BB hb).alloc (below_then BB hb).size (.cells (desigC 0 2026 87 74 3).toArray 23)
  have Y3 := (Y3.out.alloc (.cells #[.int .i64 0, .int .i64 2026, .int .u8 87, .int .u8 72, .int .i64 3] 23)).call hb
  have Y4 := (Y4.out.alloc (.cells #[.int .i64 0, .int .i64 2026, .int .u8 87, .int .u8 72, .int .i64 3] 23)).call hb
  have Y3 := Lib.hid (Y3.alloc (.cells (desigC 0 2026 87 74 3).toArray 23))
  have Y4 := Lib.hid (Y4.alloc (.cells (desigC 0 2026 87 74 3).toArray 23))
  have Y5 := Lib.hid (Bx.new w5 (desigC 0 2026 87 74 3) 23)
  clear hb ix BB TT B4 LL
  go_wp2_with (first | (at_make; refine wpList_make_run _ rfl _ _ _ rfl _ _ _ _ rfl rfl (m2 _) ?_) | refine wpList_store_new rfl _ (.tmp 9) (.tmp 59) rfl _ _ rfl rfl info5d rfl ?_ ?_; simp [Value.oneCell'])
  have BB := B5.alloc B5.size (.cells #[.int .i64 0, .int .i64 2026, .int .u8 87, .int .u8 90, .int .i64 619] 23)
  have TT := HT.out.below BB
  have LL := lst_one (w5.alloc (.cells (desigC 0 2026 87 74 3).toArray 23)) (proG 2026 87 90 619) (w5.heap.size + 1) (by simp) (by decide)
  refine (next_list _ _ 0 1 1 2026 87 _ TT.ord LL (by omega) (by omega) (by omega) (by omega) (by decide) (by omega)).mono ?_
  rintro e w6 ⟨a1, a2, a3, a4, a5, a6, rfl, ix, hb⟩
  obtain ⟨rfl, rfl, rfl, rfl, rfl, rfl⟩ := ix.uniq next_6
  have B6 := (below_then BB hb).alloc (below_then BB hb).size (.cells (desigC 0 0 0 0 0).toArray 23)
  have Y3 := (Y3.out.alloc (.cells #[.int .i64 0, .int .i64 2026, .int .u8 87, .int .u8 90, .int .i64 619] 23)).call hb
  have Y4 := (Y4.out.alloc (.cells #[.int .i64 0, .int .i64 2026, .int .u8 87, .int .u8 90, .int .i64 619] 23)).call hb
  have Y5 := (Y5.out.alloc (.cells #[.int .i64 0, .int .i64 2026, .int .u8 87, .int .u8 90, .int .i64 619] 23)).call hb
  have Y3 := Lib.hid (Y3.alloc (.cells (desigC 0 0 0 0 0).toArray 23))
  have Y4 := Lib.hid (Y4.alloc (.cells (desigC 0 0 0 0 0).toArray 23))
  have Y5 := Lib.hid (Y5.alloc (.cells (desigC 0 0 0 0 0).toArray 23))
  clear hb ix BB TT B5 LL
  go_wp2_with (first | (at_make; refine wpList_make_run _ rfl _ _ _ rfl _ _ _ _ rfl rfl (m2 _) ?_) | refine wpList_store_new rfl _ (.tmp 11) (.tmp 65) rfl _ _ rfl rfl info5d rfl ?_ ?_; simp [Value.oneCell'])
  have BB := B6
  have TT := HT.out.below BB
  refine (next_arg (L1 zeroG) _ 0 0 2100 87 _ TT.ord (by omega) (by omega) (by decide)).mono ?_
  rintro e w7 ⟨a1, a2, a3, a4, a5, a6, rfl, ix, hb⟩
  obtain ⟨rfl, rfl, rfl, rfl, rfl, rfl⟩ := ix.uniq next_7
  have B7 := (below_then BB hb).alloc (below_then BB hb).size (.cells (desigC 0 0 0 0 0).toArray 23)
  have Y3 := Y3.out.call hb
  have Y4 := Y4.out.call hb
  have Y5 := Y5.out.call hb
  have Y3 := Lib.hid (Y3.alloc (.cells (desigC 0 0 0 0 0).toArray 23))
  have Y4 := Lib.hid (Y4.alloc (.cells (desigC 0 0 0 0 0).toArray 23))
  have Y5 := Lib.hid (Y5.alloc (.cells (desigC 0 0 0 0 0).toArray 23))
  clear hb ix BB TT B6
  go_wp2_with (first | (at_make; refine wpList_make_run _ rfl _ _ _ rfl _ _ _ _ rfl rfl (m2 _) ?_) | refine wpList_store_new rfl _ (.tmp 13) (.tmp 69) rfl _ _ rfl rfl info5d rfl ?_ ?_; simp [Value.oneCell'])
  have BB := B7
  have TT := HT.out.below BB
  refine (next_arg (L1 zeroG) _ 0 0 2026 73 _ TT.ord (by omega) (by omega) (by decide)).mono ?_
  rintro e w8 ⟨a1, a2, a3, a4, a5, a6, rfl, ix, hb⟩
  obtain ⟨rfl, rfl, rfl, rfl, rfl, rfl⟩ := ix.uniq next_8
  have B8 := (below_then BB hb).alloc (below_then BB hb).size (.cells (desigC 0 0 0 0 0).toArray 23)
  have Y3 := Y3.out.call hb
  have Y4 := Y4.out.call hb
  have Y5 := Y5.out.call hb
  have Y3 := Lib.hid (Y3.alloc (.cells (desigC 0 0 0 0 0).toArray 23))
  have Y4 := Lib.hid (Y4.alloc (.cells (desigC 0 0 0 0 0).toArray 23))
  have Y5 := Lib.hid (Y5.alloc (.cells (desigC 0 0 0 0 0).toArray 23))
  clear hb ix BB TT B7
  go_wp2_with (first | (at_make; refine wpList_make_run _ rfl _ _ _ rfl _ _ _ _ rfl rfl (m2 _) ?_) | refine wpList_store_new rfl _ (.tmp 15) (.tmp 73) rfl _ _ rfl rfl info5d rfl ?_ ?_; simp [Value.oneCell'])
  have BB := B8.alloc B8.size (.cells MC 23)
  have TT := HT.out.below BB
  refine (next_many (L1 zeroG) _ 1001 1001 2026 87 _ TT.ord (by omega) (by omega) (by omega) (by omega) (by decide) (by omega) (by omega)).mono ?_
  rintro e w9 ⟨a1, a2, a3, a4, a5, a6, rfl, ix, hb⟩
  obtain ⟨rfl, rfl, rfl, rfl, rfl, rfl⟩ := ix.uniq next_9
  have B9 := (below_then BB hb).alloc (below_then BB hb).size (.cells (desigC 0 0 0 0 0).toArray 23)
  have Y3 := (Y3.out.alloc (.cells MC 23)).call hb
  have Y4 := (Y4.out.alloc (.cells MC 23)).call hb
  have Y5 := (Y5.out.alloc (.cells MC 23)).call hb
  have Y3 := Lib.hid (Y3.alloc (.cells (desigC 0 0 0 0 0).toArray 23))
  have Y4 := Lib.hid (Y4.alloc (.cells (desigC 0 0 0 0 0).toArray 23))
  have Y5 := Lib.hid (Y5.alloc (.cells (desigC 0 0 0 0 0).toArray 23))
  clear hb ix BB TT B8
  go_wp2_with (first | (at_make; refine wpList_make_run _ rfl _ _ _ rfl _ _ _ _ rfl rfl (m1 _) ?_) | refine wpList_store_new rfl _ (.tmp 17) (.tmp 78) rfl _ _ rfl rfl info5d rfl ?_ ?_; simp [Value.oneCell'])
  have BB := B9.alloc B9.size (.cells (desigC 0 0 0 0 0).toArray 23)
  have TT := HT.out.below BB
  have LL := lst_one (w9.alloc (.cells (desigC 0 0 0 0 0).toArray 23)) zeroG (w9.heap.size + 1) (by simp) (by decide)
  refine (next_list _ _ 0 1 1 2026 87 _ TT.ord LL (by omega) (by omega) (by omega) (by omega) (by decide) (by omega)).mono ?_
  rintro e w10 ⟨a1, a2, a3, a4, a5, a6, rfl, ix, hb⟩
  obtain ⟨rfl, rfl, rfl, rfl, rfl, rfl⟩ := ix.uniq next_10
  have B10 := (below_then BB hb).alloc (below_then BB hb).size (.cells (desigC 0 0 0 0 0).toArray 23)
  have Y3 := (Y3.out.alloc (.cells (desigC 0 0 0 0 0).toArray 23)).call hb
  have Y4 := (Y4.out.alloc (.cells (desigC 0 0 0 0 0).toArray 23)).call hb
  have Y5 := (Y5.out.alloc (.cells (desigC 0 0 0 0 0).toArray 23)).call hb
  have lY3 := Y3.lt
  have Y3_0 := Y3.cell 0 _ rfl
  have Y3_1 := Y3.cell 1 _ rfl
  have Y3_2 := Y3.cell 2 _ rfl
  have Y3_3 := Y3.cell 3 _ rfl
  have Y3_4 := Y3.cell 4 _ rfl
  clear Y3
  have lY4 := Y4.lt
  have Y4_0 := Y4.cell 0 _ rfl
  have Y4_1 := Y4.cell 1 _ rfl
  have Y4_2 := Y4.cell 2 _ rfl
  have Y4_3 := Y4.cell 3 _ rfl
  have Y4_4 := Y4.cell 4 _ rfl
  clear Y4
  have lY5 := Y5.lt
  have Y5_0 := Y5.cell 0 _ rfl
  have Y5_1 := Y5.cell 1 _ rfl
  have Y5_2 := Y5.cell 2 _ rfl
  have Y5_3 := Y5.cell 3 _ rfl
  have Y5_4 := Y5.cell 4 _ rfl
  clear Y5
  clear hb ix BB TT B9 LL
  go_wp2_with (first | (at_make; refine wpList_make_run _ rfl _ _ _ rfl _ _ _ _ rfl rfl (m1 _) ?_) | refine wpList_store_new rfl _ (.tmp 19) (.tmp 83) rfl _ _ rfl rfl info5d rfl ?_ ?_; simp [Value.oneCell'])
  have T10 := Lib.hid (HT.out.below B10)
  refine (Half_any 13 1 _ T10.out.ord).mono ?_
  rintro e v0 ⟨g0, j0, rfl, ih, rfl⟩
  obtain ⟨rfl, rfl⟩ := ih.uniq half_0
  clear ih
  go_wp2_with fail
  refine (Half_any 2 32 _ T10.out.ord).mono ?_
  rintro e v1 ⟨g1, j1, rfl, ih, rfl⟩
  obtain ⟨rfl, rfl⟩ := ih.uniq half_1
  clear ih
  go_wp2_with fail
  refine (Half_any 12 31 _ T10.out.ord).mono ?_
  rintro e v2 ⟨g2, j2, rfl, ih, rfl⟩
  obtain ⟨rfl, rfl⟩ := ih.uniq half_2
  clear ih
  go_wp2_with fail
  refine (Half_any 5 1 _ T10.out.ord).mono ?_
  rintro e v3 ⟨g3, j3, rfl, ih, rfl⟩
  obtain ⟨rfl, rfl⟩ := ih.uniq half_3
  clear ih
  go_wp2_with fail
  refine (refused_any ⟨#[50, 48, 50, 54, 32, 87, 65, 48]⟩ _ T10.out (not_text (by decide +kernel)) (not_pack (by decide +kernel)) (by decide)).mono ?_
  rintro e z0 ⟨rfl, hb⟩
  have B11 := below_then B10 hb
  have T11 := Lib.hid (HT.out.below B11)
  clear hb B10 T10
  go_wp2_with fail
  refine (refused_any ⟨#[50, 48, 50, 54, 32, 73, 65]⟩ _ T11.out (not_text (by decide +kernel)) (not_pack (by decide +kernel)) (by decide)).mono ?_
  rintro e z1 ⟨rfl, hb⟩
  have B12 := below_then B11 hb
  have T12 := Lib.hid (HT.out.below B12)
  clear hb B11 T11
  go_wp2_with fail
  refine (refused_any ⟨#[48, 48, 55]⟩ _ T12.out (not_text (by decide +kernel)) (not_pack (by decide +kernel)) (by decide)).mono ?_
  rintro e z2 ⟨rfl, hb⟩
  have B13 := below_then B12 hb
  have T13 := Lib.hid (HT.out.below B13)
  clear hb B12 T12
  go_wp2_with fail
  refine (refused_any ⟨#[]⟩ _ T13.out (not_text (by decide +kernel)) (not_pack (by decide +kernel)) (by decide)).mono ?_
  rintro e z3 ⟨rfl, hb⟩
  have B14 := below_then B13 hb
  have T14 := Lib.hid (HT.out.below B14)
  clear hb B13 T13
  go_wp2_with fail
  refine (refused_any ⟨#[50, 48, 50, 54, 32, 87, 73, 49]⟩ _ T14.out (not_text (by decide +kernel)) (not_pack (by decide +kernel)) (by decide)).mono ?_
  rintro e z4 ⟨rfl, hb⟩
  have B15 := below_then B14 hb
  have T15 := Lib.hid (HT.out.below B15)
  clear hb B14 T14
  go_wp2_with fail
  refine (refused_any ⟨#[50, 48, 50, 54, 87, 65]⟩ _ T15.out (not_text (by decide +kernel)) (not_pack (by decide +kernel)) (by decide)).mono ?_
  rintro e z5 ⟨rfl, hb⟩
  have B16 := below_then B15 hb
  have T16 := Lib.hid (HT.out.below B16)
  clear hb B15 T15
  go_wp2_with fail
  refine (refused_any ⟨#[50, 48, 50, 54, 32, 87, 65, 54, 50, 48]⟩ _ T16.out (not_text (by decide +kernel)) (not_pack (by decide +kernel)) (by decide)).mono ?_
  rintro e z6 ⟨rfl, hb⟩
  have B17 := below_then B16 hb
  have T17 := Lib.hid (HT.out.below B17)
  clear hb B16 T16
  go_wp2_with fail
  refine (refused_any ⟨#[76, 50, 54, 87, 48, 48, 65]⟩ _ T17.out (not_text (by decide +kernel)) (not_pack (by decide +kernel)) (by decide)).mono ?_
  rintro e z7 ⟨rfl, hb⟩
  have B18 := below_then B17 hb
  have T18 := Lib.hid (HT.out.below B18)
  clear hb B17 T17
  go_wp2_with fail
  refine (refused_any ⟨#[75, 50, 54, 87, 48, 97, 65]⟩ _ T18.out (not_text (by decide +kernel)) (not_pack (by decide +kernel)) (by decide)).mono ?_
  rintro e z8 ⟨rfl, hb⟩
  have B19 := below_then B18 hb
  have T19 := Lib.hid (HT.out.below B19)
  clear hb B18 T18
  go_wp2_with fail
  refine (refused_any ⟨#[126, 48, 48, 48]⟩ _ T19.out (not_text (by decide +kernel)) (not_pack (by decide +kernel)) (by decide)).mono ?_
  rintro e z9 ⟨rfl, hb⟩
  have B20 := below_then B19 hb
  have T20 := Lib.hid (HT.out.below B20)
  clear hb B19 T19
  go_wp2_with fail
  refine (refused_any ⟨#[48, 48, 48, 48, 48]⟩ _ T20.out (not_text (by decide +kernel)) (not_pack (by decide +kernel)) (by decide)).mono ?_
  rintro e z10 ⟨rfl, hb⟩
  have B21 := below_then B20 hb
  have T21 := Lib.hid (HT.out.below B21)
  clear hb B20 T20
  go_wp2_with fail
  refine (refused_any ⟨#[126, 122, 122, 122, 33]⟩ _ T21.out (not_text (by decide +kernel)) (not_pack (by decide +kernel)) (by decide)).mono ?_
  rintro e z11 ⟨rfl, hb⟩
  have B22 := below_then B21 hb
  have T22 := Lib.hid (HT.out.below B22)
  clear hb B21 T21
  go_wp2_with fail
  refine (refused_any ⟨#[49, 53, 51, 57, 54, 51, 51, 54]⟩ _ T22.out (not_text (by decide +kernel)) (not_pack (by decide +kernel)) (by decide)).mono ?_
  rintro e z12 ⟨rfl, hb⟩
  have B23 := below_then B22 hb
  have T23 := Lib.hid (HT.out.below B23)
  clear hb B22 T22
  go_wp2_with fail
  refine (refused_any ⟨#[50, 48, 50, 54, 32, 87, 65, 48, 49]⟩ _ T23.out (not_text (by decide +kernel)) (not_pack (by decide +kernel)) (by decide)).mono ?_
  rintro e z13 ⟨rfl, hb⟩
  have B24 := below_then B23 hb
  have T24 := Lib.hid (HT.out.below B24)
  clear hb B23 T23
  go_wp2_with fail
  refine (refused_any ⟨#[75, 50, 54, 87, 122, 57, 73]⟩ _ T24.out (not_text (by decide +kernel)) (not_pack (by decide +kernel)) (by decide)).mono ?_
  rintro e z14 ⟨rfl, hb⟩
  have B25 := below_then B24 hb
  have T25 := Lib.hid (HT.out.below B25)
  clear hb B24 T24
  go_wp2_with fail
  refine (refused_any ⟨#[49, 55, 57, 57, 32, 65, 65]⟩ _ T25.out (not_text (by decide +kernel)) (not_pack (by decide +kernel)) (by decide)).mono ?_
  rintro e z15 ⟨rfl, hb⟩
  have B26 := below_then B25 hb
  have T26 := Lib.hid (HT.out.below B26)
  clear hb B25 T25
  go_wp2_with fail
  refine (packs_any (proG 1800 65 65 0) ⟨#[49, 56, 48, 48, 32, 65, 65]⟩ ⟨#[73, 48, 48, 65, 48, 48, 65]⟩ _ T26.out (by decide) (by decide +kernel) (by decide +kernel) (by decide) (by decide)).mono ?_
  rintro e z16 ⟨rfl, hb⟩
  have B27 := below_then B26 hb
  have T27 := Lib.hid (HT.out.below B27)
  clear hb B26 T26
  go_wp2_with fail
  refine (packs_any (proG 2099 89 90 619) ⟨#[50, 48, 57, 57, 32, 89, 90, 54, 49, 57]⟩ ⟨#[75, 57, 57, 89, 122, 57, 90]⟩ _ T27.out (by decide) (by decide +kernel) (by decide +kernel) (by decide) (by decide)).mono ?_
  rintro e z17 ⟨rfl, hb⟩
  have B28 := below_then B27 hb
  have T28 := Lib.hid (HT.out.below B28)
  clear hb B27 T27
  go_wp2_with fail
  refine (packs_any (numG 1) ⟨#[49]⟩ ⟨#[48, 48, 48, 48, 49]⟩ _ T28.out (by decide) (by decide +kernel) (by decide +kernel) (by decide) (by decide)).mono ?_
  rintro e z18 ⟨rfl, hb⟩
  have B29 := below_then B28 hb
  have T29 := Lib.hid (HT.out.below B29)
  clear hb B28 T28
  go_wp2_with fail
  refine (packs_any (numG 619999) ⟨#[54, 49, 57, 57, 57, 57]⟩ ⟨#[122, 57, 57, 57, 57]⟩ _ T29.out (by decide) (by decide +kernel) (by decide +kernel) (by decide) (by decide)).mono ?_
  rintro e z19 ⟨rfl, hb⟩
  have B30 := below_then B29 hb
  have T30 := Lib.hid (HT.out.below B30)
  clear hb B29 T29
  go_wp2_with fail
  refine (alive_any _ T30.out).mono ?_
  rintro e z20 ⟨rfl, hb⟩
  have B31 := below_then B30 hb
  have T31 := Lib.hid (HT.out.below B31)
  clear hb B30 T30
  go_wp2_with fail
  go_ret
  exact ⟨rfl, B31⟩
end Dw
end Go.Proofs.YtdjndoafnoidbaaDoor
