/-
  Unpack of package desig.
-/
import Derived.Test.YtdjndoafnoidbaaDoorDRParse
namespace Go.Proofs.YtdjndoafnoidbaaDoor
namespace Dw
open Go.RowKit Dp Lw

theorem ext_list (s : ByteArray) (a b : Nat) : (s.extract a b).data.toList = (s.data.toList.drop a).take (b - a) := by
  rw [ByteArray.data_extract, Array.toList_extract, List.extract_eq_take_drop]
theorem len7 {l : List UInt8} (h : l.length = 7) : ∃ a b c d e f g, l = [a, b, c, d, e, f, g] := by
  match l, h with
  | [a, b, c, d, e, f, g], _ => exact ⟨a, b, c, d, e, f, g, rfl⟩
theorem idxC_is (c : Int) (h0 : 0 ≤ c) (h1 : c < 256) : Lib.indexByte (⟨#[73, 74, 75]⟩ : ByteArray).data.toList c.toNat.toUInt8 = idxC c := by
  have key : ∀ n : Nat, n < 256 → Lib.indexByte (⟨#[73, 74, 75]⟩ : ByteArray).data.toList n.toUInt8 = idxC n := by decide +kernel
  obtain ⟨k, rfl⟩ := Int.eq_ofNat_of_zero_le h0
  exact key k (by omega)
theorem idxC_bd (c : Int) : -1 ≤ idxC c ∧ idxC c ≤ 2 := by unfold idxC; split <;> (try split) <;> (try split) <;> omega
theorem seven_at (s : ByteArray) (h7 : s.size = 7) (x h u : Int) (ex : (s[0].toNat : Int) = x) (eh : (s[3].toNat : Int) = h) (eu : (s[6].toNat : Int) = u) {y t o : Int} {o1 o2 o3 : Bool}
    (w1 : WholeIs 10 (s.extract 1 3).data.toList y o1) (w2 : WholeIs 62 (s.extract 4 5).data.toList t o2) (w3 : WholeIs 10 (s.extract 5 6).data.toList o o3) :
    CandU s.data.toList ⟨0, 100 * (18 + idxC x) + y, h, u, 10 * t + o⟩ := by
  have hl := size_data s
  have l7 : s.data.toList.length = 7 := by omega
  have e0 := getD_at s 0 (by omega)
  have e3 := getD_at s 3 (by omega)
  have e6 := getD_at s 6 (by omega)
  rw [ext_list] at w1 w2 w3
  have k : CandU s.data.toList ⟨0, 100 * (18 + idxC ((s.data.toList.getD 0 0).toNat : Int)) + y, ((s.data.toList.getD 3 0).toNat : Int), ((s.data.toList.getD 6 0).toNat : Int), 10 * t + o⟩ := by
    refine unp_7 (o1 := o1) (o2 := o2) (o3 := o3) l7 ?_ ?_ ?_
    · obtain ⟨a, b, c, d, e, f, g, hh⟩ := len7 l7; rw [hh] at w1 ⊢; exact w1
    · obtain ⟨a, b, c, d, e, f, g, hh⟩ := len7 l7; rw [hh] at w2 ⊢; exact w2
    · obtain ⟨a, b, c, d, e, f, g, hh⟩ := len7 l7; rw [hh] at w3 ⊢; exact w3
  rw [e0, e3, e6, ex, eh, eu] at k
  exact k
theorem tilde_at (s : ByteArray) (h5 : s.size = 5) (h0 : (s[0].toNat : Int) = 126) {n : Int} (w : WholeIs 62 (s.extract 1 s.size).data.toList n true) : CandU s.data.toList ⟨n + 620000, 0, 0, 0, 0⟩ := by
  have hl := size_data s
  rw [ext_drop] at w
  refine unp_tilde (by omega) ?_ w
  have e0 := getD_at s 0 (by omega)
  exact UInt8.toNat_inj.1 (by show _ = 126; omega)
theorem low_at (s : ByteArray) (h5 : s.size = 5) {n hi lw : Int} {ok o1 o2 : Bool} (w : WholeIs 62 (s.extract 1 s.size).data.toList n ok) (h0 : ¬ ((s[0].toNat : Int) = 126 ∧ ok = true))
    (w1 : WholeIs 62 (s.extract 0 1).data.toList hi o1) (w2 : WholeIs 10 (s.extract 1 s.size).data.toList lw o2) : CandU s.data.toList ⟨10000 * hi + lw, 0, 0, 0, 0⟩ := by
  have hl := size_data s
  rw [ext_drop] at w w2
  rw [ext_take] at w1
  refine unp_low (by omega) w (fun x => h0 ⟨?_, x.2⟩) w1 w2
  have e0 := getD_at s 0 (by omega)
  rw [x.1] at e0
  rw [← e0]
  rfl
set_option maxRecDepth 100000 in
set_option maxHeartbeats 8000000 in
theorem unpack_any (s : ByteArray) (w : World) (hT : Tb w) (hs : s.size ≤ 40) :
    Calls Tryd.prog 22 #[.string s] w (UnpackPost s w) := by
  have HT := Lib.hid hT
  have p0 : PS w (desigC 0 0 0 0 0) ((w.alloc (.cells #[.int .i64 0, .int .i64 0, .int .u8 0, .int .u8 0, .int .i64 0] 23)).alloc (.cells #[.int .i64 0, .int .i64 0, .int .u8 0, .int .u8 0, .int .i64 0] 23)) := PS.new w
  clear hT
  by_cases h7 : s.size = 7
  · have h7a : ((s.size : Int) == 7) = true := by simp [h7]
    have g1 : (1 : Int) ≤ (s.size : Int) := by omega
    have g3 : (3 : Int) ≤ (s.size : Int) := by omega
    have g4 : (4 : Int) ≤ (s.size : Int) := by omega
    have g5 : (5 : Int) ≤ (s.size : Int) := by omega
    have g6 : (6 : Int) ≤ (s.size : Int) := by omega
    have i0 : 0 < s.size := by omega
    have i3 : 3 < s.size := by omega
    have i6 : 6 < s.size := by omega
    have i0' : (0 : Int) < (s.size : Int) := by omega
    have i3' : (3 : Int) < (s.size : Int) := by omega
    have i6' : (6 : Int) < (s.size : Int) := by omega
    have x0 := byte_bd s[0]
    have x3 := byte_bd s[3]
    have x6 := byte_bd s[6]
    have H7 := Lib.hid h7
    clear h7
    go_enter Tryd.func22, Tryd.ntmps22
    go_wp2_with fail
    refine (whole_10 (s.extract 1 3) _ (by have := ext_size s 1 3; omega)).mono ?_
    rintro e w1 ⟨y, o1, rfl, hw, hb⟩
    have p1 := p0.call hb
    have y0 := hw.lo
    have y1 := hw.hi
    have HW1 := Lib.hid hw
    clear p0 hb hw
    go_wp2_with fail
    refine (whole_62 (s.extract 4 5) _ (by have := ext_size s 4 5; omega)).mono ?_
    rintro e w2 ⟨t, o2, rfl, hw, hb⟩
    have p2 := p1.call hb
    have t0 := hw.lo
    have t1 := hw.hi
    have HW2 := Lib.hid hw
    clear p1 hb hw
    go_wp2_with fail
    refine (whole_10 (s.extract 5 6) _ (by have := ext_size s 5 6; omega)).mono ?_
    rintro e W ⟨o, o3, rfl, hw, hb⟩
    have p3 := (p2.call hb).drew
    have q0 := hw.lo
    have q1 := hw.hi
    obtain ⟨x, ex⟩ : ∃ x, (s[0].toNat : Int) = x := ⟨_, rfl⟩
    obtain ⟨h, eh⟩ : ∃ h, (s[3].toNat : Int) = h := ⟨_, rfl⟩
    obtain ⟨u, eu⟩ : ∃ u, (s[6].toNat : Int) = u := ⟨_, rfl⟩
    have cd := seven_at s H7.out x h u ex eh eu HW1.out HW2.out hw
    have IB := fun w' => Tryd.strings_IndexByte ⟨#[73, 74, 75]⟩ x w'
    rw [ex] at x0
    rw [eh] at x3
    rw [eu] at x6
    simp only [idxC_is x x0.1 x0.2] at IB
    have kb := idxC_bd x
    generalize idxC x = k at *
    have IB := Lib.hid IB
    clear p2 hb hw HW1 HW2
    go_wp2_with fail
    have wa : IntKind.i64.wrap (18 + k) = 18 + k := IntWalk.i64_in _ (by omega)
    have wb : IntKind.i64.wrap (100 * (18 + k)) = 100 * (18 + k) := IntWalk.i64_in _ (by omega)
    have wc : IntKind.i64.wrap (100 * (18 + k) + y) = 100 * (18 + k) + y := IntWalk.i64_in _ (by omega)
    have wd : IntKind.i64.wrap (10 * t) = 10 * t := IntWalk.i64_in _ (by omega)
    have we : IntKind.i64.wrap (10 * t + o) = 10 * t + o := IntWalk.i64_in _ (by omega)
    obtain ⟨Y, eY⟩ : ∃ Y, 100 * (18 + k) + y = Y := ⟨_, rfl⟩
    obtain ⟨C, eC⟩ : ∃ C, 10 * t + o = C := ⟨_, rfl⟩
    rw [eY] at wc cd
    rw [eC] at we cd
    have cd := Lib.hid cd
    go_still_tail 16, (by kernel_rfl)
    repeat still_step
    still_call (IB.out _)
    repeat still_step
    try refine wpStill_nil ?_
    change wpList _ _ _ _ _ W.drew
    have PA := p3.all 0 Y h u C
    refine wpList_store_mid rfl _ (.tmp 4) (.tmp 58) rfl (w.heap.size + 1) 0 _ rfl rfl p3.there info5d (by simp [Value.oneCell']) ?_
    change wpList _ _ _ _ _ (W.drew.setCells (w.heap.size + 1) 0 (desigC 0 Y h u C))
    generalize W.drew.setCells (w.heap.size + 1) 0 (desigC 0 Y h u C) = W2 at *
    have PA := Lib.hid PA
    clear p3 wa wb wc wd we eY eC ex eh eu
    by_cases g : okD 0 Y h u C
    · obtain ⟨T, eT⟩ : ∃ T, packG ⟨0, Y, h, u, C⟩ = T := ⟨_, rfl⟩
      have TC := Pack_ok 0 Y h u C _ (HT.out.below PA.out.below) x3.1 x3.2 x6.1 x6.2 g
      unfold PackOk at TC
      rw [eT] at TC
      have TC := Lib.hid TC
      by_cases ht : T = s.data.toList
      · have bt : (T == s.toList) = true := by rw [Lib.toList_data]; simp [ht]
        have FN := Lib.hid (UnpackIs.yes (l := s.data.toList) (d := ⟨0, Y, h, u, C⟩) g (eT.trans ht))
        clear eT ht
        go_wp2_with (refine wpList_load_mid rfl _ (.tmp 4) rfl (w.heap.size + 1) 0 rfl (desigC 0 Y h u C) _ PA.out.row Tryd.underlying23 rfl info5d ?_)
        refine TC.out.mono ?_
        rintro e w9 ⟨rfl, hb⟩
        have p9 := PA.out.call hb
        clear TC hb
        go_wp2_with (first | (refine wpList_load_mid rfl _ (.tmp 4) rfl (w.heap.size + 1) 0 rfl (desigC 0 Y h u C) _ p9.row Tryd.underlying23 rfl info5d ?_) | (refine wpList_store_mid rfl _ (.tmp 2) (.tmp 107) rfl w.heap.size 0 _ rfl rfl ?_ info5d ?_ ?_; exact p9.res; simp [Value.oneCell']))
        exact bodyPost_ret (ret_cell_tmp Tryd.results22 _ _ w.heap.size (desigC 0 Y h u C) _ rfl (World.rangeAt_setCells_same _ _ _ _ p9.res) Tryd.underlying23 rfl info5d) rfl ⟨⟨0, Y, h, u, C⟩, 0, rfl, FN.out, below_setCells _ (Nat.le_refl _) _ _ _ p9.below⟩
      · have bt : (T == s.toList) = false := by rw [Lib.toList_data]; simp [ht]
        have FN := Lib.hid (UnpackIs.no cd.out (fun x => ht (eT.symm.trans x.2)))
        clear eT ht
        go_wp2_with (refine wpList_load_mid rfl _ (.tmp 4) rfl (w.heap.size + 1) 0 rfl (desigC 0 Y h u C) _ PA.out.row Tryd.underlying23 rfl info5d ?_)
        refine TC.out.mono ?_
        rintro e w9 ⟨rfl, hb⟩
        have p9 := PA.out.call hb
        clear TC hb
        go_wp2_with (refine wpList_store_mid rfl _ (.tmp 2) (.tmp 106) rfl w.heap.size 0 _ rfl rfl ?_ info5d ?_ ?_; exact p9.res; simp [Value.oneCell'])
        exact bodyPost_ret (ret_cell_tmp Tryd.results22 _ _ w.heap.size (desigC 0 0 0 0 0) _ rfl (World.rangeAt_setCells_same _ _ _ _ p9.res) Tryd.underlying23 rfl info5d) rfl ⟨zeroG, 12, rfl, FN.out, below_setCells _ (Nat.le_refl _) _ _ _ p9.below⟩
    · have TC := Lib.hid (pack_no 0 Y h u C _ (HT.out.below PA.out.below) x3.1 x3.2 x6.1 x6.2 g)
      have FN := Lib.hid (UnpackIs.no cd.out (fun x => g x.1))
      clear g
      go_wp2_with (refine wpList_load_mid rfl _ (.tmp 4) rfl (w.heap.size + 1) 0 rfl (desigC 0 Y h u C) _ PA.out.row Tryd.underlying23 rfl info5d ?_)
      refine TC.out.mono ?_
      rintro e w9 ⟨rfl, hb⟩
      have p9 := PA.out.call hb
      clear TC hb
      go_wp2_with (refine wpList_store_mid rfl _ (.tmp 2) (.tmp 106) rfl w.heap.size 0 _ rfl rfl ?_ info5d ?_ ?_; exact p9.res; simp [Value.oneCell'])
      exact bodyPost_ret (ret_cell_tmp Tryd.results22 _ _ w.heap.size (desigC 0 0 0 0 0) _ rfl (World.rangeAt_setCells_same _ _ _ _ p9.res) Tryd.underlying23 rfl info5d) rfl ⟨zeroG, 12, rfl, FN.out, below_setCells _ (Nat.le_refl _) _ _ _ p9.below⟩
  · have h7a : ((s.size : Int) == 7) = false := by rw [beq_eq_false_iff_ne]; omega
    by_cases h5 : s.size = 5
    · have h5a : ((s.size : Int) == 5) = true := by simp [h5]
      have h5b : ((s.size : Int) != 5) = false := by simp [h5]
      have g1 : (1 : Int) ≤ (s.size : Int) := by omega
      have i0 : 0 < s.size := by omega
      have i0' : (0 : Int) < (s.size : Int) := by omega
      have H5 := Lib.hid h5
      clear h7 h5
      go_enter Tryd.func22, Tryd.ntmps22
      go_wp2_with fail
      refine (whole_62 (s.extract 1 s.size) _ (by have := ext_size s 1 s.size; omega)).mono ?_
      rintro e w1 ⟨n, ok, rfl, hw, hb⟩
      have p2 := p0.call hb
      have n0 := hw.lo
      have n1 := hw.hi
      clear p0 hb
      by_cases hx : (s[0].toNat : Int) = 126
      · have e0 : ((s[0].toNat : Int) == 126) = true := by simp [hx]
        cases ok with
        | true =>
          have c0 := p2.cell 0 _ rfl
          have f0 := p2.fr 0 (by omega)
          have cd := Lib.hid (tilde_at s H5.out hx hw)
          obtain ⟨v, ev⟩ : ∃ v, n + 620000 = v := ⟨_, rfl⟩
          rw [ev] at cd
          have p5 := Lib.hid (p2.set 0 (.int .i64 v) (by simp) (cs' := desigC v 0 0 0 0) rfl)
          clear p2 hw hx
          by_cases g : okD v 0 0 0 0
          · obtain ⟨T, eT⟩ : ∃ T, packG ⟨v, 0, 0, 0, 0⟩ = T := ⟨_, rfl⟩
            have TC := Pack_ok v 0 0 0 0 _ (HT.out.below p5.out.below) (by omega) (by omega) (by omega) (by omega) g
            unfold PackOk at TC
            rw [eT] at TC
            have TC := Lib.hid TC
            by_cases ht : T = s.data.toList
            · have bt : (T == s.toList) = true := by rw [Lib.toList_data]; simp [ht]
              have FN := Lib.hid (UnpackIs.yes (l := s.data.toList) (d := ⟨v, 0, 0, 0, 0⟩) g (eT.trans ht))
              clear eT ht
              go_wp2_with (refine wpList_load_mid rfl _ (.tmp 4) rfl (w.heap.size + 1) 0 rfl (desigC v 0 0 0 0) _ p5.out.row Tryd.underlying23 rfl info5d ?_)
              refine TC.out.mono ?_
              rintro e w9 ⟨rfl, hb⟩
              have p9 := p5.out.call hb
              clear TC hb
              go_wp2_with (first | (refine wpList_load_mid rfl _ (.tmp 4) rfl (w.heap.size + 1) 0 rfl (desigC v 0 0 0 0) _ p9.row Tryd.underlying23 rfl info5d ?_) | (refine wpList_store_mid rfl _ (.tmp 2) (.tmp 107) rfl w.heap.size 0 _ rfl rfl ?_ info5d ?_ ?_; exact p9.res; simp [Value.oneCell']))
              exact bodyPost_ret (ret_cell_tmp Tryd.results22 _ _ w.heap.size (desigC v 0 0 0 0) _ rfl (World.rangeAt_setCells_same _ _ _ _ p9.res) Tryd.underlying23 rfl info5d) rfl ⟨⟨v, 0, 0, 0, 0⟩, 0, rfl, FN.out, below_setCells _ (Nat.le_refl _) _ _ _ p9.below⟩
            · have bt : (T == s.toList) = false := by rw [Lib.toList_data]; simp [ht]
              have FN := Lib.hid (UnpackIs.no cd.out (fun x => ht (eT.symm.trans x.2)))
              clear eT ht
              go_wp2_with (refine wpList_load_mid rfl _ (.tmp 4) rfl (w.heap.size + 1) 0 rfl (desigC v 0 0 0 0) _ p5.out.row Tryd.underlying23 rfl info5d ?_)
              refine TC.out.mono ?_
              rintro e w9 ⟨rfl, hb⟩
              have p9 := p5.out.call hb
              clear TC hb
              go_wp2_with (refine wpList_store_mid rfl _ (.tmp 2) (.tmp 106) rfl w.heap.size 0 _ rfl rfl ?_ info5d ?_ ?_; exact p9.res; simp [Value.oneCell'])
              exact bodyPost_ret (ret_cell_tmp Tryd.results22 _ _ w.heap.size (desigC 0 0 0 0 0) _ rfl (World.rangeAt_setCells_same _ _ _ _ p9.res) Tryd.underlying23 rfl info5d) rfl ⟨zeroG, 12, rfl, FN.out, below_setCells _ (Nat.le_refl _) _ _ _ p9.below⟩
          · have TC := Lib.hid (pack_no v 0 0 0 0 _ (HT.out.below p5.out.below) (by omega) (by omega) (by omega) (by omega) g)
            have FN := Lib.hid (UnpackIs.no cd.out (fun x => g x.1))
            clear g
            go_wp2_with (refine wpList_load_mid rfl _ (.tmp 4) rfl (w.heap.size + 1) 0 rfl (desigC v 0 0 0 0) _ p5.out.row Tryd.underlying23 rfl info5d ?_)
            refine TC.out.mono ?_
            rintro e w9 ⟨rfl, hb⟩
            have p9 := p5.out.call hb
            clear TC hb
            go_wp2_with (refine wpList_store_mid rfl _ (.tmp 2) (.tmp 106) rfl w.heap.size 0 _ rfl rfl ?_ info5d ?_ ?_; exact p9.res; simp [Value.oneCell'])
            exact bodyPost_ret (ret_cell_tmp Tryd.results22 _ _ w.heap.size (desigC 0 0 0 0 0) _ rfl (World.rangeAt_setCells_same _ _ _ _ p9.res) Tryd.underlying23 rfl info5d) rfl ⟨zeroG, 12, rfl, FN.out, below_setCells _ (Nat.le_refl _) _ _ _ p9.below⟩
        | false =>
          have HW := Lib.hid hw
          clear hw hx
          go_wp2_with fail
          refine (whole_62 (s.extract 0 1) _ (by have := ext_size s 0 1; omega)).mono ?_
          rintro e w3 ⟨hi, o2, rfl, hw2, hb⟩
          have p3 := p2.call hb
          clear p2 hb
          have HW2 := Lib.hid hw2
          have hi0 := hw2.lo
          have hi1 := hw2.hi
          clear hw2
          go_wp2_with fail
          refine (whole_10 (s.extract 1 s.size) _ (by have := ext_size s 1 s.size; omega)).mono ?_
          rintro e w4 ⟨lw, o3, rfl, hw3, hb⟩
          have p4 := p3.call hb
          clear p3 hb
          have lw0 := hw3.lo
          have lw1 := hw3.hi
          have cd := Lib.hid (low_at s H5.out HW.out (fun x => by cases x.2) HW2.out hw3)
          clear HW HW2 hw3
          have c0 := p4.cell 0 _ rfl
          have f0 := p4.fr 0 (by omega)
          have wa : IntKind.i64.wrap (10000 * hi) = 10000 * hi := IntWalk.i64_in _ (by omega)
          have wb : IntKind.i64.wrap (10000 * hi + lw) = 10000 * hi + lw := IntWalk.i64_in _ (by omega)
          obtain ⟨v, ev⟩ : ∃ v, 10000 * hi + lw = v := ⟨_, rfl⟩
          have p5 := Lib.hid (p4.set 0 (.int .i64 v) (by simp) (cs' := desigC v 0 0 0 0) rfl)
          rw [ev] at cd wb
          clear p4
          by_cases g : okD v 0 0 0 0
          · obtain ⟨T, eT⟩ : ∃ T, packG ⟨v, 0, 0, 0, 0⟩ = T := ⟨_, rfl⟩
            have TC := Pack_ok v 0 0 0 0 _ (HT.out.below p5.out.below) (by omega) (by omega) (by omega) (by omega) g
            unfold PackOk at TC
            rw [eT] at TC
            have TC := Lib.hid TC
            by_cases ht : T = s.data.toList
            · have bt : (T == s.toList) = true := by rw [Lib.toList_data]; simp [ht]
              have FN := Lib.hid (UnpackIs.yes (l := s.data.toList) (d := ⟨v, 0, 0, 0, 0⟩) g (eT.trans ht))
              clear eT ht
              go_wp2_with (refine wpList_load_mid rfl _ (.tmp 4) rfl (w.heap.size + 1) 0 rfl (desigC v 0 0 0 0) _ p5.out.row Tryd.underlying23 rfl info5d ?_)
              refine TC.out.mono ?_
              rintro e w9 ⟨rfl, hb⟩
              have p9 := p5.out.call hb
              clear TC hb
              go_wp2_with (first | (refine wpList_load_mid rfl _ (.tmp 4) rfl (w.heap.size + 1) 0 rfl (desigC v 0 0 0 0) _ p9.row Tryd.underlying23 rfl info5d ?_) | (refine wpList_store_mid rfl _ (.tmp 2) (.tmp 107) rfl w.heap.size 0 _ rfl rfl ?_ info5d ?_ ?_; exact p9.res; simp [Value.oneCell']))
              exact bodyPost_ret (ret_cell_tmp Tryd.results22 _ _ w.heap.size (desigC v 0 0 0 0) _ rfl (World.rangeAt_setCells_same _ _ _ _ p9.res) Tryd.underlying23 rfl info5d) rfl ⟨⟨v, 0, 0, 0, 0⟩, 0, rfl, FN.out, below_setCells _ (Nat.le_refl _) _ _ _ p9.below⟩
            · have bt : (T == s.toList) = false := by rw [Lib.toList_data]; simp [ht]
              have FN := Lib.hid (UnpackIs.no cd.out (fun x => ht (eT.symm.trans x.2)))
              clear eT ht
              go_wp2_with (refine wpList_load_mid rfl _ (.tmp 4) rfl (w.heap.size + 1) 0 rfl (desigC v 0 0 0 0) _ p5.out.row Tryd.underlying23 rfl info5d ?_)
              refine TC.out.mono ?_
              rintro e w9 ⟨rfl, hb⟩
              have p9 := p5.out.call hb
              clear TC hb
              go_wp2_with (refine wpList_store_mid rfl _ (.tmp 2) (.tmp 106) rfl w.heap.size 0 _ rfl rfl ?_ info5d ?_ ?_; exact p9.res; simp [Value.oneCell'])
              exact bodyPost_ret (ret_cell_tmp Tryd.results22 _ _ w.heap.size (desigC 0 0 0 0 0) _ rfl (World.rangeAt_setCells_same _ _ _ _ p9.res) Tryd.underlying23 rfl info5d) rfl ⟨zeroG, 12, rfl, FN.out, below_setCells _ (Nat.le_refl _) _ _ _ p9.below⟩
          · have TC := Lib.hid (pack_no v 0 0 0 0 _ (HT.out.below p5.out.below) (by omega) (by omega) (by omega) (by omega) g)
            have FN := Lib.hid (UnpackIs.no cd.out (fun x => g x.1))
            clear g
            go_wp2_with (refine wpList_load_mid rfl _ (.tmp 4) rfl (w.heap.size + 1) 0 rfl (desigC v 0 0 0 0) _ p5.out.row Tryd.underlying23 rfl info5d ?_)
            refine TC.out.mono ?_
            rintro e w9 ⟨rfl, hb⟩
            have p9 := p5.out.call hb
            clear TC hb
            go_wp2_with (refine wpList_store_mid rfl _ (.tmp 2) (.tmp 106) rfl w.heap.size 0 _ rfl rfl ?_ info5d ?_ ?_; exact p9.res; simp [Value.oneCell'])
            exact bodyPost_ret (ret_cell_tmp Tryd.results22 _ _ w.heap.size (desigC 0 0 0 0 0) _ rfl (World.rangeAt_setCells_same _ _ _ _ p9.res) Tryd.underlying23 rfl info5d) rfl ⟨zeroG, 12, rfl, FN.out, below_setCells _ (Nat.le_refl _) _ _ _ p9.below⟩
      · have e0 : ((s[0].toNat : Int) == 126) = false := by simp [hx]
        have HW := Lib.hid hw
        have hxx := Lib.hid hx
        clear hw hx
        go_wp2_with fail
        refine (whole_62 (s.extract 0 1) _ (by have := ext_size s 0 1; omega)).mono ?_
        rintro e w3 ⟨hi, o2, rfl, hw2, hb⟩
        have p3 := p2.call hb
        clear p2 hb
        have HW2 := Lib.hid hw2
        have hi0 := hw2.lo
        have hi1 := hw2.hi
        clear hw2
        go_wp2_with fail
        refine (whole_10 (s.extract 1 s.size) _ (by have := ext_size s 1 s.size; omega)).mono ?_
        rintro e w4 ⟨lw, o3, rfl, hw3, hb⟩
        have p4 := p3.call hb
        clear p3 hb
        have lw0 := hw3.lo
        have lw1 := hw3.hi
        have cd := Lib.hid (low_at s H5.out HW.out (fun x => hxx.out x.1) HW2.out hw3)
        clear HW HW2 hw3
        have c0 := p4.cell 0 _ rfl
        have f0 := p4.fr 0 (by omega)
        have wa : IntKind.i64.wrap (10000 * hi) = 10000 * hi := IntWalk.i64_in _ (by omega)
        have wb : IntKind.i64.wrap (10000 * hi + lw) = 10000 * hi + lw := IntWalk.i64_in _ (by omega)
        obtain ⟨v, ev⟩ : ∃ v, 10000 * hi + lw = v := ⟨_, rfl⟩
        have p5 := Lib.hid (p4.set 0 (.int .i64 v) (by simp) (cs' := desigC v 0 0 0 0) rfl)
        rw [ev] at cd wb
        clear p4
        by_cases g : okD v 0 0 0 0
        · obtain ⟨T, eT⟩ : ∃ T, packG ⟨v, 0, 0, 0, 0⟩ = T := ⟨_, rfl⟩
          have TC := Pack_ok v 0 0 0 0 _ (HT.out.below p5.out.below) (by omega) (by omega) (by omega) (by omega) g
          unfold PackOk at TC
          rw [eT] at TC
          have TC := Lib.hid TC
          by_cases ht : T = s.data.toList
          · have bt : (T == s.toList) = true := by rw [Lib.toList_data]; simp [ht]
            have FN := Lib.hid (UnpackIs.yes (l := s.data.toList) (d := ⟨v, 0, 0, 0, 0⟩) g (eT.trans ht))
            clear eT ht
            go_wp2_with (refine wpList_load_mid rfl _ (.tmp 4) rfl (w.heap.size + 1) 0 rfl (desigC v 0 0 0 0) _ p5.out.row Tryd.underlying23 rfl info5d ?_)
            refine TC.out.mono ?_
            rintro e w9 ⟨rfl, hb⟩
            have p9 := p5.out.call hb
            clear TC hb
            go_wp2_with (first | (refine wpList_load_mid rfl _ (.tmp 4) rfl (w.heap.size + 1) 0 rfl (desigC v 0 0 0 0) _ p9.row Tryd.underlying23 rfl info5d ?_) | (refine wpList_store_mid rfl _ (.tmp 2) (.tmp 107) rfl w.heap.size 0 _ rfl rfl ?_ info5d ?_ ?_; exact p9.res; simp [Value.oneCell']))
            exact bodyPost_ret (ret_cell_tmp Tryd.results22 _ _ w.heap.size (desigC v 0 0 0 0) _ rfl (World.rangeAt_setCells_same _ _ _ _ p9.res) Tryd.underlying23 rfl info5d) rfl ⟨⟨v, 0, 0, 0, 0⟩, 0, rfl, FN.out, below_setCells _ (Nat.le_refl _) _ _ _ p9.below⟩
          · have bt : (T == s.toList) = false := by rw [Lib.toList_data]; simp [ht]
            have FN := Lib.hid (UnpackIs.no cd.out (fun x => ht (eT.symm.trans x.2)))
            clear eT ht
            go_wp2_with (refine wpList_load_mid rfl _ (.tmp 4) rfl (w.heap.size + 1) 0 rfl (desigC v 0 0 0 0) _ p5.out.row Tryd.underlying23 rfl info5d ?_)
            refine TC.out.mono ?_
            rintro e w9 ⟨rfl, hb⟩
            have p9 := p5.out.call hb
            clear TC hb
            go_wp2_with (refine wpList_store_mid rfl _ (.tmp 2) (.tmp 106) rfl w.heap.size 0 _ rfl rfl ?_ info5d ?_ ?_; exact p9.res; simp [Value.oneCell'])
            exact bodyPost_ret (ret_cell_tmp Tryd.results22 _ _ w.heap.size (desigC 0 0 0 0 0) _ rfl (World.rangeAt_setCells_same _ _ _ _ p9.res) Tryd.underlying23 rfl info5d) rfl ⟨zeroG, 12, rfl, FN.out, below_setCells _ (Nat.le_refl _) _ _ _ p9.below⟩
        · have TC := Lib.hid (pack_no v 0 0 0 0 _ (HT.out.below p5.out.below) (by omega) (by omega) (by omega) (by omega) g)
          have FN := Lib.hid (UnpackIs.no cd.out (fun x => g x.1))
          clear g
          go_wp2_with (refine wpList_load_mid rfl _ (.tmp 4) rfl (w.heap.size + 1) 0 rfl (desigC v 0 0 0 0) _ p5.out.row Tryd.underlying23 rfl info5d ?_)
          refine TC.out.mono ?_
          rintro e w9 ⟨rfl, hb⟩
          have p9 := p5.out.call hb
          clear TC hb
          go_wp2_with (refine wpList_store_mid rfl _ (.tmp 2) (.tmp 106) rfl w.heap.size 0 _ rfl rfl ?_ info5d ?_ ?_; exact p9.res; simp [Value.oneCell'])
          exact bodyPost_ret (ret_cell_tmp Tryd.results22 _ _ w.heap.size (desigC 0 0 0 0 0) _ rfl (World.rangeAt_setCells_same _ _ _ _ p9.res) Tryd.underlying23 rfl info5d) rfl ⟨zeroG, 12, rfl, FN.out, below_setCells _ (Nat.le_refl _) _ _ _ p9.below⟩
    · have h5a : ((s.size : Int) == 5) = false := by rw [beq_eq_false_iff_ne]; omega
      have h5b : ((s.size : Int) != 5) = true := by rw [bne_iff_ne]; omega
      have cd := Lib.hid (unp_none (l := s.data.toList) (by have := size_data s; omega) (by have := size_data s; omega))
      have p2 := Lib.hid p0
      clear h7 h5 p0
      go_enter Tryd.func22, Tryd.ntmps22
      have g : ¬ okD 0 0 0 0 0 := by unfold okD; omega
      · have TC := Lib.hid (pack_no 0 0 0 0 0 _ (HT.out.below p2.out.below) (by omega) (by omega) (by omega) (by omega) g)
        have FN := Lib.hid (UnpackIs.no cd.out (fun x => g x.1))
        clear g
        go_wp2_with (refine wpList_load_mid rfl _ (.tmp 4) rfl (w.heap.size + 1) 0 rfl (desigC 0 0 0 0 0) _ p2.out.row Tryd.underlying23 rfl info5d ?_)
        refine TC.out.mono ?_
        rintro e w9 ⟨rfl, hb⟩
        have p9 := p2.out.call hb
        clear TC hb
        go_wp2_with (refine wpList_store_mid rfl _ (.tmp 2) (.tmp 106) rfl w.heap.size 0 _ rfl rfl ?_ info5d ?_ ?_; exact p9.res; simp [Value.oneCell'])
        exact bodyPost_ret (ret_cell_tmp Tryd.results22 _ _ w.heap.size (desigC 0 0 0 0 0) _ rfl (World.rangeAt_setCells_same _ _ _ _ p9.res) Tryd.underlying23 rfl info5d) rfl ⟨zeroG, 12, rfl, FN.out, below_setCells _ (Nat.le_refl _) _ _ _ p9.below⟩
end Dw
end Go.Proofs.YtdjndoafnoidbaaDoor
