/-
  Unpack of the reference.
-/
import Derived.Test.YtdjndoafnoidbaaDoorDUnpack
namespace Go.Proofs.YtdjndoafnoidbaaDoor
namespace Dw
open Go.RowKit Dp Lw

theorem worthI_bd (c : UInt8) : -1 ≤ worthI c ∧ worthI c ≤ 61 := by unfold worthI; split <;> omega
theorem len5 {l : List UInt8} (h : l.length = 5) : ∃ a b c d e, l = [a, b, c, d, e] := by
  match l, h with
  | [a, b, c, d, e], _ => exact ⟨a, b, c, d, e, rfl⟩
theorem at_list (s : ByteArray) (k : Nat) (h : k < s.size) : s[k] = s.data.toList.getD k 0 := UInt8.toNat_inj.1 (by have := getD_at s k h; omega)
/-- The number of the digits behind the first byte, as far as they are read. -/
def vU (s : ByteArray) : Nat → Int
  | 0 => 0
  | j + 1 => 62 * vU s j + worthI (s.data.toList.getD (j + 1) 0)
theorem vU_bd (s : ByteArray) : ∀ j, -(62 ^ j : Int) + 1 ≤ vU s j ∧ vU s j ≤ (62 ^ j : Int) - 1
  | 0 => by simp [vU]
  | j + 1 => by
    have h := vU_bd s j
    have hw := worthI_bd (s.data.toList.getD (j + 1) 0)
    have hp : (1 : Int) ≤ 62 ^ j := by
      have : (0 : Int) < 62 ^ j := Int.pow_pos (by omega)
      omega
    rw [vU, Int.pow_succ]
    omega
theorem pow62 : ∀ j : Nat, j ≤ 4 → (62 : Int) ^ j ≤ 14776336 := by decide
theorem vU_s (s : ByteArray) (j : Nat) (h : j + 1 < s.size) : vU s (j + 1) = 62 * vU s j + worthI s[j + 1] := by rw [vU, ← at_list s (j + 1) h]
theorem candU_tilde (s : ByteArray) (h5 : s.size = 5) (h0 : (s[0].toNat : Int) = 126) : CandU s.data.toList ⟨vU s 4 + 620000, 0, 0, 0, 0⟩ := by
  have k := candU_is s.data.toList
  have e0 := getD_at s 0 (by omega)
  have hv : vU s 4 = 62 * (62 * (62 * (62 * 0 + worthI (s.data.toList.getD 1 0)) + worthI (s.data.toList.getD 2 0)) + worthI (s.data.toList.getD 3 0)) + worthI (s.data.toList.getD 4 0) := rfl
  rw [hv]
  obtain ⟨a, b, c, d, e, hh⟩ := len5 (l := s.data.toList) (by have := size_data s; omega)
  rw [hh] at k e0 ⊢
  have ha : a = 126 := UInt8.toNat_inj.1 (by show _ = 126; simp only [List.getD_cons_zero] at e0; omega)
  subst ha
  simp only [candU, if_pos, List.getD_cons_zero, List.getD_cons_succ] at k ⊢
  rw [show (62 : Int) * 0 + worthI b = worthI b by omega]
  exact k
theorem candU_low (s : ByteArray) (h5 : s.size = 5) (h0 : ¬ (s[0].toNat : Int) = 126) : CandU s.data.toList ⟨(10000 : Int) * worthI s[0] + valR (s.extract 1 s.size).data.toList, 0, 0, 0, 0⟩ := by
  have k := candU_is s.data.toList
  have e0 := getD_at s 0 (by omega)
  rw [ext_drop, at_list s 0 (by omega)]
  obtain ⟨a, b, c, d, e, hh⟩ := len5 (l := s.data.toList) (by have := size_data s; omega)
  rw [hh] at k e0 ⊢
  simp only [List.getD_cons_zero] at e0
  have ha : ¬ a = 126 := by rintro rfl; exact h0 e0.symm
  simp only [candU, if_neg ha, List.getD_cons_zero, List.drop_succ_cons, List.drop_zero] at k ⊢
  exact k
theorem candU_seven (s : ByteArray) (h7 : s.size = 7) (x h u : Int) (ex : (s[0].toNat : Int) = x) (eh : (s[3].toNat : Int) = h) (eu : (s[6].toNat : Int) = u) :
    CandU s.data.toList ⟨0, 1800 + 100 * ((x - 73) % 256) + valR (s.extract 1 3).data.toList, h, u, (10 : Int) * worthI s[4] + worthI s[5]⟩ := by
  have k := candU_is s.data.toList
  have e0 := getD_at s 0 (by omega)
  have e3 := getD_at s 3 (by omega)
  have e6 := getD_at s 6 (by omega)
  rw [ex] at e0
  rw [eh] at e3
  rw [eu] at e6
  rw [ext_list, at_list s 4 (by omega), at_list s 5 (by omega), ← e0, ← e3, ← e6]
  obtain ⟨a, b, c, d, e, f, g, hh⟩ := len7 (l := s.data.toList) (by have := size_data s; omega)
  rw [hh] at k ⊢
  exact k
theorem candU_none (s : ByteArray) (h5 : s.size ≠ 5) (h7 : s.size ≠ 7) : CandU s.data.toList zeroG := unp_none (by have := size_data s; omega) (by have := size_data s; omega)
set_option maxRecDepth 100000 in
set_option maxHeartbeats 8000000 in
theorem runpack_tilde (s : ByteArray) (w : World) (h5 : s.size = 5) (h0 : (s[0].toNat : Int) = 126) :
    Calls Tryd.prog 23 #[.string s] w (UnpackPost s w) := by
  have p0 : PS w (desigC 0 0 0 0 0) ((w.alloc (.cells #[.int .i64 0, .int .i64 0, .int .u8 0, .int .u8 0, .int .i64 0] 23)).alloc (.cells #[.int .i64 0, .int .i64 0, .int .u8 0, .int .u8 0, .int .i64 0] 23)) := PS.new w
  have p0 := Lib.hid p0
  have h5a : ((s.size : Int) == 5) = true := by simp [h5]
  have i0 : 0 < s.size := by omega
  have i0' : (0 : Int) < (s.size : Int) := by omega
  have e0 : ((s[0].toNat : Int) == 126) = true := by simp [h0]
  have cd := Lib.hid (candU_tilde s h5 h0)
  have H5 := Lib.hid h5
  clear h5 h0
  go_enter Tryd.func23, Tryd.ntmps23
  go_wp2_with fail
  go_loopw [5] (fun i wr => ∃ j : Nat, j ≤ 4 ∧ i = .int .i64 ((j : Int) + 1) ∧ PS w (desigC (vU s j) 0 0 0 0) wr) (fun i _ => 5 - (intOf i).toNat)
  case atStart => exact ⟨0, by omega, rfl, p0.out⟩
  case round =>
    clear p0
    obtain ⟨j, hj, rfl, p1⟩ := hrel
    by_cases hlt : j < 4
    · have hlt' : (j : Int) + 1 < 5 := by omega
      have sj : j + 1 < s.size := by have := H5.out; omega
      have sj' : (j : Int) + 1 < (s.size : Int) := by omega
      have j0 : (0 : Int) ≤ (j : Int) + 1 := by omega
      have jn : ((j : Int) + 1).toNat = j + 1 := by omega
      have NX := vU_s s j sj
      have wb := worthI_bd s[j + 1]
      have vb := vU_bd s j
      have pb := pow62 j (by omega)
      have WC := Lib.hid (fun w' => (worth_any s[j + 1] w').mono fun _ _ x => (⟨x.1, x.2.symm⟩ : _ ∧ _))
      have c0 := p1.cell 0 _ rfl
      have f0 := p1.fr 0 (by omega)
      obtain ⟨v, ev⟩ : ∃ v, vU s j = v := ⟨_, rfl⟩
      obtain ⟨v', ev'⟩ : ∃ v, vU s (j + 1) = v := ⟨_, rfl⟩
      rw [ev] at c0 vb p1 NX
      rw [ev'] at NX
      obtain ⟨k, ek⟩ : ∃ k, worthI s[j + 1] = k := ⟨_, rfl⟩
      rw [ek] at NX WC wb
      have wa : IntKind.i64.wrap (62 * v) = 62 * v := IntWalk.i64_in _ (by omega)
      have wc : IntKind.i64.wrap (62 * v + k) = v' := by rw [NX]; exact IntWalk.i64_in _ (by omega)
      have p2 := p1.drew.set 0 (.int .i64 v') (by simp) (cs' := desigC v' 0 0 0 0) rfl
      have P2 := Lib.hid p2
      have EV := Lib.hid ev'
      clear p2 p1 pb vb NX ek ev ev'
      go_wp2_with fail
      go_still_tail 9, (by kernel_rfl)
      repeat still_step
      still_call (WC.out _)
      repeat still_step
      try refine wpStill_nil ?_
      change wpList _ _ _ _ _ wr.drew
      go_wp2_with fail
      go_roundw
      case rel => exact ⟨j + 1, by omega, by rw [show (((j + 1 : Nat) : Int) + 1) = (j : Int) + 1 + 1 by omega], by rw [EV.out]; exact P2.out⟩
      case measure => simp [intOf]; omega
    · obtain rfl : j = 4 := by omega
      have c0 := p1.cell 0 _ rfl
      have f0 := p1.fr 0 (by omega)
      have vb := vU_bd s 4
      obtain ⟨v, ev⟩ : ∃ v, vU s 4 = v := ⟨_, rfl⟩
      rw [ev] at cd c0 p1 vb
      obtain ⟨v', ev'⟩ : ∃ v', v + 620000 = v' := ⟨_, rfl⟩
      rw [ev'] at cd
      have p5 := Lib.hid (p1.set 0 (.int .i64 v') (by simp) (cs' := desigC v' 0 0 0 0) rfl)
      clear p1 ev hlt
      by_cases g : okD v' 0 0 0 0
      · obtain ⟨T, eT⟩ : ∃ T, packG ⟨v', 0, 0, 0, 0⟩ = T := ⟨_, rfl⟩
        have TC := fun w' => rPack_ok v' 0 0 0 0 w' (by omega) (by omega) (by omega) (by omega) g
        unfold PackOk at TC
        simp only [eT] at TC
        have TC := Lib.hid TC
        by_cases ht : T = s.data.toList
        · have bt : (T == s.toList) = true := by rw [Lib.toList_data]; simp [ht]
          have FN := Lib.hid (UnpackIs.yes (l := s.data.toList) (d := ⟨v', 0, 0, 0, 0⟩) g (eT.trans ht))
          clear eT ht
          go_wp2_with (refine wpList_load_mid rfl _ (.tmp 4) rfl (w.heap.size + 1) 0 rfl (desigC v' 0 0 0 0) _ p5.out.row Tryd.underlying23 rfl info5d ?_)
          refine (TC.out _).mono ?_
          rintro e w9 ⟨rfl, hb⟩
          have p9 := p5.out.call hb
          clear TC hb
          go_wp2_with (first | (refine wpList_load_mid rfl _ (.tmp 4) rfl (w.heap.size + 1) 0 rfl (desigC v' 0 0 0 0) _ p9.row Tryd.underlying23 rfl info5d ?_) | (refine wpList_store_mid rfl _ (.tmp 2) (.tmp 87) rfl w.heap.size 0 _ rfl rfl ?_ info5d ?_ ?_; exact p9.res; simp [Value.oneCell']))
          exact bodyPost_ret (ret_cell_tmp Tryd.results23 _ _ w.heap.size (desigC v' 0 0 0 0) _ rfl (World.rangeAt_setCells_same _ _ _ _ p9.res) Tryd.underlying23 rfl info5d) rfl ⟨⟨v', 0, 0, 0, 0⟩, 0, rfl, FN.out, below_setCells _ (Nat.le_refl _) _ _ _ p9.below⟩
        · have bt : (T == s.toList) = false := by rw [Lib.toList_data]; simp [ht]
          have FN := Lib.hid (UnpackIs.no cd.out (fun x => ht (eT.symm.trans x.2)))
          clear eT ht
          go_wp2_with (refine wpList_load_mid rfl _ (.tmp 4) rfl (w.heap.size + 1) 0 rfl (desigC v' 0 0 0 0) _ p5.out.row Tryd.underlying23 rfl info5d ?_)
          refine (TC.out _).mono ?_
          rintro e w9 ⟨rfl, hb⟩
          have p9 := p5.out.call hb
          clear TC hb
          go_wp2_with (refine wpList_store_mid rfl _ (.tmp 2) (.tmp 86) rfl w.heap.size 0 _ rfl rfl ?_ info5d ?_ ?_; exact p9.res; simp [Value.oneCell'])
          exact bodyPost_ret (ret_cell_tmp Tryd.results23 _ _ w.heap.size (desigC 0 0 0 0 0) _ rfl (World.rangeAt_setCells_same _ _ _ _ p9.res) Tryd.underlying23 rfl info5d) rfl ⟨zeroG, 12, rfl, FN.out, below_setCells _ (Nat.le_refl _) _ _ _ p9.below⟩
      · have TC := Lib.hid (fun w' => rPack_no v' 0 0 0 0 w' g)
        have FN := Lib.hid (UnpackIs.no cd.out (fun x => g x.1))
        clear g
        go_wp2_with (refine wpList_load_mid rfl _ (.tmp 4) rfl (w.heap.size + 1) 0 rfl (desigC v' 0 0 0 0) _ p5.out.row Tryd.underlying23 rfl info5d ?_)
        refine (TC.out _).mono ?_
        rintro e w9 ⟨rfl, hb⟩
        have p9 := p5.out.call hb
        clear TC hb
        go_wp2_with (refine wpList_store_mid rfl _ (.tmp 2) (.tmp 86) rfl w.heap.size 0 _ rfl rfl ?_ info5d ?_ ?_; exact p9.res; simp [Value.oneCell'])
        exact bodyPost_ret (ret_cell_tmp Tryd.results23 _ _ w.heap.size (desigC 0 0 0 0 0) _ rfl (World.rangeAt_setCells_same _ _ _ _ p9.res) Tryd.underlying23 rfl info5d) rfl ⟨zeroG, 12, rfl, FN.out, below_setCells _ (Nat.le_refl _) _ _ _ p9.below⟩
set_option maxRecDepth 100000 in
set_option maxHeartbeats 8000000 in
theorem runpack_low (s : ByteArray) (w : World) (h5 : s.size = 5) (h0 : ¬ (s[0].toNat : Int) = 126) :
    Calls Tryd.prog 23 #[.string s] w (UnpackPost s w) := by
  have p0 : PS w (desigC 0 0 0 0 0) ((w.alloc (.cells #[.int .i64 0, .int .i64 0, .int .u8 0, .int .u8 0, .int .i64 0] 23)).alloc (.cells #[.int .i64 0, .int .i64 0, .int .u8 0, .int .u8 0, .int .i64 0] 23)) := PS.new w
  have h5a : ((s.size : Int) == 5) = true := by simp [h5]
  have i0 : 0 < s.size := by omega
  have i0' : (0 : Int) < (s.size : Int) := by omega
  have g1 : (1 : Int) ≤ (s.size : Int) := by omega
  have e0 : ((s[0].toNat : Int) == 126) = false := by simp [h0]
  have cd := candU_low s h5 h0
  have WC := Lib.hid (fun w' => (worth_any s[0] w').mono fun _ _ x => (⟨x.1, x.2.symm⟩ : _ ∧ _))
  have wb := worthI_bd s[0]
  have VC := fun w' => (value_any (s.extract 1 s.size) w' (by have := ext_size s 1 s.size; omega)).mono fun _ _ x => (⟨x.1, x.2.symm⟩ : _ ∧ _)
  have vb := valR_bd (s.extract 1 s.size).data.toList
  obtain ⟨k, ek⟩ : ∃ k, worthI s[0] = k := ⟨_, rfl⟩
  obtain ⟨v, ev⟩ : ∃ v, valR (s.extract 1 s.size).data.toList = v := ⟨_, rfl⟩
  rw [ek] at WC wb cd
  rw [ev] at vb cd
  simp only [ev] at VC
  have VC := Lib.hid VC
  obtain ⟨v', ev'⟩ : ∃ v', 10000 * k + v = v' := ⟨_, rfl⟩
  have wa : IntKind.i64.wrap (10000 * k) = 10000 * k := IntWalk.i64_in _ (by omega)
  have wc : IntKind.i64.wrap (10000 * k + v) = 10000 * k + v := IntWalk.i64_in _ (by omega)
  rw [ev'] at cd wc
  have cd := Lib.hid cd
  clear h5 h0 ek ev
  go_enter Tryd.func23, Tryd.ntmps23
  go_wp2_with fail
  generalize (w.alloc (.cells #[.int .i64 0, .int .i64 0, .int .u8 0, .int .u8 0, .int .i64 0] 23)).alloc (.cells #[.int .i64 0, .int .i64 0, .int .u8 0, .int .u8 0, .int .i64 0] 23) = W at *
  have p1 := p0.drew
  have c0 := p1.cell 0 _ rfl
  have f0 := p1.fr 0 (by omega)
  have p5 := Lib.hid (p1.set 0 (.int .i64 v') (by simp) (cs' := desigC v' 0 0 0 0) rfl)
  clear p1 p0
  go_still_tail 9, (by kernel_rfl)
  repeat still_step
  still_call (WC.out _)
  repeat still_step
  still_call (VC.out _)
  repeat still_step
  try refine wpStill_nil ?_
  change wpList _ _ _ _ _ W.drew
  by_cases g : okD v' 0 0 0 0
  · obtain ⟨T, eT⟩ : ∃ T, packG ⟨v', 0, 0, 0, 0⟩ = T := ⟨_, rfl⟩
    have TC := fun w' => rPack_ok v' 0 0 0 0 w' (by omega) (by omega) (by omega) (by omega) g
    unfold PackOk at TC
    simp only [eT] at TC
    have TC := Lib.hid TC
    by_cases ht : T = s.data.toList
    · have bt : (T == s.toList) = true := by rw [Lib.toList_data]; simp [ht]
      have FN := Lib.hid (UnpackIs.yes (l := s.data.toList) (d := ⟨v', 0, 0, 0, 0⟩) g (eT.trans ht))
      clear eT ht
      go_wp2_with (refine wpList_load_mid rfl _ (.tmp 4) rfl (w.heap.size + 1) 0 rfl (desigC v' 0 0 0 0) _ p5.out.row Tryd.underlying23 rfl info5d ?_)
      refine (TC.out _).mono ?_
      rintro e w9 ⟨rfl, hb⟩
      have p9 := p5.out.call hb
      clear TC hb
      go_wp2_with (first | (refine wpList_load_mid rfl _ (.tmp 4) rfl (w.heap.size + 1) 0 rfl (desigC v' 0 0 0 0) _ p9.row Tryd.underlying23 rfl info5d ?_) | (refine wpList_store_mid rfl _ (.tmp 2) (.tmp 87) rfl w.heap.size 0 _ rfl rfl ?_ info5d ?_ ?_; exact p9.res; simp [Value.oneCell']))
      exact bodyPost_ret (ret_cell_tmp Tryd.results23 _ _ w.heap.size (desigC v' 0 0 0 0) _ rfl (World.rangeAt_setCells_same _ _ _ _ p9.res) Tryd.underlying23 rfl info5d) rfl ⟨⟨v', 0, 0, 0, 0⟩, 0, rfl, FN.out, below_setCells _ (Nat.le_refl _) _ _ _ p9.below⟩
    · have bt : (T == s.toList) = false := by rw [Lib.toList_data]; simp [ht]
      have FN := Lib.hid (UnpackIs.no cd.out (fun x => ht (eT.symm.trans x.2)))
      clear eT ht
      go_wp2_with (refine wpList_load_mid rfl _ (.tmp 4) rfl (w.heap.size + 1) 0 rfl (desigC v' 0 0 0 0) _ p5.out.row Tryd.underlying23 rfl info5d ?_)
      refine (TC.out _).mono ?_
      rintro e w9 ⟨rfl, hb⟩
      have p9 := p5.out.call hb
      clear TC hb
      go_wp2_with (refine wpList_store_mid rfl _ (.tmp 2) (.tmp 86) rfl w.heap.size 0 _ rfl rfl ?_ info5d ?_ ?_; exact p9.res; simp [Value.oneCell'])
      exact bodyPost_ret (ret_cell_tmp Tryd.results23 _ _ w.heap.size (desigC 0 0 0 0 0) _ rfl (World.rangeAt_setCells_same _ _ _ _ p9.res) Tryd.underlying23 rfl info5d) rfl ⟨zeroG, 12, rfl, FN.out, below_setCells _ (Nat.le_refl _) _ _ _ p9.below⟩
  · have TC := Lib.hid (fun w' => rPack_no v' 0 0 0 0 w' g)
    have FN := Lib.hid (UnpackIs.no cd.out (fun x => g x.1))
    clear g
    go_wp2_with (refine wpList_load_mid rfl _ (.tmp 4) rfl (w.heap.size + 1) 0 rfl (desigC v' 0 0 0 0) _ p5.out.row Tryd.underlying23 rfl info5d ?_)
    refine (TC.out _).mono ?_
    rintro e w9 ⟨rfl, hb⟩
    have p9 := p5.out.call hb
    clear TC hb
    go_wp2_with (refine wpList_store_mid rfl _ (.tmp 2) (.tmp 86) rfl w.heap.size 0 _ rfl rfl ?_ info5d ?_ ?_; exact p9.res; simp [Value.oneCell'])
    exact bodyPost_ret (ret_cell_tmp Tryd.results23 _ _ w.heap.size (desigC 0 0 0 0 0) _ rfl (World.rangeAt_setCells_same _ _ _ _ p9.res) Tryd.underlying23 rfl info5d) rfl ⟨zeroG, 12, rfl, FN.out, below_setCells _ (Nat.le_refl _) _ _ _ p9.below⟩
set_option maxRecDepth 100000 in
set_option maxHeartbeats 8000000 in
theorem runpack_seven (s : ByteArray) (w : World) (h7 : s.size = 7) :
    Calls Tryd.prog 23 #[.string s] w (UnpackPost s w) := by
  have p0 : PS w (desigC 0 0 0 0 0) ((w.alloc (.cells #[.int .i64 0, .int .i64 0, .int .u8 0, .int .u8 0, .int .i64 0] 23)).alloc (.cells #[.int .i64 0, .int .i64 0, .int .u8 0, .int .u8 0, .int .i64 0] 23)) := PS.new w
  have h5a : ((s.size : Int) == 5) = false := by rw [beq_eq_false_iff_ne]; omega
  have h7a : ((s.size : Int) == 7) = true := by simp [h7]
  have g1 : (1 : Int) ≤ (s.size : Int) := by omega
  have g3 : (3 : Int) ≤ (s.size : Int) := by omega
  have i0 : 0 < s.size := by omega
  have i3 : 3 < s.size := by omega
  have i4 : 4 < s.size := by omega
  have i5 : 5 < s.size := by omega
  have i6 : 6 < s.size := by omega
  have i0' : (0 : Int) < (s.size : Int) := by omega
  have i3' : (3 : Int) < (s.size : Int) := by omega
  have i4' : (4 : Int) < (s.size : Int) := by omega
  have i5' : (5 : Int) < (s.size : Int) := by omega
  have i6' : (6 : Int) < (s.size : Int) := by omega
  have x0 := byte_bd s[0]
  have x3 := byte_bd s[3]
  have x6 := byte_bd s[6]
  obtain ⟨x, ex⟩ : ∃ x, (s[0].toNat : Int) = x := ⟨_, rfl⟩
  obtain ⟨h, eh⟩ : ∃ h, (s[3].toNat : Int) = h := ⟨_, rfl⟩
  obtain ⟨u, eu⟩ : ∃ u, (s[6].toNat : Int) = u := ⟨_, rfl⟩
  have cd := candU_seven s h7 x h u ex eh eu
  rw [ex] at x0
  rw [eh] at x3
  rw [eu] at x6
  have W4 := Lib.hid (fun w' => (worth_any s[4] w').mono fun _ _ x => (⟨x.1, x.2.symm⟩ : _ ∧ _))
  have W5 := Lib.hid (fun w' => (worth_any s[5] w').mono fun _ _ x => (⟨x.1, x.2.symm⟩ : _ ∧ _))
  have wb4 := worthI_bd s[4]
  have wb5 := worthI_bd s[5]
  have VC := fun w' => (value_any (s.extract 1 3) w' (by have := ext_size s 1 3; omega)).mono fun _ _ x => (⟨x.1, x.2.symm⟩ : _ ∧ _)
  have vb := valR_bd (s.extract 1 3).data.toList
  obtain ⟨k, ek⟩ : ∃ k, worthI s[4] = k := ⟨_, rfl⟩
  obtain ⟨o, eo⟩ : ∃ k, worthI s[5] = k := ⟨_, rfl⟩
  obtain ⟨v, ev⟩ : ∃ v, valR (s.extract 1 3).data.toList = v := ⟨_, rfl⟩
  rw [ek] at W4 wb4 cd
  rw [eo] at W5 wb5 cd
  rw [ev] at vb cd
  simp only [ev] at VC
  have VC := Lib.hid VC
  have wx : IntKind.u8.wrap (x - 73) = (x - 73) % 256 := rfl
  have xb : 0 ≤ (x - 73) % 256 ∧ (x - 73) % 256 < 256 := by omega
  have wx2 : IntKind.i64.wrap ((x - 73) % 256) = (x - 73) % 256 := IntWalk.i64_in _ (by omega)
  generalize (x - 73) % 256 = X at *
  have wa : IntKind.i64.wrap (100 * X) = 100 * X := IntWalk.i64_in _ (by omega)
  have wb : IntKind.i64.wrap (1800 + 100 * X) = 1800 + 100 * X := IntWalk.i64_in _ (by omega)
  have wc : IntKind.i64.wrap (1800 + 100 * X + v) = 1800 + 100 * X + v := IntWalk.i64_in _ (by omega)
  have wd : IntKind.i64.wrap (10 * k) = 10 * k := IntWalk.i64_in _ (by omega)
  have we : IntKind.i64.wrap (10 * k + o) = 10 * k + o := IntWalk.i64_in _ (by omega)
  obtain ⟨Y, eY⟩ : ∃ Y, 1800 + 100 * X + v = Y := ⟨_, rfl⟩
  obtain ⟨C, eC⟩ : ∃ C, 10 * k + o = C := ⟨_, rfl⟩
  rw [eY] at wc cd
  rw [eC] at we cd
  have cd := Lib.hid cd
  have H7 := Lib.hid h7
  clear h7 ek eo ev
  go_enter Tryd.func23, Tryd.ntmps23
  go_wp2_with fail
  generalize (w.alloc (.cells #[.int .i64 0, .int .i64 0, .int .u8 0, .int .u8 0, .int .i64 0] 23)).alloc (.cells #[.int .i64 0, .int .i64 0, .int .u8 0, .int .u8 0, .int .i64 0] 23) = W at *
  have p3 := p0.drew
  clear p0
  go_still_tail 23, (by kernel_rfl)
  repeat still_step
  still_call (VC.out _)
  repeat still_step
  still_call (W4.out _)
  repeat still_step
  still_call (W5.out _)
  repeat still_step
  try refine wpStill_nil ?_
  change wpList _ _ _ _ _ W.drew
  have PA := p3.all 0 Y h u C
  refine wpList_store_mid rfl _ (.tmp 4) (.tmp 73) rfl (w.heap.size + 1) 0 _ rfl rfl p3.there info5d (by simp [Value.oneCell']) ?_
  change wpList _ _ _ _ _ (W.drew.setCells (w.heap.size + 1) 0 (desigC 0 Y h u C))
  generalize W.drew.setCells (w.heap.size + 1) 0 (desigC 0 Y h u C) = W2 at *
  have PA := Lib.hid PA
  clear p3 wa wb wc wd we eY eC ex eh eu wx wx2
  by_cases g : okD 0 Y h u C
  · obtain ⟨T, eT⟩ : ∃ T, packG ⟨0, Y, h, u, C⟩ = T := ⟨_, rfl⟩
    have TC := fun w' => rPack_ok 0 Y h u C w' x3.1 x3.2 x6.1 x6.2 g
    unfold PackOk at TC
    simp only [eT] at TC
    have TC := Lib.hid TC
    by_cases ht : T = s.data.toList
    · have bt : (T == s.toList) = true := by rw [Lib.toList_data]; simp [ht]
      have FN := Lib.hid (UnpackIs.yes (l := s.data.toList) (d := ⟨0, Y, h, u, C⟩) g (eT.trans ht))
      clear eT ht
      go_wp2_with (refine wpList_load_mid rfl _ (.tmp 4) rfl (w.heap.size + 1) 0 rfl (desigC 0 Y h u C) _ PA.out.row Tryd.underlying23 rfl info5d ?_)
      refine (TC.out _).mono ?_
      rintro e w9 ⟨rfl, hb⟩
      have p9 := PA.out.call hb
      clear TC hb
      go_wp2_with (first | (refine wpList_load_mid rfl _ (.tmp 4) rfl (w.heap.size + 1) 0 rfl (desigC 0 Y h u C) _ p9.row Tryd.underlying23 rfl info5d ?_) | (refine wpList_store_mid rfl _ (.tmp 2) (.tmp 87) rfl w.heap.size 0 _ rfl rfl ?_ info5d ?_ ?_; exact p9.res; simp [Value.oneCell']))
      exact bodyPost_ret (ret_cell_tmp Tryd.results23 _ _ w.heap.size (desigC 0 Y h u C) _ rfl (World.rangeAt_setCells_same _ _ _ _ p9.res) Tryd.underlying23 rfl info5d) rfl ⟨⟨0, Y, h, u, C⟩, 0, rfl, FN.out, below_setCells _ (Nat.le_refl _) _ _ _ p9.below⟩
    · have bt : (T == s.toList) = false := by rw [Lib.toList_data]; simp [ht]
      have FN := Lib.hid (UnpackIs.no cd.out (fun x => ht (eT.symm.trans x.2)))
      clear eT ht
      go_wp2_with (refine wpList_load_mid rfl _ (.tmp 4) rfl (w.heap.size + 1) 0 rfl (desigC 0 Y h u C) _ PA.out.row Tryd.underlying23 rfl info5d ?_)
      refine (TC.out _).mono ?_
      rintro e w9 ⟨rfl, hb⟩
      have p9 := PA.out.call hb
      clear TC hb
      go_wp2_with (refine wpList_store_mid rfl _ (.tmp 2) (.tmp 86) rfl w.heap.size 0 _ rfl rfl ?_ info5d ?_ ?_; exact p9.res; simp [Value.oneCell'])
      exact bodyPost_ret (ret_cell_tmp Tryd.results23 _ _ w.heap.size (desigC 0 0 0 0 0) _ rfl (World.rangeAt_setCells_same _ _ _ _ p9.res) Tryd.underlying23 rfl info5d) rfl ⟨zeroG, 12, rfl, FN.out, below_setCells _ (Nat.le_refl _) _ _ _ p9.below⟩
  · have TC := Lib.hid (fun w' => rPack_no 0 Y h u C w' g)
    have FN := Lib.hid (UnpackIs.no cd.out (fun x => g x.1))
    clear g
    go_wp2_with (refine wpList_load_mid rfl _ (.tmp 4) rfl (w.heap.size + 1) 0 rfl (desigC 0 Y h u C) _ PA.out.row Tryd.underlying23 rfl info5d ?_)
    refine (TC.out _).mono ?_
    rintro e w9 ⟨rfl, hb⟩
    have p9 := PA.out.call hb
    clear TC hb
    go_wp2_with (refine wpList_store_mid rfl _ (.tmp 2) (.tmp 86) rfl w.heap.size 0 _ rfl rfl ?_ info5d ?_ ?_; exact p9.res; simp [Value.oneCell'])
    exact bodyPost_ret (ret_cell_tmp Tryd.results23 _ _ w.heap.size (desigC 0 0 0 0 0) _ rfl (World.rangeAt_setCells_same _ _ _ _ p9.res) Tryd.underlying23 rfl info5d) rfl ⟨zeroG, 12, rfl, FN.out, below_setCells _ (Nat.le_refl _) _ _ _ p9.below⟩
set_option maxRecDepth 100000 in
set_option maxHeartbeats 8000000 in
theorem runpack_none (s : ByteArray) (w : World) (hs : s.size ≤ 40) (h5 : s.size ≠ 5) (h7 : s.size ≠ 7) :
    Calls Tryd.prog 23 #[.string s] w (UnpackPost s w) := by
  have p2 : PS w (desigC 0 0 0 0 0) ((w.alloc (.cells #[.int .i64 0, .int .i64 0, .int .u8 0, .int .u8 0, .int .i64 0] 23)).alloc (.cells #[.int .i64 0, .int .i64 0, .int .u8 0, .int .u8 0, .int .i64 0] 23)) := PS.new w
  have p2 := Lib.hid p2
  have h5a : ((s.size : Int) == 5) = false := by rw [beq_eq_false_iff_ne]; omega
  have h7a : ((s.size : Int) == 7) = false := by rw [beq_eq_false_iff_ne]; omega
  have cd := Lib.hid (candU_none s h5 h7)
  clear h5 h7
  go_enter Tryd.func23, Tryd.ntmps23
  have g : ¬ okD 0 0 0 0 0 := by unfold okD; omega
  · have TC := Lib.hid (fun w' => rPack_no 0 0 0 0 0 w' g)
    have FN := Lib.hid (UnpackIs.no cd.out (fun x => g x.1))
    clear g
    go_wp2_with (refine wpList_load_mid rfl _ (.tmp 4) rfl (w.heap.size + 1) 0 rfl (desigC 0 0 0 0 0) _ p2.out.row Tryd.underlying23 rfl info5d ?_)
    refine (TC.out _).mono ?_
    rintro e w9 ⟨rfl, hb⟩
    have p9 := p2.out.call hb
    clear TC hb
    go_wp2_with (refine wpList_store_mid rfl _ (.tmp 2) (.tmp 86) rfl w.heap.size 0 _ rfl rfl ?_ info5d ?_ ?_; exact p9.res; simp [Value.oneCell'])
    exact bodyPost_ret (ret_cell_tmp Tryd.results23 _ _ w.heap.size (desigC 0 0 0 0 0) _ rfl (World.rangeAt_setCells_same _ _ _ _ p9.res) Tryd.underlying23 rfl info5d) rfl ⟨zeroG, 12, rfl, FN.out, below_setCells _ (Nat.le_refl _) _ _ _ p9.below⟩
theorem runpack_any (s : ByteArray) (w : World) (hs : s.size ≤ 40) : Calls Tryd.prog 23 #[.string s] w (UnpackPost s w) := by
  by_cases h5 : s.size = 5
  · by_cases h0 : ((s[0]'(by omega)).toNat : Int) = 126
    · exact runpack_tilde s w h5 h0
    · exact runpack_low s w h5 h0
  · by_cases h7 : s.size = 7
    · exact runpack_seven s w h7
    · exact runpack_none s w hs h5 h7
end Dw
end Go.Proofs.YtdjndoafnoidbaaDoor
