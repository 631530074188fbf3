/-
  Parse of package desig.
-/
import Derived.Test.YtdjndoafnoidbaaDoorDParse
namespace Go.Proofs.YtdjndoafnoidbaaDoor
namespace Dw
open Go.RowKit Dp Lw

theorem ext_take (s : ByteArray) (k : Nat) : (s.extract 0 k).data.toList = s.data.toList.take k := by simp
theorem ext_drop (s : ByteArray) (k : Nat) : (s.extract k s.size).data.toList = s.data.toList.drop k := by
  rw [ByteArray.data_extract, Array.toList_extract, List.extract_eq_take_drop]
  exact List.take_of_length_le (by simp)
theorem ext_size (s : ByteArray) (a b : Nat) : (s.extract a b).size ≤ s.size := by
  rw [ByteArray.size_extract]
  omega
theorem getD_at (s : ByteArray) (k : Nat) (h : k < s.size) : ((s.data.toList.getD k 0).toNat : Int) = (s[k].toNat : Int) := by
  have : s.data.toList[k]? = some s[k] := by
    rw [List.getElem?_eq_getElem (by simpa using h)]
    rfl
  rw [List.getD_eq_getElem?_getD, this]
  rfl
theorem cand_at (s : ByteArray) {n y c : Int} {o1 o2 : Bool} (hw : WholeIs 10 s.data.toList n false) (h1 : WholeIs 10 (s.extract 0 4).data.toList y o1) (h2 : WholeIs 10 (s.extract 7 s.size).data.toList c o2) (i5 : 5 < s.size) (i6 : 6 < s.size) :
    CandT s.data.toList ⟨0, y, (s[5].toNat : Int), (s[6].toNat : Int), c⟩ := by
  rw [ext_take] at h1
  rw [ext_drop] at h2
  have h := prog_prov hw h1 h2
  rwa [getD_at s 5 i5, getD_at s 6 i6] at h
set_option maxRecDepth 100000 in
set_option maxHeartbeats 8000000 in
theorem parse_any (s : ByteArray) (w : World) (hT : Tb w) (hs : s.size ≤ 40) :
    Calls Tryd.prog 20 #[.string s] w (ParsePost s w) := by
  have p0 := PS.new w
  have W0 := Lib.hid (whole_10 s ((w.alloc (.cells (desigC 0 0 0 0 0).toArray 23)).alloc (.cells (desigC 0 0 0 0 0).toArray 23)) (by omega))
  have HT := Lib.hid hT
  clear hT
  go_enter Tryd.func20, Tryd.ntmps20
  go_wp2_with fail
  refine W0.out.mono ?_
  rintro e w1 ⟨n, ok, rfl, hw, hb⟩
  have p1 := p0.call hb
  clear p0 hb W0
  cases ok with
  | true =>
    have c0 := p1.cell 0 _ rfl
    have f0 := p1.fr 0 (by omega)
    have p2 := Lib.hid (p1.set 0 (.int .i64 n) (by simp) (cs' := desigC n 0 0 0 0) rfl)
    have cd := Lib.hid (prog_num hw)
    clear hw p1
    by_cases g : okD n 0 0 0 0
    · obtain ⟨T, eT⟩ : ∃ T, textG ⟨n, 0, 0, 0, 0⟩ = T := ⟨_, rfl⟩
      have TC := Text_ok n 0 0 0 0 _ (HT.out.below p2.out.below) (by omega) (by omega) (by omega) (by omega) g
      unfold TextOk at TC
      rw [eT] at TC
      have TC := Lib.hid TC
      by_cases ht : T = s.data.toList
      · have bt : (T == s.toList) = true := by rw [Lib.toList_data]; simp [ht]
        have FN := Lib.hid (ParseIs.yes (l := s.data.toList) (d := ⟨n, 0, 0, 0, 0⟩) g (eT.trans ht))
        clear eT ht
        go_wp2_with (refine wpList_load_mid rfl _ (.tmp 4) rfl (w.heap.size + 1) 0 rfl (desigC n 0 0 0 0) _ p2.out.row Tryd.underlying23 rfl info5d ?_)
        refine TC.out.mono ?_
        rintro e w9 ⟨rfl, hb⟩
        have p9 := p2.out.call hb
        clear TC hb
        go_wp2_with (first | (refine wpList_load_mid rfl _ (.tmp 4) rfl (w.heap.size + 1) 0 rfl (desigC n 0 0 0 0) _ p9.row Tryd.underlying23 rfl info5d ?_) | (refine wpList_store_mid rfl _ (.tmp 2) (.tmp 53) rfl w.heap.size 0 _ rfl rfl ?_ info5d ?_ ?_; exact p9.res; simp [Value.oneCell']))
        exact bodyPost_ret (ret_cell_tmp Tryd.results20 _ _ w.heap.size (desigC n 0 0 0 0) _ rfl (World.rangeAt_setCells_same _ _ _ _ p9.res) Tryd.underlying23 rfl info5d) rfl ⟨⟨n, 0, 0, 0, 0⟩, 0, rfl, FN.out, below_setCells _ (Nat.le_refl _) _ _ _ p9.below⟩
      · have bt : (T == s.toList) = false := by rw [Lib.toList_data]; simp [ht]
        have FN := Lib.hid (ParseIs.no cd.out (fun x => ht (eT.symm.trans x.2)))
        clear eT ht
        go_wp2_with (refine wpList_load_mid rfl _ (.tmp 4) rfl (w.heap.size + 1) 0 rfl (desigC n 0 0 0 0) _ p2.out.row Tryd.underlying23 rfl info5d ?_)
        refine TC.out.mono ?_
        rintro e w9 ⟨rfl, hb⟩
        have p9 := p2.out.call hb
        clear TC hb
        go_wp2_with (refine wpList_store_mid rfl _ (.tmp 2) (.tmp 52) rfl w.heap.size 0 _ rfl rfl ?_ info5d ?_ ?_; exact p9.res; simp [Value.oneCell'])
        exact bodyPost_ret (ret_cell_tmp Tryd.results20 _ _ w.heap.size (desigC 0 0 0 0 0) _ rfl (World.rangeAt_setCells_same _ _ _ _ p9.res) Tryd.underlying23 rfl info5d) rfl ⟨zeroG, 12, rfl, FN.out, below_setCells _ (Nat.le_refl _) _ _ _ p9.below⟩
    · have TC := Lib.hid (text_no n 0 0 0 0 _ (HT.out.below p2.out.below) (by omega) (by omega) (by omega) (by omega) g)
      have FN := Lib.hid (ParseIs.no cd.out (fun x => g x.1))
      clear g
      go_wp2_with (refine wpList_load_mid rfl _ (.tmp 4) rfl (w.heap.size + 1) 0 rfl (desigC n 0 0 0 0) _ p2.out.row Tryd.underlying23 rfl info5d ?_)
      refine TC.out.mono ?_
      rintro e w9 ⟨rfl, hb⟩
      have p9 := p2.out.call hb
      clear TC hb
      go_wp2_with (refine wpList_store_mid rfl _ (.tmp 2) (.tmp 52) rfl w.heap.size 0 _ rfl rfl ?_ info5d ?_ ?_; exact p9.res; simp [Value.oneCell'])
      exact bodyPost_ret (ret_cell_tmp Tryd.results20 _ _ w.heap.size (desigC 0 0 0 0 0) _ rfl (World.rangeAt_setCells_same _ _ _ _ p9.res) Tryd.underlying23 rfl info5d) rfl ⟨zeroG, 12, rfl, FN.out, below_setCells _ (Nat.le_refl _) _ _ _ p9.below⟩
  | false =>
    by_cases h7 : 7 ≤ s.size
    · have h7' : (7 : Int) ≤ (s.size : Int) := by omega
      have WA := Lib.hid (whole_10 (s.extract 0 4) w1 (by have := ext_size s 0 4; omega))
      have HW := Lib.hid hw
      clear hw
      go_wp2_with fail
      refine WA.out.mono ?_
      rintro e w2 ⟨y, o1, rfl, hw1, hb⟩
      have p2 := p1.call hb
      clear p1 hb WA
      have HW1 := Lib.hid hw1
      clear hw1
      have c1 := p2.cell 1 _ rfl
      have f1 := p2.fr 1 (by omega)
      have p3 := p2.set 1 (.int .i64 y) (by simp) (cs' := desigC 0 y 0 0 0) rfl
      clear p2
      have i5 : 5 < s.size := by omega
      have i6 : 6 < s.size := by omega
      have i5' : (5 : Int) < (s.size : Int) := by omega
      have i6' : (6 : Int) < (s.size : Int) := by omega
      have x5 := byte_bd s[5]
      have x6 := byte_bd s[6]
      have c2 := p3.cell 2 _ rfl
      have f2 := p3.fr 2 (by omega)
      have c3 := p3.cell 3 _ rfl
      have f3 := p3.fr 3 (by omega)
      have PA := ((p3.set 2 (.int .u8 (s[5].toNat : Int)) (by simp) (cs' := desigC 0 y (s[5].toNat : Int) 0 0) rfl).set 3 (.int .u8 (s[6].toNat : Int)) (by simp) (cs' := desigC 0 y (s[5].toNat : Int) (s[6].toNat : Int) 0) rfl).call ((Below.refl _ _).drew)
      have PB := ((p3.set 3 (.int .u8 (s[6].toNat : Int)) (by simp) (cs' := desigC 0 y 0 (s[6].toNat : Int) 0) rfl).set 2 (.int .u8 (s[5].toNat : Int)) (by simp) (cs' := desigC 0 y (s[5].toNat : Int) (s[6].toNat : Int) 0) rfl).call ((Below.refl _ _).drew)
      have PA := Lib.hid PA
      have PB := Lib.hid PB
      clear p3
      go_wp2_with fail
      go_region
      go_wp2_with fail
      refine (whole_10 (s.extract 7 s.size) _ (by have := ext_size s 7 s.size; omega)).mono ?_
      rintro e w3 ⟨c, o2, rfl, hw2, hb⟩
      have p4 := (by first | exact PA.out | exact PB.out : PS w (desigC 0 y (s[5].toNat : Int) (s[6].toNat : Int) 0) _).call hb
      clear PA PB hb c1 c2 c3 f1 f2 f3
      have cd := cand_at s HW.out HW1.out hw2 i5 i6
      have cd := Lib.hid cd
      clear HW HW1 hw2
      have c4 := p4.cell 4 _ rfl
      have f4 := p4.fr 4 (by omega)
      have p2 := Lib.hid (p4.set 4 (.int .i64 c) (by simp) (cs' := desigC 0 y (s[5].toNat : Int) (s[6].toNat : Int) c) rfl)
      clear p4
      obtain ⟨h, eh⟩ : ∃ h, (s[5].toNat : Int) = h := ⟨_, rfl⟩
      obtain ⟨u, eu⟩ : ∃ u, (s[6].toNat : Int) = u := ⟨_, rfl⟩
      rw [eh] at x5
      rw [eu] at x6
      replace cd := by
        have := cd.out
        rw [eh, eu] at this
        exact Lib.hid this
      replace p2 := by
        have := p2.out
        rw [eh, eu] at this
        exact Lib.hid this
      by_cases g : okD 0 y h u c
      · obtain ⟨T, eT⟩ : ∃ T, textG ⟨0, y, h, u, c⟩ = T := ⟨_, rfl⟩
        have TC := Text_ok 0 y h u c _ (HT.out.below p2.out.below) x5.1 x5.2 x6.1 x6.2 g
        unfold TextOk at TC
        rw [eT] at TC
        have TC := Lib.hid TC
        by_cases ht : T = s.data.toList
        · have bt : (T == s.toList) = true := by rw [Lib.toList_data]; simp [ht]
          have FN := Lib.hid (ParseIs.yes (l := s.data.toList) (d := ⟨0, y, h, u, c⟩) g (eT.trans ht))
          clear eT ht
          go_wp2_with (refine wpList_load_mid rfl _ (.tmp 4) rfl (w.heap.size + 1) 0 rfl (desigC 0 y h u c) _ p2.out.row Tryd.underlying23 rfl info5d ?_)
          refine TC.out.mono ?_
          rintro e w9 ⟨rfl, hb⟩
          have p9 := p2.out.call hb
          clear TC hb
          go_wp2_with (first | (refine wpList_load_mid rfl _ (.tmp 4) rfl (w.heap.size + 1) 0 rfl (desigC 0 y h u c) _ p9.row Tryd.underlying23 rfl info5d ?_) | (refine wpList_store_mid rfl _ (.tmp 2) (.tmp 53) rfl w.heap.size 0 _ rfl rfl ?_ info5d ?_ ?_; exact p9.res; simp [Value.oneCell']))
          exact bodyPost_ret (ret_cell_tmp Tryd.results20 _ _ w.heap.size (desigC 0 y h u c) _ rfl (World.rangeAt_setCells_same _ _ _ _ p9.res) Tryd.underlying23 rfl info5d) rfl ⟨⟨0, y, h, u, c⟩, 0, rfl, FN.out, below_setCells _ (Nat.le_refl _) _ _ _ p9.below⟩
        · have bt : (T == s.toList) = false := by rw [Lib.toList_data]; simp [ht]
          have FN := Lib.hid (ParseIs.no cd.out (fun x => ht (eT.symm.trans x.2)))
          clear eT ht
          go_wp2_with (refine wpList_load_mid rfl _ (.tmp 4) rfl (w.heap.size + 1) 0 rfl (desigC 0 y h u c) _ p2.out.row Tryd.underlying23 rfl info5d ?_)
          refine TC.out.mono ?_
          rintro e w9 ⟨rfl, hb⟩
          have p9 := p2.out.call hb
          clear TC hb
          go_wp2_with (refine wpList_store_mid rfl _ (.tmp 2) (.tmp 52) rfl w.heap.size 0 _ rfl rfl ?_ info5d ?_ ?_; exact p9.res; simp [Value.oneCell'])
          exact bodyPost_ret (ret_cell_tmp Tryd.results20 _ _ w.heap.size (desigC 0 0 0 0 0) _ rfl (World.rangeAt_setCells_same _ _ _ _ p9.res) Tryd.underlying23 rfl info5d) rfl ⟨zeroG, 12, rfl, FN.out, below_setCells _ (Nat.le_refl _) _ _ _ p9.below⟩
      · have TC := Lib.hid (text_no 0 y h u c _ (HT.out.below p2.out.below) x5.1 x5.2 x6.1 x6.2 g)
        have FN := Lib.hid (ParseIs.no cd.out (fun x => g x.1))
        clear g
        go_wp2_with (refine wpList_load_mid rfl _ (.tmp 4) rfl (w.heap.size + 1) 0 rfl (desigC 0 y h u c) _ p2.out.row Tryd.underlying23 rfl info5d ?_)
        refine TC.out.mono ?_
        rintro e w9 ⟨rfl, hb⟩
        have p9 := p2.out.call hb
        clear TC hb
        go_wp2_with (refine wpList_store_mid rfl _ (.tmp 2) (.tmp 52) rfl w.heap.size 0 _ rfl rfl ?_ info5d ?_ ?_; exact p9.res; simp [Value.oneCell'])
        exact bodyPost_ret (ret_cell_tmp Tryd.results20 _ _ w.heap.size (desigC 0 0 0 0 0) _ rfl (World.rangeAt_setCells_same _ _ _ _ p9.res) Tryd.underlying23 rfl info5d) rfl ⟨zeroG, 12, rfl, FN.out, below_setCells _ (Nat.le_refl _) _ _ _ p9.below⟩
    · have h7' : ¬ (7 : Int) ≤ (s.size : Int) := by omega
      have cd := Lib.hid (prog_none hw (by have := size_data s; omega))
      have p2 := Lib.hid p1
      clear hw p1
      have g : ¬ okD 0 0 0 0 0 := by unfold okD; omega
      · have TC := Lib.hid (text_no 0 0 0 0 0 _ (HT.out.below p2.out.below) (by omega) (by omega) (by omega) (by omega) g)
        have FN := Lib.hid (ParseIs.no cd.out (fun x => g x.1))
        clear g
        go_wp2_with (refine wpList_load_mid rfl _ (.tmp 4) rfl (w.heap.size + 1) 0 rfl (desigC 0 0 0 0 0) _ p2.out.row Tryd.underlying23 rfl info5d ?_)
        refine TC.out.mono ?_
        rintro e w9 ⟨rfl, hb⟩
        have p9 := p2.out.call hb
        clear TC hb
        go_wp2_with (refine wpList_store_mid rfl _ (.tmp 2) (.tmp 52) rfl w.heap.size 0 _ rfl rfl ?_ info5d ?_ ?_; exact p9.res; simp [Value.oneCell'])
        exact bodyPost_ret (ret_cell_tmp Tryd.results20 _ _ w.heap.size (desigC 0 0 0 0 0) _ rfl (World.rangeAt_setCells_same _ _ _ _ p9.res) Tryd.underlying23 rfl info5d) rfl ⟨zeroG, 12, rfl, FN.out, below_setCells _ (Nat.le_refl _) _ _ _ p9.below⟩
end Dw
end Go.Proofs.YtdjndoafnoidbaaDoor
