/-
  Parse of the reference.
-/
import Derived.Test.YtdjndoafnoidbaaDoorDParse2
import Derived.StillTailTactics
namespace Go.Proofs.YtdjndoafnoidbaaDoor
namespace Dw
open Go.RowKit Dp Lw

theorem PS.of_new (w : World) (d : Dg) : PS w (desigC d.n d.y d.h d.s d.c) ((w.alloc (.cells (desigC 0 0 0 0 0).toArray 23)).alloc (.cells (desigC d.n d.y d.h d.s d.c).toArray 23)) := by
  have e : (w.alloc (.cells (desigC 0 0 0 0 0).toArray 23)).heap.size = w.heap.size + 1 := by simp
  have r := rangeAt_new (w.alloc (.cells (desigC 0 0 0 0 0).toArray 23)) (desigC d.n d.y d.h d.s d.c) 23
  have t := there_new (w.alloc (.cells (desigC 0 0 0 0 0).toArray 23)) (desigC d.n d.y d.h d.s d.c).toArray 23 5 (by simp)
  rw [e] at r t
  exact ⟨there_below (there_new w _ _ 5 (by simp)) ((Below.refl _ _).alloc (Nat.le_refl _) _) (by simp), r, t, by simp, ((Below.refl _ _).alloc (Nat.le_refl _) _).alloc (by simp) _⟩
theorem PS.drew {w : World} {cs : List Value} {a : World} (h : PS w cs a) : PS w cs a.drew := h.call ((Below.refl _ a).drew)
theorem there_setCells {b n c : Nat} : ∀ (vs : List Value) (o : Nat) (w : World), w.there b 0 n → (w.setCells c o vs).there b 0 n
  | [], _, _, h => h
  | v :: r, o, w, h => by
    rw [World.setCells]
    exact there_setCells r (o + 1) _ (there_set h _ _)
theorem size_setCells (b : Nat) : ∀ (vs : List Value) (o : Nat) (w : World), (w.setCells b o vs).heap.size = w.heap.size
  | [], _, _ => rfl
  | v :: r, o, w => by
    rw [World.setCells, size_setCells b r]
    simp
theorem PS.all {w : World} {cs : List Value} {a : World} (h : PS w cs a) (n y u s c : Int) : PS w (desigC n y u s c) (a.setCells (w.heap.size + 1) 0 (desigC n y u s c)) :=
  ⟨there_setCells _ _ _ h.res, World.rangeAt_setCells_same _ _ _ _ h.there, there_setCells _ _ _ h.there, by rw [size_setCells]; exact h.lt, below_setCells _ (Nat.le_succ _) _ _ _ h.below⟩
theorem candT_num {l : List UInt8} (h : 0 ≤ valR l) : CandT l ⟨valR l, 0, 0, 0, 0⟩ := by
  have := candT_is l
  unfold candT at this
  rwa [if_pos h] at this
theorem candT_none {l : List UInt8} (h : ¬ 0 ≤ valR l) (h7 : l.length < 7) : CandT l zeroG := by
  have := candT_is l
  unfold candT at this
  rwa [if_neg h, if_pos h7] at this
theorem candT_prov (s : ByteArray) (h : ¬ 0 ≤ valR s.data.toList) (h7 : ¬ s.size < 7) (i5 : 5 < s.size) (i6 : 6 < s.size) (x u : Int) (ex : (s[5].toNat : Int) = x) (eu : (s[6].toNat : Int) = u) (c : Int) (hc : c = if 7 < s.size then valR (s.extract 7 s.size).data.toList else 0) :
    CandT s.data.toList ⟨0, valR (s.extract 0 4).data.toList, x, u, c⟩ := by
  subst ex eu
  have := candT_is s.data.toList
  have hl := size_data s
  unfold candT at this
  rw [if_neg h, if_neg (by omega), getD_at s 5 (by omega), getD_at s 6 (by omega), ← ext_take, ← hl, ← ext_drop, ← hc] at this
  exact this
set_option maxRecDepth 100000 in
set_option maxHeartbeats 8000000 in
theorem rparse_any (s : ByteArray) (w : World) (hs : s.size ≤ 40) :
    Calls Tryd.prog 21 #[.string s] w (ParsePost s w) := by
  have V0 := Lib.hid (value_any s (w.alloc (.cells (desigC 0 0 0 0 0).toArray 23)) (by omega))
  have vb := valR_bd s.data.toList
  obtain ⟨v, ev⟩ : ∃ v, valR s.data.toList = v := ⟨_, rfl⟩
  rw [ev] at V0 vb
  have p0 := Lib.hid (show PS w (desigC v 0 0 0 0) ((w.alloc (.cells (desigC 0 0 0 0 0).toArray 23)).alloc (.cells (desigC v 0 0 0 0).toArray 23)) from PS.of_new w ⟨v, 0, 0, 0, 0⟩)
  have p0z := Lib.hid (PS.new w)
  by_cases hv : 0 ≤ v
  · have hv' : ¬ v < 0 := by omega
    have cd := Lib.hid (ev ▸ candT_num (ev ▸ hv) : CandT s.data.toList ⟨v, 0, 0, 0, 0⟩)
    clear ev p0z
    go_enter Tryd.func21, Tryd.ntmps21
    go_wp2_with fail
    refine V0.out.mono ?_
    rintro e w1 ⟨rfl, rfl⟩
    clear V0
    by_cases g : okD v 0 0 0 0
    · obtain ⟨T, eT⟩ : ∃ T, textG ⟨v, 0, 0, 0, 0⟩ = T := ⟨_, rfl⟩
      have TC := fun w' => rText_ok v 0 0 0 0 w' (by omega) (by omega) (by omega) (by omega) g
      unfold TextOk at TC
      simp only [eT] at TC
      have TC := Lib.hid TC
      by_cases ht : T = s.data.toList
      · have bt : (T == s.toList) = true := by rw [Lib.toList_data]; simp [ht]
        have FN := Lib.hid (ParseIs.yes (l := s.data.toList) (d := ⟨v, 0, 0, 0, 0⟩) g (eT.trans ht))
        clear eT ht
        go_wp2_with (refine wpList_store_new_at rfl _ (.tmp 4) (.tmp 9) rfl _ _ (w.heap.size + 1) (by simp) rfl rfl info5d rfl ?_ ?_; simp [Value.oneCell'])
        refine (TC.out _).mono ?_
        rintro e w9 ⟨rfl, hb⟩
        have p9 := p0.out.call hb
        clear TC hb
        go_wp2_with (first | (refine wpList_load_mid rfl _ (.tmp 4) rfl (w.heap.size + 1) 0 rfl (desigC v 0 0 0 0) _ p9.row Tryd.underlying23 rfl info5d ?_) | (refine wpList_store_mid rfl _ (.tmp 2) (.tmp 45) rfl w.heap.size 0 _ rfl rfl ?_ info5d ?_ ?_; exact p9.res; simp [Value.oneCell']))
        exact bodyPost_ret (ret_cell_tmp Tryd.results21 _ _ w.heap.size (desigC v 0 0 0 0) _ rfl (World.rangeAt_setCells_same _ _ _ _ p9.res) Tryd.underlying23 rfl info5d) rfl ⟨⟨v, 0, 0, 0, 0⟩, 0, rfl, FN.out, below_setCells _ (Nat.le_refl _) _ _ _ p9.below⟩
      · have bt : (T == s.toList) = false := by rw [Lib.toList_data]; simp [ht]
        have FN := Lib.hid (ParseIs.no cd.out (fun x => ht (eT.symm.trans x.2)))
        clear eT ht
        go_wp2_with (refine wpList_store_new_at rfl _ (.tmp 4) (.tmp 9) rfl _ _ (w.heap.size + 1) (by simp) rfl rfl info5d rfl ?_ ?_; simp [Value.oneCell'])
        refine (TC.out _).mono ?_
        rintro e w9 ⟨rfl, hb⟩
        have p9 := p0.out.call hb
        clear TC hb
        go_wp2_with (refine wpList_store_mid rfl _ (.tmp 2) (.tmp 44) rfl w.heap.size 0 _ rfl rfl ?_ info5d ?_ ?_; exact p9.res; simp [Value.oneCell'])
        exact bodyPost_ret (ret_cell_tmp Tryd.results21 _ _ w.heap.size (desigC 0 0 0 0 0) _ rfl (World.rangeAt_setCells_same _ _ _ _ p9.res) Tryd.underlying23 rfl info5d) rfl ⟨zeroG, 12, rfl, FN.out, below_setCells _ (Nat.le_refl _) _ _ _ p9.below⟩
    · have TC := Lib.hid (fun w' => rText_no v 0 0 0 0 w' g)
      have FN := Lib.hid (ParseIs.no cd.out (fun x => g x.1))
      clear g
      go_wp2_with (refine wpList_store_new_at rfl _ (.tmp 4) (.tmp 9) rfl _ _ (w.heap.size + 1) (by simp) rfl rfl info5d rfl ?_ ?_; simp [Value.oneCell'])
      refine (TC.out _).mono ?_
      rintro e w9 ⟨rfl, hb⟩
      have p9 := p0.out.call hb
      clear TC hb
      go_wp2_with (refine wpList_store_mid rfl _ (.tmp 2) (.tmp 44) rfl w.heap.size 0 _ rfl rfl ?_ info5d ?_ ?_; exact p9.res; simp [Value.oneCell'])
      exact bodyPost_ret (ret_cell_tmp Tryd.results21 _ _ w.heap.size (desigC 0 0 0 0 0) _ rfl (World.rangeAt_setCells_same _ _ _ _ p9.res) Tryd.underlying23 rfl info5d) rfl ⟨zeroG, 12, rfl, FN.out, below_setCells _ (Nat.le_refl _) _ _ _ p9.below⟩
  · have hv' : v < 0 := by omega
    by_cases h7 : s.size < 7
    · have h7' : (s.size : Int) < 7 := by omega
      have FN := Lib.hid (ParseIs.no (candT_none (ev ▸ hv) (by have := size_data s; omega)) (fun x => (show ¬ okD 0 0 0 0 0 by unfold okD; omega) x.1))
      have hB := Lib.hid p0.out.below
      have th := p0.out.res
      clear ev p0z
      go_enter Tryd.func21, Tryd.ntmps21
      go_wp2_with fail
      refine V0.out.mono ?_
      rintro e w1 ⟨rfl, rfl⟩
      clear V0
      go_wp2_with (first | (refine wpList_store_mid rfl _ (.tmp 2) (.tmp 16) rfl w.heap.size 0 _ rfl rfl ?_ info5d ?_ ?_; exact th; simp [Value.oneCell']) | (refine wpList_store_new_at rfl _ (.tmp 4) (.tmp 9) rfl _ _ (w.heap.size + 1) (by simp) rfl rfl info5d rfl ?_ ?_; simp [Value.oneCell']))
      exact bodyPost_ret (ret_cell_tmp Tryd.results21 _ _ w.heap.size (desigC 0 0 0 0 0) _ rfl (World.rangeAt_setCells_same _ _ _ _ th) Tryd.underlying23 rfl info5d) rfl ⟨zeroG, 12, rfl, FN.out, below_setCells _ (Nat.le_refl _) _ _ _ hB.out⟩
    · have h7' : ¬ (s.size : Int) < 7 := by omega
      have i5 : 5 < s.size := by omega
      have i6 : 6 < s.size := by omega
      have i4' : (4 : Int) ≤ (s.size : Int) := by omega
      have i5' : (5 : Int) < (s.size : Int) := by omega
      have i6' : (6 : Int) < (s.size : Int) := by omega
      have x5 := byte_bd s[5]
      have x6 := byte_bd s[6]
      obtain ⟨h, eh⟩ : ∃ h, (s[5].toNat : Int) = h := ⟨_, rfl⟩
      obtain ⟨u, eu⟩ : ∃ u, (s[6].toNat : Int) = u := ⟨_, rfl⟩
      have CP := Lib.hid (candT_prov s (ev ▸ hv) h7 i5 i6 h u eh eu)
      rw [eh] at x5
      rw [eu] at x6
      have yb := valR_bd (s.extract 0 4).data.toList
      have VY := fun w' => value_any (s.extract 0 4) w' (by have := ext_size s 0 4; omega)
      obtain ⟨y, ey⟩ : ∃ y, valR (s.extract 0 4).data.toList = y := ⟨_, rfl⟩
      rw [ey] at CP yb
      simp only [ey] at VY
      have VY := Lib.hid VY
      have cb := valR_bd (s.extract 7 s.size).data.toList
      have VC := fun w' => value_any (s.extract 7 s.size) w' (by have := ext_size s 7 s.size; omega)
      obtain ⟨c, ec⟩ : ∃ c, valR (s.extract 7 s.size).data.toList = c := ⟨_, rfl⟩
      rw [ec] at CP cb
      simp only [ec] at VC
      have VC := Lib.hid VC
      clear ev ey ec p0z
      go_enter Tryd.func21, Tryd.ntmps21
      go_wp2_with fail
      refine V0.out.mono ?_
      rintro e w1 ⟨rfl, rfl⟩
      clear V0
      go_wp2_with (refine wpList_store_new_at rfl _ (.tmp 4) (.tmp 9) rfl _ _ (w.heap.size + 1) (by simp) rfl rfl info5d rfl ?_ ?_; simp [Value.oneCell'])
      have p1 : PS w (desigC v 0 0 0 0) ((w.alloc (.cells #[.int .i64 0, .int .i64 0, .int .u8 0, .int .u8 0, .int .i64 0] 23)).alloc (.cells #[.int .i64 v, .int .i64 0, .int .u8 0, .int .u8 0, .int .i64 0] 23)) := p0.out
      clear p0
      generalize (w.alloc (.cells #[.int .i64 0, .int .i64 0, .int .u8 0, .int .u8 0, .int .i64 0] 23)).alloc (.cells #[.int .i64 v, .int .i64 0, .int .u8 0, .int .u8 0, .int .i64 0] 23) = W at *
      have p1 := p1.drew
      go_still_tail 8, (by kernel_rfl)
      repeat still_step
      still_call ((VY.out _).mono fun _ _ x => ⟨x.1, x.2.symm⟩)
      repeat still_step
      try refine wpStill_nil ?_
      change wpList _ _ _ _ _ W.drew
      have PA := p1.all 0 y h u 0
      refine wpList_store_mid rfl _ (.tmp 4) (.tmp 24) rfl (w.heap.size + 1) 0 _ rfl rfl p1.there info5d (by simp [Value.oneCell']) ?_
      change wpList _ _ _ _ _ (W.drew.setCells (w.heap.size + 1) 0 (desigC 0 y h u 0))
      generalize W.drew.setCells (w.heap.size + 1) 0 (desigC 0 y h u 0) = W2 at *
      clear p1
      by_cases h8 : 7 < s.size
      · have h8' : (7 : Int) < (s.size : Int) := by omega
        have h8n : (7 : Int) ≤ (s.size : Int) := by omega
        have c4 := PA.cell 4 _ rfl
        have f4 := PA.fr 4 (by omega)
        have PB := Lib.hid (PA.set 4 (.int .i64 c) (by simp) (cs' := desigC 0 y h u c) rfl)
        have cd := Lib.hid (CP.out c (if_pos h8).symm)
        clear PA CP VY
        go_wp2_with fail
        refine (VC.out _).mono ?_
        rintro e w3 ⟨rfl, rfl⟩
        clear VC
        by_cases g : okD 0 y h u c
        · obtain ⟨T, eT⟩ : ∃ T, textG ⟨0, y, h, u, c⟩ = T := ⟨_, rfl⟩
          have TC := fun w' => rText_ok 0 y h u c w' x5.1 x5.2 x6.1 x6.2 g
          unfold TextOk at TC
          simp only [eT] at TC
          have TC := Lib.hid TC
          by_cases ht : T = s.data.toList
          · have bt : (T == s.toList) = true := by rw [Lib.toList_data]; simp [ht]
            have FN := Lib.hid (ParseIs.yes (l := s.data.toList) (d := ⟨0, y, h, u, c⟩) g (eT.trans ht))
            clear eT ht
            go_wp2_with (refine wpList_load_mid rfl _ (.tmp 4) rfl (w.heap.size + 1) 0 rfl (desigC 0 y h u c) _ PB.out.row Tryd.underlying23 rfl info5d ?_)
            refine (TC.out _).mono ?_
            rintro e w9 ⟨rfl, hb⟩
            have p9 := PB.out.call hb
            clear TC hb
            go_wp2_with (first | (refine wpList_load_mid rfl _ (.tmp 4) rfl (w.heap.size + 1) 0 rfl (desigC 0 y h u c) _ p9.row Tryd.underlying23 rfl info5d ?_) | (refine wpList_store_mid rfl _ (.tmp 2) (.tmp 45) rfl w.heap.size 0 _ rfl rfl ?_ info5d ?_ ?_; exact p9.res; simp [Value.oneCell']))
            exact bodyPost_ret (ret_cell_tmp Tryd.results21 _ _ w.heap.size (desigC 0 y h u c) _ rfl (World.rangeAt_setCells_same _ _ _ _ p9.res) Tryd.underlying23 rfl info5d) rfl ⟨⟨0, y, h, u, c⟩, 0, rfl, FN.out, below_setCells _ (Nat.le_refl _) _ _ _ p9.below⟩
          · have bt : (T == s.toList) = false := by rw [Lib.toList_data]; simp [ht]
            have FN := Lib.hid (ParseIs.no cd.out (fun x => ht (eT.symm.trans x.2)))
            clear eT ht
            go_wp2_with (refine wpList_load_mid rfl _ (.tmp 4) rfl (w.heap.size + 1) 0 rfl (desigC 0 y h u c) _ PB.out.row Tryd.underlying23 rfl info5d ?_)
            refine (TC.out _).mono ?_
            rintro e w9 ⟨rfl, hb⟩
            have p9 := PB.out.call hb
            clear TC hb
            go_wp2_with (refine wpList_store_mid rfl _ (.tmp 2) (.tmp 44) rfl w.heap.size 0 _ rfl rfl ?_ info5d ?_ ?_; exact p9.res; simp [Value.oneCell'])
            exact bodyPost_ret (ret_cell_tmp Tryd.results21 _ _ w.heap.size (desigC 0 0 0 0 0) _ rfl (World.rangeAt_setCells_same _ _ _ _ p9.res) Tryd.underlying23 rfl info5d) rfl ⟨zeroG, 12, rfl, FN.out, below_setCells _ (Nat.le_refl _) _ _ _ p9.below⟩
        · have TC := Lib.hid (fun w' => rText_no 0 y h u c w' g)
          have FN := Lib.hid (ParseIs.no cd.out (fun x => g x.1))
          clear g
          go_wp2_with (refine wpList_load_mid rfl _ (.tmp 4) rfl (w.heap.size + 1) 0 rfl (desigC 0 y h u c) _ PB.out.row Tryd.underlying23 rfl info5d ?_)
          refine (TC.out _).mono ?_
          rintro e w9 ⟨rfl, hb⟩
          have p9 := PB.out.call hb
          clear TC hb
          go_wp2_with (refine wpList_store_mid rfl _ (.tmp 2) (.tmp 44) rfl w.heap.size 0 _ rfl rfl ?_ info5d ?_ ?_; exact p9.res; simp [Value.oneCell'])
          exact bodyPost_ret (ret_cell_tmp Tryd.results21 _ _ w.heap.size (desigC 0 0 0 0 0) _ rfl (World.rangeAt_setCells_same _ _ _ _ p9.res) Tryd.underlying23 rfl info5d) rfl ⟨zeroG, 12, rfl, FN.out, below_setCells _ (Nat.le_refl _) _ _ _ p9.below⟩
      · have h8' : ¬ (7 : Int) < (s.size : Int) := by omega
        have PA := Lib.hid PA
        have cd := Lib.hid (CP.out 0 (if_neg h8).symm)
        clear CP VY VC
        by_cases g : okD 0 y h u 0
        · obtain ⟨T, eT⟩ : ∃ T, textG ⟨0, y, h, u, 0⟩ = T := ⟨_, rfl⟩
          have TC := fun w' => rText_ok 0 y h u 0 w' x5.1 x5.2 x6.1 x6.2 g
          unfold TextOk at TC
          simp only [eT] at TC
          have TC := Lib.hid TC
          by_cases ht : T = s.data.toList
          · have bt : (T == s.toList) = true := by rw [Lib.toList_data]; simp [ht]
            have FN := Lib.hid (ParseIs.yes (l := s.data.toList) (d := ⟨0, y, h, u, 0⟩) g (eT.trans ht))
            clear eT ht
            go_wp2_with (refine wpList_load_mid rfl _ (.tmp 4) rfl (w.heap.size + 1) 0 rfl (desigC 0 y h u 0) _ PA.out.row Tryd.underlying23 rfl info5d ?_)
            refine (TC.out _).mono ?_
            rintro e w9 ⟨rfl, hb⟩
            have p9 := PA.out.call hb
            clear TC hb
            go_wp2_with (first | (refine wpList_load_mid rfl _ (.tmp 4) rfl (w.heap.size + 1) 0 rfl (desigC 0 y h u 0) _ p9.row Tryd.underlying23 rfl info5d ?_) | (refine wpList_store_mid rfl _ (.tmp 2) (.tmp 45) rfl w.heap.size 0 _ rfl rfl ?_ info5d ?_ ?_; exact p9.res; simp [Value.oneCell']))
            exact bodyPost_ret (ret_cell_tmp Tryd.results21 _ _ w.heap.size (desigC 0 y h u 0) _ rfl (World.rangeAt_setCells_same _ _ _ _ p9.res) Tryd.underlying23 rfl info5d) rfl ⟨⟨0, y, h, u, 0⟩, 0, rfl, FN.out, below_setCells _ (Nat.le_refl _) _ _ _ p9.below⟩
          · have bt : (T == s.toList) = false := by rw [Lib.toList_data]; simp [ht]
            have FN := Lib.hid (ParseIs.no cd.out (fun x => ht (eT.symm.trans x.2)))
            clear eT ht
            go_wp2_with (refine wpList_load_mid rfl _ (.tmp 4) rfl (w.heap.size + 1) 0 rfl (desigC 0 y h u 0) _ PA.out.row Tryd.underlying23 rfl info5d ?_)
            refine (TC.out _).mono ?_
            rintro e w9 ⟨rfl, hb⟩
            have p9 := PA.out.call hb
            clear TC hb
            go_wp2_with (refine wpList_store_mid rfl _ (.tmp 2) (.tmp 44) rfl w.heap.size 0 _ rfl rfl ?_ info5d ?_ ?_; exact p9.res; simp [Value.oneCell'])
            exact bodyPost_ret (ret_cell_tmp Tryd.results21 _ _ w.heap.size (desigC 0 0 0 0 0) _ rfl (World.rangeAt_setCells_same _ _ _ _ p9.res) Tryd.underlying23 rfl info5d) rfl ⟨zeroG, 12, rfl, FN.out, below_setCells _ (Nat.le_refl _) _ _ _ p9.below⟩
        · have TC := Lib.hid (fun w' => rText_no 0 y h u 0 w' g)
          have FN := Lib.hid (ParseIs.no cd.out (fun x => g x.1))
          clear g
          go_wp2_with (refine wpList_load_mid rfl _ (.tmp 4) rfl (w.heap.size + 1) 0 rfl (desigC 0 y h u 0) _ PA.out.row Tryd.underlying23 rfl info5d ?_)
          refine (TC.out _).mono ?_
          rintro e w9 ⟨rfl, hb⟩
          have p9 := PA.out.call hb
          clear TC hb
          go_wp2_with (refine wpList_store_mid rfl _ (.tmp 2) (.tmp 44) rfl w.heap.size 0 _ rfl rfl ?_ info5d ?_ ?_; exact p9.res; simp [Value.oneCell'])
          exact bodyPost_ret (ret_cell_tmp Tryd.results21 _ _ w.heap.size (desigC 0 0 0 0 0) _ rfl (World.rangeAt_setCells_same _ _ _ _ p9.res) Tryd.underlying23 rfl info5d) rfl ⟨zeroG, 12, rfl, FN.out, below_setCells _ (Nat.le_refl _) _ _ _ p9.below⟩
