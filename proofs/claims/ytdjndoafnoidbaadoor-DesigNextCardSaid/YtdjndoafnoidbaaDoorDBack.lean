/-
  The walk of DesigBack.
-/
import Derived.Test.YtdjndoafnoidbaaDoorDAlive
import Derived.Deep.DeepCutAuto
namespace Go.Proofs.YtdjndoafnoidbaaDoor
namespace Dw
open Go.RowKit Dp Lw

theorem text_len {d : Dg} (g : okG d) : (textG d).length ≤ 10 := by
  rcases text_shape g with ⟨_, _, _, _, _, _, _, _, h⟩ | ⟨_, _, _, a, b, c, e, r, h4, _, _, _, h, _⟩
  · omega
  · rw [h4]
    simp only [List.length_cons]
    omega
theorem pack_len {d : Dg} (g : okG d) : (packG d).length = 5 ∨ (packG d).length = 7 := by
  rcases pack_shape g with ⟨_, _, _, _, a, b, c, e, h, _⟩ | ⟨_, _, _, _, x, a, b, c, e, h, _⟩ | ⟨_, _, _, x, a, b, f, e, h, _⟩
  · left; rw [h]; rfl
  · left; rw [h]; rfl
  · right; rw [h]; rfl
/-- What a walk over a boxed designation keeps. -/
structure BS (w : World) (cs : List Value) (w' : World) : Prop where
  x0 : Bx w.heap.size cs w'
  tb : Tb w'
  below : Below w.heap.size w w'
theorem BS.call {w : World} {cs : List Value} {a b : World} (h : BS w cs a) (hb : Below a.heap.size a b) : BS w cs b := ⟨h.x0.call hb, h.tb.below hb, below_then h.below hb⟩
theorem BS.alloc {w : World} {cs : List Value} {a : World} (h : BS w cs a) (o : Obj) : BS w cs (a.alloc o) := h.call ((Below.refl _ a).alloc (Nat.le_refl _) o)
theorem BS.box {w : World} (hT : Tb w) (cs : List Value) (t : TypeId) : BS w cs (w.alloc (.cells cs.toArray t)) := ⟨Bx.new w cs t, hT.below ((Below.refl _ w).alloc (Nat.le_refl _) _), (Below.refl _ w).alloc (Nat.le_refl _) _⟩
theorem BS.cell {w : World} {cs : List Value} {a : World} (h : BS w cs a) (j : Nat) (v : Value) (hv : cs[j]? = some v) : a.cell? ⟨w.heap.size, j, none⟩ = some v := by
  have := h.x0.row j v hv
  rwa [Nat.zero_add] at this
theorem Bx.cell {b : Nat} {cs : List Value} {a : World} (h : Bx b cs a) (j : Nat) (v : Value) (hv : cs[j]? = some v) : a.cell? ⟨b, j, none⟩ = some v := by
  have := h.row j v hv
  rwa [Nat.zero_add] at this
set_option maxRecDepth 100000 in
set_option maxHeartbeats 16000000 in
theorem back_any (n y u z c : Int) (p q : ByteArray) (w : World) (hT : Tb w) (h0 : 0 ≤ u) (h1 : u < 256) (s0 : 0 ≤ z) (s1 : z < 256) (zp : p.size ≤ 40) (zq : q.size ≤ 40) :
    Calls Tryd.prog 5 #[desigV n y u z c, .string p, .string q] w fun e w' => e = .returned (.bool true) ∧ Below w.heap.size w w' := by
  have S0 := BS.box hT (desigC n y u z c) 23
  have C6 := Lib.hid (fun w' => rcheck_any n y u z c w')
  have z1 : ¬ (40 : Int) < (p.size : Int) := by omega
  have z2 : ¬ (40 : Int) < (q.size : Int) := by omega
  clear hT
  go_enter Tryd.func5, Tryd.ntmps5
  go_wp2_with fail
  refine (alive_any _ S0.tb).mono ?_
  rintro e w1 ⟨rfl, hb⟩
  have S1 := S0.call hb
  clear S0 hb
  go_wp2_with (refine wpList_load_mid rfl _ (.tmp 3) rfl w.heap.size 0 rfl (desigC n y u z c) _ S1.x0.row Tryd.underlying23 rfl info5d ?_)
  refine (C6.out _).mono ?_
  rintro e w2 ⟨rfl, hb⟩
  have S2 := S1.call hb
  clear S1 hb C6
  go_upto_if 40 with (fail)
  go_cut [] (fun wx => BS w (desigC n y u z c) wx)
  case first =>
    by_cases g : okD n y u z c
    · have E0 : (errC n y u z c == 0) = true := by rw [errC_ok g]; rfl
      have C1 := fun w' ht => Text_ok n y u z c w' ht h0 h1 s0 s1 g
      have C3 := fun w' ht => Pack_ok n y u z c w' ht h0 h1 s0 s1 g
      unfold TextOk at C1
      unfold PackOk at C3
      have tl := text_len (d := ⟨n, y, u, z, c⟩) g
      have kl := pack_len (d := ⟨n, y, u, z, c⟩) g
      obtain ⟨T, eT⟩ : ∃ T, textG ⟨n, y, u, z, c⟩ = T := ⟨_, rfl⟩
      obtain ⟨K, eK⟩ : ∃ K, packG ⟨n, y, u, z, c⟩ = K := ⟨_, rfl⟩
      rw [eT] at C1 tl
      rw [eK] at C3 kl
      have IP := Lib.hid (show ParseIs (⟨T.toArray⟩ : ByteArray).data.toList ⟨n, y, u, z, c⟩ 0 from ParseIs.yes (d := ⟨n, y, u, z, c⟩) g (by rw [eT]))
      have IU := Lib.hid (show UnpackIs (⟨K.toArray⟩ : ByteArray).data.toList ⟨n, y, u, z, c⟩ 0 from UnpackIs.yes (d := ⟨n, y, u, z, c⟩) g (by rw [eK]))
      have C1 := Lib.hid C1
      have C3 := Lib.hid C3
      have TL := Lib.hid (show (⟨T.toArray⟩ : ByteArray).size ≤ 40 by rw [size_mk]; omega)
      have KL := Lib.hid (show (⟨K.toArray⟩ : ByteArray).size ≤ 40 by rw [size_mk]; omega)
      have kl' : (((K.length : Int) != 5) && ((K.length : Int) != 7)) = false := by
        rcases kl with e | e <;> simp [e]
      have HK := Lib.hid kl
      clear g eT eK h0 h1 s0 s1 tl kl
      go_wp2_with (refine wpList_load_mid rfl _ (.tmp 3) rfl w.heap.size 0 rfl (desigC n y u z c) _ S2.x0.row Tryd.underlying23 rfl info5d ?_)
      refine (C1.out _ S2.tb).mono ?_
      rintro e w3 ⟨rfl, hb⟩
      have S3 := S2.call hb
      clear S2 hb C1
      go_wp2_with fail
      refine (parse_any ⟨T.toArray⟩ _ S3.tb TL.out).mono ?_
      rintro e w4 ⟨⟨n1, y1, u1, z1, c1⟩, k1, rfl, i1, hb⟩
      obtain ⟨ed, rfl⟩ := i1.uniq IP.out
      obtain ⟨rfl, rfl, rfl, rfl, rfl⟩ := Dg.mk.inj ed
      have S4 := (S3.call hb).alloc (.cells (desigC n1 y1 u1 z1 c1).toArray 23)
      have X1 := Bx.new w4 (desigC n1 y1 u1 z1 c1) 23
      clear i1 ed IP hb S3
      go_wp2_with (first | (refine wpList_load_mid rfl _ (.tmp 3) rfl w.heap.size 0 rfl (desigC n1 y1 u1 z1 c1) _ S4.x0.row Tryd.underlying23 rfl info5d ?_) | (refine wpList_store_new rfl _ (.tmp 10) (.tmp 49) rfl _ _ rfl rfl info5d rfl ?_ ?_; simp [Value.oneCell']))
      refine (C3.out _ S4.tb).mono ?_
      rintro e w5 ⟨rfl, hb⟩
      have S5 := S4.call hb
      replace X1 := X1.call hb
      clear S4 hb C3
      go_wp2_with fail
      refine (unpack_any ⟨K.toArray⟩ _ S5.tb KL.out).mono ?_
      rintro e w6 ⟨⟨n2, y2, u2, z2, c2⟩, k2, rfl, i2, hb⟩
      obtain ⟨ed, rfl⟩ := i2.uniq IU.out
      obtain ⟨rfl, rfl, rfl, rfl, rfl⟩ := Dg.mk.inj ed
      have S6 := S5.call hb
      replace X1 := X1.call hb
      have S7 := Lib.hid (S6.alloc (.cells (desigC n2 y2 u2 z2 c2).toArray 23))
      clear i2 ed IU hb S5
      have lt0 := S6.x0.lt
      have lt1 := X1.lt
      have q0 := S6.cell 0 _ rfl
      have q1 := S6.cell 1 _ rfl
      have q2 := S6.cell 2 _ rfl
      have q3 := S6.cell 3 _ rfl
      have q4 := S6.cell 4 _ rfl
      have r0 := X1.cell 0 _ rfl
      have r1 := X1.cell 1 _ rfl
      have r2 := X1.cell 2 _ rfl
      have r3 := X1.cell 3 _ rfl
      have r4 := X1.cell 4 _ rfl
      clear S6 X1
      rcases HK.out with e5 | e7
      · go_wp2_with (refine wpList_store_new rfl _ (.tmp 14) (.tmp 59) rfl _ _ rfl rfl info5d rfl ?_ ?_; simp [Value.oneCell'])
        go_meet
        exact S7.out
      · go_wp2_with (refine wpList_store_new rfl _ (.tmp 14) (.tmp 59) rfl _ _ rfl rfl info5d rfl ?_ ?_; simp [Value.oneCell'])
        go_meet
        exact S7.out
    · have E0 : (errC n y u z c == 0) = false := by rw [errC_no g]; rfl
      go_wp2_with fail
      go_meet
      exact S2
  case rest =>
    have S3 := hcut
    clear hcut S2 h0 h1 s0 s1
    go_wp2_with fail
    refine (parse_any p _ S3.tb zp).mono ?_
    rintro e wa5 ⟨⟨n5, y5, u5, m5, c5⟩, k5, rfl, i5, hb⟩
    have S5 := (S3.call hb).alloc (.cells (desigC n5 y5 u5 m5 c5).toArray 23)
    have X5 := Bx.new wa5 (desigC n5 y5 u5 m5 c5) 23
    have hk5 : k5 = 0 ∨ k5 = 12 := by
      rcases i5 with x | x
      · exact Or.inl x.2.2
      · exact Or.inr x.2.2
    have I5 := Lib.hid i5
    clear hb S3 i5
    go_upto_if 101 with (refine wpList_store_new rfl _ (.tmp 16) (.tmp 98) rfl _ _ rfl rfl info5d rfl ?_ ?_; simp [Value.oneCell'])
    go_cut [] (fun wx => BS w (desigC n y u z c) wx)
    case first =>
      rcases I5.out with ⟨g, ht, rfl⟩ | ⟨_, _, rfl⟩
      · obtain ⟨h0, h1, s0, s1⟩ := okG_u8 g
        have C1 := fun w' ht => Text_ok n5 y5 u5 m5 c5 w' ht h0 h1 s0 s1 g
        unfold TextOk at C1
        rw [ht] at C1
        obtain ⟨P, eP⟩ : ∃ P, p.data.toList = P := ⟨_, rfl⟩
        have bp : (P == p.toList) = true := by rw [Lib.toList_data, eP]; simp
        rw [eP] at C1
        have C1 := Lib.hid C1
        have C2 := fun w' ht => check_any n5 y5 u5 m5 c5 w' ht h0 h1 s0 s1
        rw [errC_ok g] at C2
        have C2 := Lib.hid C2
        clear g ht eP h0 h1 s0 s1 I5 hk5
        go_wp2_with (refine wpList_load_mid rfl _ (.tmp 16) rfl wa5.heap.size 0 rfl (desigC n5 y5 u5 m5 c5) _ X5.row Tryd.underlying23 rfl info5d ?_)
        refine (C1.out _ S5.tb).mono ?_
        rintro e wb ⟨rfl, hb⟩
        have S9 := S5.call hb
        have X9 := X5.call hb
        have r0 := X9.cell 0 _ rfl
        have r1 := X9.cell 1 _ rfl
        have r2 := X9.cell 2 _ rfl
        have r3 := X9.cell 3 _ rfl
        have r4 := X9.cell 4 _ rfl
        clear S5 X5 X9 hb C1
        go_wp2_with fail
        refine (C2.out _ S9.tb.ord).mono ?_
        rintro e wc ⟨rfl, hb⟩
        have S10 := S9.call hb
        clear S9 hb C2
        go_wp2_with fail
        go_meet
        exact S10
      · go_wp2_with fail
        go_meet
        exact S5
    case rest =>
      have R5 := hcut
      clear hcut S5 X5 I5
      go_wp2_with fail
      refine (unpack_any q _ R5.tb zq).mono ?_
      rintro e wa7 ⟨⟨n7, y7, u7, m7, c7⟩, k7, rfl, i7, hb⟩
      have S7 := (R5.call hb).alloc (.cells (desigC n7 y7 u7 m7 c7).toArray 23)
      have X7 := Bx.new wa7 (desigC n7 y7 u7 m7 c7) 23
      have hk7 : k7 = 0 ∨ k7 = 12 := by
        rcases i7 with x | x
        · exact Or.inl x.2.2
        · exact Or.inr x.2.2
      have I7 := Lib.hid i7
      clear hb R5 i7
      go_upto_if 125 with (refine wpList_store_new rfl _ (.tmp 20) (.tmp 122) rfl _ _ rfl rfl info5d rfl ?_ ?_; simp [Value.oneCell'])
      go_cut [] (fun wx => BS w (desigC n y u z c) wx)
      case first =>
        rcases I7.out with ⟨g, ht, rfl⟩ | ⟨_, _, rfl⟩
        · obtain ⟨h0, h1, s0, s1⟩ := okG_u8 g
          have C1 := fun w' ht => Pack_ok n7 y7 u7 m7 c7 w' ht h0 h1 s0 s1 g
          unfold PackOk at C1
          rw [ht] at C1
          obtain ⟨P, eP⟩ : ∃ P, q.data.toList = P := ⟨_, rfl⟩
          have bp : (P == q.toList) = true := by rw [Lib.toList_data, eP]; simp
          rw [eP] at C1
          have C1 := Lib.hid C1
          have C2 := fun w' ht => check_any n7 y7 u7 m7 c7 w' ht h0 h1 s0 s1
          rw [errC_ok g] at C2
          have C2 := Lib.hid C2
          clear g ht eP h0 h1 s0 s1 I7 hk7
          go_wp2_with (refine wpList_load_mid rfl _ (.tmp 20) rfl wa7.heap.size 0 rfl (desigC n7 y7 u7 m7 c7) _ X7.row Tryd.underlying23 rfl info5d ?_)
          refine (C1.out _ S7.tb).mono ?_
          rintro e wb ⟨rfl, hb⟩
          have S9 := S7.call hb
          have X9 := X7.call hb
          have r0 := X9.cell 0 _ rfl
          have r1 := X9.cell 1 _ rfl
          have r2 := X9.cell 2 _ rfl
          have r3 := X9.cell 3 _ rfl
          have r4 := X9.cell 4 _ rfl
          clear S7 X7 X9 hb C1
          go_wp2_with fail
          refine (C2.out _ S9.tb.ord).mono ?_
          rintro e wc ⟨rfl, hb⟩
          have S10 := S9.call hb
          clear S9 hb C2
          go_wp2_with fail
          go_meet
          exact S10
        · go_wp2_with fail
          go_meet
          exact S7
      case rest =>
        have R7 := hcut
        clear hcut S7 X7 I7
        rcases hk5 with rfl | rfl
        · rcases hk7 with rfl | rfl
          · go_wp2_with fail
            go_ret
            exact ⟨rfl, R7.below⟩
          · go_wp2_with fail
            go_ret
            exact ⟨rfl, R7.below⟩
        · rcases hk7 with rfl | rfl
          · go_wp2_with fail
            go_ret
            exact ⟨rfl, R7.below⟩
          · go_wp2_with fail
            go_ret
            exact ⟨rfl, R7.below⟩
end Dw
end Go.Proofs.YtdjndoafnoidbaaDoor
