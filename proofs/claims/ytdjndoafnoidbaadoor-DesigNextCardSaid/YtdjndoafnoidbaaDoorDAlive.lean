/-
  The walks of packs, refused and alive of the law's package.
-/
import Derived.Test.YtdjndoafnoidbaaDoorDTAny
import Derived.Test.YtdjndoafnoidbaaDoorDHalf
namespace Go.Proofs.YtdjndoafnoidbaaDoor
namespace Dw
open Go.RowKit Dp Lw

theorem okG_u8 {d : Dg} (g : okG d) : 0 ≤ d.h ∧ d.h < 256 ∧ 0 ≤ d.s ∧ d.s < 256 := by
  unfold okG okD halfP secP at g
  omega
set_option maxRecDepth 100000 in
set_option maxHeartbeats 8000000 in
theorem packs_any (d : Dg) (p q : ByteArray) (w : World) (hT : Tb w) (g : okG d) (hp : textG d = p.data.toList) (hq : packG d = q.data.toList) (zp : p.size ≤ 40) (zq : q.size ≤ 40) :
    Calls Tryd.prog 29 #[.string p, .string q] w fun e w' => e = .returned (.bool true) ∧ Below w.heap.size w w' := by
  obtain ⟨h0, h1, s0, s1⟩ := okG_u8 g
  have IP := Lib.hid (ParseIs.yes g hp)
  have IU := Lib.hid (UnpackIs.yes g hq)
  obtain ⟨n, y, u, z, c⟩ := d
  have C3 := fun w' ht => Pack_ok n y u z c w' ht h0 h1 s0 s1 g
  have C1 := fun w' ht => Text_ok n y u z c w' ht h0 h1 s0 s1 g
  unfold PackOk at C3
  unfold TextOk at C1
  rw [hq] at C3
  rw [hp] at C1
  obtain ⟨P, eP⟩ : ∃ P, p.data.toList = P := ⟨_, rfl⟩
  obtain ⟨Q, eQ⟩ : ∃ Q, q.data.toList = Q := ⟨_, rfl⟩
  have bp : (P == p.toList) = true := by rw [Lib.toList_data, eP]; simp
  have bq : (Q == q.toList) = true := by rw [Lib.toList_data, eQ]; simp
  rw [eQ] at C3
  rw [eP] at C1
  have C1 := Lib.hid C1
  have C3 := Lib.hid C3
  have HT := Lib.hid hT
  clear g hp hq hT eP eQ h0 h1 s0 s1
  go_enter Tryd.func29, Tryd.ntmps29
  go_wp2_with fail
  refine (parse_any p _ HT.out zp).mono ?_
  rintro e w1 ⟨⟨n1, y1, u1, z1, c1⟩, k1, rfl, i1, hb⟩
  obtain ⟨ed, rfl⟩ := i1.uniq IP.out
  obtain ⟨rfl, rfl, rfl, rfl, rfl⟩ := Dg.mk.inj ed
  have x1 := Bx.new w1 (desigC n1 y1 u1 z1 c1) 23
  have b1 := hb.alloc hb.size (.cells (desigC n1 y1 u1 z1 c1).toArray 23)
  have t1 := HT.out.below b1
  clear i1 ed IP hb
  go_wp2_with (first | (refine wpList_load_mid rfl _ (.tmp 5) rfl w1.heap.size 0 rfl (desigC n1 y1 u1 z1 c1) _ x1.row Tryd.underlying23 rfl info5d ?_) | (refine wpList_store_new rfl _ (.tmp 5) (.tmp 16) rfl _ _ rfl rfl info5d rfl ?_ ?_; simp [Value.oneCell']))
  refine (C3.out _ t1).mono ?_
  rintro e w2 ⟨rfl, hb⟩
  replace x1 := x1.call hb
  have b2 := below_then b1 hb
  have t2 := t1.below hb
  clear b1 t1 hb
  go_wp2_with fail
  refine (unpack_any q _ t2 zq).mono ?_
  rintro e w3 ⟨⟨n2, y2, u2, z2, c2⟩, k2, rfl, i2, hb⟩
  obtain ⟨ed, rfl⟩ := i2.uniq IU.out
  obtain ⟨rfl, rfl, rfl, rfl, rfl⟩ := Dg.mk.inj ed
  replace x1 := (x1.call hb).alloc (.cells (desigC n2 y2 u2 z2 c2).toArray 23)
  have x2 := Bx.new w3 (desigC n2 y2 u2 z2 c2) 23
  have b3 := (below_then b2 hb).alloc (below_then b2 hb).size (.cells (desigC n2 y2 u2 z2 c2).toArray 23)
  have t3 := HT.out.below b3
  clear i2 ed IU hb b2 t2
  go_wp2_with (first | (refine wpList_load_mid rfl _ (.tmp 9) rfl w3.heap.size 0 rfl (desigC n2 y2 u2 z2 c2) _ x2.row Tryd.underlying23 rfl info5d ?_) | (refine wpList_store_new rfl _ (.tmp 9) (.tmp 26) rfl _ _ rfl rfl info5d rfl ?_ ?_; simp [Value.oneCell']))
  refine (C1.out _ t3).mono ?_
  rintro e w4 ⟨rfl, hb⟩
  replace x1 := x1.call hb
  replace x2 := x2.call hb
  have b4 := below_then b3 hb
  clear b3 t3 hb
  have q0 := x1.row 0 _ rfl
  have q1 := x1.row 1 _ rfl
  have q2 := x1.row 2 _ rfl
  have q3 := x1.row 3 _ rfl
  have q4 := x1.row 4 _ rfl
  have r0 := x2.row 0 _ rfl
  have r1 := x2.row 1 _ rfl
  have r2 := x2.row 2 _ rfl
  have r3 := x2.row 3 _ rfl
  have r4 := x2.row 4 _ rfl
  simp only [Nat.zero_add] at q0 q1 q2 q3 q4 r0 r1 r2 r3 r4
  clear x1 x2
  go_wp2_with fail
  go_ret
  exact ⟨rfl, b4⟩
set_option maxRecDepth 100000 in
set_option maxHeartbeats 8000000 in
theorem refused_any (p : ByteArray) (w : World) (hT : Tb w) (hp : ∀ e, okG e → textG e ≠ p.data.toList) (hq : ∀ e, okG e → packG e ≠ p.data.toList) (zp : p.size ≤ 40) :
    Calls Tryd.prog 28 #[.string p] w fun e w' => e = .returned (.bool true) ∧ Below w.heap.size w w' := by
  have IP := Lib.hid (show ParseIs p.data.toList zeroG 12 from Or.inr ⟨hp, rfl, rfl⟩)
  have IU := Lib.hid (show UnpackIs p.data.toList zeroG 12 from Or.inr ⟨hq, rfl, rfl⟩)
  have HT := Lib.hid hT
  clear hp hq hT
  go_enter Tryd.func28, Tryd.ntmps28
  go_wp2_with fail
  refine (parse_any p _ HT.out zp).mono ?_
  rintro e w1 ⟨⟨n1, y1, u1, z1, c1⟩, k1, rfl, i1, hb⟩
  obtain ⟨ed, rfl⟩ := i1.uniq IP.out
  obtain ⟨rfl, rfl, rfl, rfl, rfl⟩ := Dg.mk.inj ed
  have x1 := Bx.new w1 (desigC 0 0 0 0 0) 23
  have b1 := hb.alloc hb.size (.cells (desigC 0 0 0 0 0).toArray 23)
  have t1 := HT.out.below b1
  clear i1 ed IP hb
  go_wp2_with (refine wpList_store_new rfl _ (.tmp 3) (.tmp 10) rfl _ _ rfl rfl info5d rfl ?_ ?_; simp [Value.oneCell'])
  refine (unpack_any p _ t1 zp).mono ?_
  rintro e w3 ⟨⟨n2, y2, u2, z2, c2⟩, k2, rfl, i2, hb⟩
  obtain ⟨ed, rfl⟩ := i2.uniq IU.out
  obtain ⟨rfl, rfl, rfl, rfl, rfl⟩ := Dg.mk.inj ed
  replace x1 := x1.call hb
  have lt1 := x1.lt
  have b3 := (below_then b1 hb).alloc (below_then b1 hb).size (.cells (desigC 0 0 0 0 0).toArray 23)
  clear i2 ed IU hb b1 t1
  have q0 := x1.row 0 _ rfl
  have q1 := x1.row 1 _ rfl
  have q2 := x1.row 2 _ rfl
  have q3 := x1.row 3 _ rfl
  have q4 := x1.row 4 _ rfl
  simp only [Nat.zero_add] at q0 q1 q2 q3 q4
  clear x1
  go_wp2_with (refine wpList_store_new rfl _ (.tmp 5) (.tmp 15) rfl _ _ rfl rfl info5d rfl ?_ ?_; simp [Value.oneCell'])
  go_ret
  exact ⟨rfl, b3⟩
/-- A numbered designation, and a provisional one. -/
abbrev numG (n : Int) : Dg := ⟨n, 0, 0, 0, 0⟩
abbrev proG (y h s c : Int) : Dg := ⟨0, y, h, s, c⟩
instance (d : Dg) : Decidable (okG d) := by unfold okG; infer_instance
instance : DecidableEq Dg := fun a b => decidable_of_iff (a.n = b.n ∧ a.y = b.y ∧ a.h = b.h ∧ a.s = b.s ∧ a.c = b.c) (by
  obtain ⟨a1, a2, a3, a4, a5⟩ := a
  obtain ⟨b1, b2, b3, b4, b5⟩ := b
  simp)
theorem half_alive : HalfIs 11 16 87 0 := Or.inl ⟨by omega, by omega, by omega, by omega, by decide, rfl⟩
/-- The digits of a number below 10^8, without recursion on its size. -/
theorem dd_step (u : Nat) (h : ¬ u < 10) : Lib.decDigits u = Lib.decDigits (u / 10) ++ [UInt8.ofNat (48 + u % 10)] := by rw [Lib.decDigits, dif_neg h]
set_option maxRecDepth 100000 in
set_option maxHeartbeats 8000000 in
theorem alive_any (w : World) (hT : Tb w) : Calls Tryd.prog 26 #[] w fun e w' => e = .returned (.bool true) ∧ Below w.heap.size w w' := by
  have HT := Lib.hid hT
  clear hT
  go_enter Tryd.func26, Tryd.ntmps26
  go_wp2_with fail
  refine (Half_any 11 16 _ HT.out.ord).mono ?_
  rintro e w0 ⟨v, k, rfl, hv, rfl⟩
  obtain ⟨rfl, rfl⟩ := hv.uniq half_alive
  clear hv
  go_wp2_with fail
  refine (packs_any (numG 100345) ⟨#[49, 48, 48, 51, 52, 53]⟩ ⟨#[65, 48, 51, 52, 53]⟩ _ HT.out (by decide) (by decide +kernel) (by decide +kernel) (by decide) (by decide)).mono ?_
  rintro e w1 ⟨rfl, hb⟩
  have B1 := hb
  have T1 := HT.out.below B1
  clear hb
  go_wp2_with fail
  refine (packs_any (numG 360017) ⟨#[51, 54, 48, 48, 49, 55]⟩ ⟨#[97, 48, 48, 49, 55]⟩ _ T1 (by decide) (by decide +kernel) (by decide +kernel) (by decide) (by decide)).mono ?_
  rintro e w2 ⟨rfl, hb⟩
  have B2 := below_then B1 hb
  clear B1 T1
  have T2 := HT.out.below B2
  clear hb
  go_wp2_with fail
  refine (packs_any (numG 620000) ⟨#[54, 50, 48, 48, 48, 48]⟩ ⟨#[126, 48, 48, 48, 48]⟩ _ T2 (by decide) (by decide +kernel) (by decide +kernel) (by decide) (by decide)).mono ?_
  rintro e w3 ⟨rfl, hb⟩
  have B3 := below_then B2 hb
  clear B2 T2
  have T3 := HT.out.below B3
  clear hb
  go_wp2_with fail
  refine (packs_any (numG 15396335) ⟨#[49, 53, 51, 57, 54, 51, 51, 53]⟩ ⟨#[126, 122, 122, 122, 122]⟩ _ T3 (by decide) (by decide +kernel) (by decide +kernel) (by decide) (by decide)).mono ?_
  rintro e w4 ⟨rfl, hb⟩
  have B4 := below_then B3 hb
  clear B3 T3
  have T4 := HT.out.below B4
  clear hb
  go_wp2_with fail
  refine (packs_any (proG 1995 88 65 0) ⟨#[49, 57, 57, 53, 32, 88, 65]⟩ ⟨#[74, 57, 53, 88, 48, 48, 65]⟩ _ T4 (by decide) (by decide +kernel) (by decide +kernel) (by decide) (by decide)).mono ?_
  rintro e w5 ⟨rfl, hb⟩
  have B5 := below_then B4 hb
  clear B4 T4
  have T5 := HT.out.below B5
  clear hb
  go_wp2_with fail
  refine (packs_any (proG 1995 88 76 1) ⟨#[49, 57, 57, 53, 32, 88, 76, 49]⟩ ⟨#[74, 57, 53, 88, 48, 49, 76]⟩ _ T5 (by decide) (by decide +kernel) (by decide +kernel) (by decide) (by decide)).mono ?_
  rintro e w6 ⟨rfl, hb⟩
  have B6 := below_then B5 hb
  clear B5 T5
  have T6 := HT.out.below B6
  clear hb
  go_wp2_with fail
  refine (packs_any (proG 2007 84 65 418) ⟨#[50, 48, 48, 55, 32, 84, 65, 52, 49, 56]⟩ ⟨#[75, 48, 55, 84, 102, 56, 65]⟩ _ T6 (by decide) (by decide +kernel) (by decide +kernel) (by decide) (by decide)).mono ?_
  rintro e w7 ⟨rfl, hb⟩
  have B7 := below_then B6 hb
  clear B6 T6
  have T7 := HT.out.below B7
  clear hb
  go_wp2_with fail
  go_ret
  exact ⟨rfl, B7⟩
end Dw
end Go.Proofs.YtdjndoafnoidbaaDoor
