/-
  Lemmas and walks, texts joined: MLess, MOrder.
-/
import Derived.Test.YtmgehfakcnmdnaaGreatDoorTb02
set_option linter.unusedSimpArgs false
set_option linter.unusedVariables false
/-
  The walk of less of the law's package: it compares dates field by field.
-/
namespace Go.Proofs.YtmgehfakcnmdnaaGreatDoor
namespace Wd
open Go.RowKit Lw Go.Proofs.YtmgehfakcnmdnaaGreatDoor.Mp Go.Proofs.YtmgehfakcnmdnaaGreatDoor.Mw Go.Proofs.YtmgehfakcnmdnaaGreatDoor.At Go.Proofs.YtmgehfakcnmdnaaGreatDoor.Ap

/-- The fields of a date. -/
def fl (y m d h i s u : Int) : List Int := [y, m, d, h, i, s, u]
theorem info_seven : (Tryz.prog.info? 93).map (·.size) = some 7 := by kernel_rfl
theorem lex_drop {X Y : List Int} {k : Nat} (h : k < X.length) (g : k < Y.length) : lexB (X.drop k) (Y.drop k) = if X.getD k 0 = Y.getD k 0 then lexB (X.drop (k + 1)) (Y.drop (k + 1)) else decide (X.getD k 0 < Y.getD k 0) := by
  rw [List.drop_eq_getElem_cons h, List.drop_eq_getElem_cons g]
  simp only [lexB, List.getD_eq_getElem?_getD, List.getElem?_eq_getElem h, List.getElem?_eq_getElem g, Option.getD_some]
/-- The k-th number of a list, as the walk sees it. -/
def atI (X : List Int) (k : Nat) : Int := X.getD k 0
theorem atI_cell {w : World} {b : Nat} {y m d h i s u : Int} (r : w.rangeAt b 0 (dateC y m d h i s u)) (k : Nat) (hk : k < 7) : w.cell? ⟨b, k, none⟩ = some (.int .i64 (atI (fl y m d h i s u) k)) := by
  have e : (dateC y m d h i s u)[k]? = some (.int .i64 (atI (fl y m d h i s u) k)) := by
    match k, hk with
    | 0, _ => rfl
    | 1, _ => rfl
    | 2, _ => rfl
    | 3, _ => rfl
    | 4, _ => rfl
    | 5, _ => rfl
    | 6, _ => rfl
  have := r k _ e
  rwa [Nat.zero_add] at this
structure LX (w0 : World) (y m d h i s u y' m' d' h' i' s' u' : Int) (w : World) : Prop where
  below : Below w0.heap.size w0 w
  size : w0.heap.size + 4 ≤ w.heap.size
  ra : w.rangeAt (w0.heap.size + 2) 0 (dateC y m d h i s u)
  rb : w.rangeAt (w0.heap.size + 3) 0 (dateC y' m' d' h' i' s' u')
theorem LX.drewN {w0 w : World} {y m d h i s u y' m' d' h' i' s' u' : Int} (X : LX w0 y m d h i s u y' m' d' h' i' s' u' w) (n : Nat) : LX w0 y m d h i s u y' m' d' h' i' s' u' (w.drewN n) := by
  have hb := drewN_below2 (Below.refl w.heap.size w) n
  have := X.size
  exact ⟨below_then X.below hb, by simpa using X.size, rangeAt_below X.ra hb (by omega), rangeAt_below X.rb hb (by omega)⟩
theorem LX.new (w : World) (y m d h i s u y' m' d' h' i' s' u' : Int) (A B : Obj) (ha : A = .cells (dateC y m d h i s u).toArray 93) (hb : B = .cells (dateC y' m' d' h' i' s' u').toArray 93) :
    LX w y m d h i s u y' m' d' h' i' s' u' ((((w.alloc (.cells (dateC y m d h i s u).toArray 39)).alloc (.cells (dateC y' m' d' h' i' s' u').toArray 39)).alloc A).alloc B) := by
  subst ha hb
  have b1 := (Below.refl w.heap.size w).alloc (Nat.le_refl _) (.cells (dateC y m d h i s u).toArray 39)
  have b2 := b1.alloc b1.size (.cells (dateC y' m' d' h' i' s' u').toArray 39)
  have b3 := b2.alloc b2.size (.cells (dateC y m d h i s u).toArray 93)
  have b4 := b3.alloc b3.size (.cells (dateC y' m' d' h' i' s' u').toArray 93)
  have r3 := rangeAt_new ((w.alloc (.cells (dateC y m d h i s u).toArray 39)).alloc (.cells (dateC y' m' d' h' i' s' u').toArray 39)) (dateC y m d h i s u) 93
  have r4 := rangeAt_new (((w.alloc (.cells (dateC y m d h i s u).toArray 39)).alloc (.cells (dateC y' m' d' h' i' s' u').toArray 39)).alloc (.cells (dateC y m d h i s u).toArray 93)) (dateC y' m' d' h' i' s' u') 93
  have r3' := rangeAt_below r3 ((Below.refl _ _).alloc (Nat.le_refl _) (.cells (dateC y' m' d' h' i' s' u').toArray 93)) (by simp)
  simp only [World.size_alloc] at r3' r4
  exact ⟨b4, by simp, r3', r4⟩
set_option maxRecDepth 100000 in
set_option maxHeartbeats 2000000 in
theorem less_any (y m d h i s u y' m' d' h' i' s' u' : Int) (w : World) :
    Calls Tryz.prog 24 #[dateV y m d h i s u, dateV y' m' d' h' i' s' u'] w fun e w' => e = .returned (.bool (lexB (fl y m d h i s u) (fl y' m' d' h' i' s' u'))) ∧ Below w.heap.size w w' := by
  have X0 := Lib.hid (LX.new w y m d h i s u y' m' d' h' i' s' u' _ _ rfl rfl)
  obtain ⟨X, eX⟩ : ∃ X, fl y m d h i s u = X := ⟨_, rfl⟩
  obtain ⟨Y, eY⟩ : ∃ Y, fl y' m' d' h' i' s' u' = Y := ⟨_, rfl⟩
  have lX : X.length = 7 := by rw [← eX]; rfl
  have lY : Y.length = 7 := by rw [← eY]; rfl
  have CX := Lib.hid (fun (w' : World) (b : Nat) (r : w'.rangeAt b 0 (dateC y m d h i s u)) k hk => eX ▸ atI_cell r k hk)
  have CY := Lib.hid (fun (w' : World) (b : Nat) (r : w'.rangeAt b 0 (dateC y' m' d' h' i' s' u')) k hk => eY ▸ atI_cell r k hk)
  rw [eX, eY]
  have LXx := Lib.hid lX
  have LYy := Lib.hid lY
  clear eX eY lX lY
  go_enter Tryz.func24, Tryz.ntmps24
  go_wp2_with (first | (refine wpList_store_new rfl _ (.tmp 5) (.tmp 22) rfl _ _ rfl rfl info_seven rfl ?_ ?_; simp [Value.oneCell']) | (refine wpList_store_new rfl _ (.tmp 6) (.tmp 37) rfl _ _ rfl rfl info_seven rfl ?_ ?_; simp [Value.oneCell']))
  go_loopw [7] (fun q wr => ∃ k : Nat, k ≤ 7 ∧ q = .int .i64 k ∧ lexB X Y = lexB (X.drop k) (Y.drop k) ∧ LX w y m d h i s u y' m' d' h' i' s' u' wr) (fun i _ => 7 - (intOf i).toNat)
  case atStart => exact ⟨0, by omega, rfl, by rw [List.drop_zero, List.drop_zero], X0.out⟩
  case round =>
    clear X0
    obtain ⟨k, hk, rfl, hd, hL⟩ := hrel
    by_cases hlt : k < 7
    · have ca := CX.out _ _ hL.ra k hlt
      have cb := CY.out _ _ hL.rb k hlt
      have ld := lex_drop (X := X) (Y := Y) (k := k) (by rw [LXx.out]; exact hlt) (by rw [LYy.out]; exact hlt)
      have k0 : (0 : Int) ≤ (k : Int) := by omega
      have k1 : (k : Int) < 7 := by omega
      have HL := Lib.hid hL
      change lexB (X.drop k) (Y.drop k) = if atI X k = atI Y k then lexB (X.drop (k + 1)) (Y.drop (k + 1)) else decide (atI X k < atI Y k) at ld
      generalize atI X k = x at *
      generalize atI Y k = z at *
      clear hL
      by_cases e : x = z
      · rw [if_pos e] at ld
        have Hd := Lib.hid (hd.trans ld)
        subst e
        clear hd ld
        go_wp2
        go_quiet (fail)
        go_wp2
        go_roundw
        case rel => exact ⟨k + 1, by omega, by go_num, Hd.out, HL.out.drewN _⟩
        case measure => simp [intOf]; omega
      · rw [if_neg e] at ld
        have Hd := Lib.hid (hd.trans ld)
        clear hd ld
        go_wp2
        go_quiet (fail)
        go_wp2
        go_quiet (fail)
        go_wp2
        refine bodyPost_ret (results_tmp rfl _ _ _) rfl ⟨?_, by first | exact (HL.out.drewN _).below | exact ((HL.out.drewN _).drewN _).below⟩
        rw [Hd.out]
        rfl
    · obtain rfl : k = 7 := by omega
      have HL := Lib.hid hL
      have Hd := Lib.hid (hd.trans (show lexB (X.drop 7) (Y.drop 7) = false by rw [List.drop_of_length_le (by rw [LXx.out]; omega)]; cases Y.drop 7 <;> rfl))
      clear hd hL
      go_wp2
      refine bodyPost_ret (results_tmp rfl _ _ _) rfl ⟨?_, HL.out.below⟩
      rw [Hd.out]
      rfl
end Wd
end Go.Proofs.YtmgehfakcnmdnaaGreatDoor
/-
  The walk of MomentOrder: later times have later dates, and months have their lengths, for any two times.
-/
namespace Go.Proofs.YtmgehfakcnmdnaaGreatDoor
namespace Wd
open Go.RowKit Lw Go.Proofs.YtmgehfakcnmdnaaGreatDoor.Mp Go.Proofs.YtmgehfakcnmdnaaGreatDoor.Mw Go.Proofs.YtmgehfakcnmdnaaGreatDoor.At Go.Proofs.YtmgehfakcnmdnaaGreatDoor.Ap

/-- The month of a time, its length, and the next month. -/
theorem month_pack {t y m d h i s u : Int} (a : ToIs t y m d h i s u 0) : ∃ A N1 : Int, FromIs y m 1 0 0 0 0 A 0 ∧ LeapIs y m N1 0 ∧ A ≤ t ∧ 10 ≤ N1 ∧ N1 ≤ 37 ∧ -1000000000000000 ≤ A ∧ A ≤ 4000000000000000 ∧ 1972 ≤ y ∧ y < 2100 ∧ 1 ≤ m ∧ m ≤ 12 ∧
    ((y = 2099 ∧ m = 12 ∧ FromIs 2100 1 1 0 0 0 0 0 2) ∨
      ∃ z k B N2 D : Int, ((z = y ∧ k = m + 1 ∧ m < 12) ∨ (z = y + 1 ∧ k = 1 ∧ m = 12)) ∧ z ≤ 2099 ∧ FromIs z k 1 0 0 0 0 B 0 ∧ LeapIs z k N2 0 ∧ t < B ∧ 28 ≤ D ∧ D ≤ 31 ∧ B = A + D * 86400000000 + (N2 - N1) * 1000000 ∧ 10 ≤ N2 ∧ N2 ≤ 37) := by
  obtain ⟨m1, m2, m3, m4, m5, m6⟩ := month_of a
  have fa := first_ok m1 m2 m3 m4
  have fb := fa.bd
  have lb := lps_bd (12 * y + m - 1)
  refine ⟨bgv (mo y m) y m, lps (12 * y + m - 1), fa, Or.inr (Or.inr ⟨m3, m4, m1, by omega, rfl, rfl⟩), m5, lb.1, lb.2, fb.1, fb.2, m1, m2, m3, m4, ?_⟩
  by_cases c : y = 2099 ∧ m = 12
  · exact Or.inl ⟨c.1, c.2, first_no (by omega)⟩
  · refine Or.inr ?_
    by_cases h : m < 12
    · obtain ⟨c1, c2, c3, c4⟩ := m6 y (m + 1) (Or.inl ⟨rfl, rfl, h⟩)
      have l2 := lps_bd (12 * y + (m + 1) - 1)
      exact ⟨y, m + 1, _, lps (12 * y + (m + 1) - 1), mo y (m + 1) - mo y m, Or.inl ⟨rfl, rfl, h⟩, by omega, first_ok m1 m2 (by omega) (by omega), Or.inr (Or.inr ⟨by omega, by omega, m1, by omega, rfl, rfl⟩), c1, by omega, by omega, c4, l2.1, l2.2⟩
    · obtain ⟨c1, c2, c3, c4⟩ := m6 (y + 1) 1 (Or.inr ⟨rfl, rfl, by omega⟩)
      have l2 := lps_bd (12 * (y + 1) + 1 - 1)
      exact ⟨y + 1, 1, _, lps (12 * (y + 1) + 1 - 1), mo (y + 1) 1 - mo y m, Or.inr ⟨rfl, rfl, by omega⟩, by omega, first_ok (by omega) (by omega) (by omega) (by omega), Or.inr (Or.inr ⟨by omega, by omega, by omega, by omega, rfl, rfl⟩), c1, by omega, by omega, c4, l2.1, l2.2⟩
theorem tab_order {W : World} (hL : laidMet Tryz.prog Rows.momentOrderRow.laid W) : At.Tab W :=
  Lib.tabIs_of_head (rest := []) (t := 180) (e := 65) (n := 20) At.gPow (by kernel_rfl) (by kernel_rfl) (by kernel_rfl) (by kernel_rfl) (by kernel_rfl) (laidMet_tail (laidMet_tail hL))
set_option maxRecDepth 100000 in
set_option maxHeartbeats 8000000 in
theorem law_order (t u : Int) (w : World) (hT : At.Tab w) (h0 : -9223372036854775808 ≤ t) (h1 : t ≤ 9223372036854775807) (g0 : -9223372036854775808 ≤ u) (g1 : u ≤ 9223372036854775807) :
    Calls Tryz.prog 6 #[.int .i64 t, .int .i64 u] w fun e w' => e = .returned (.bool true) ∧ Below w.heap.size w w' := by
  have C1 := Lib.hid (fun w' => toutc_any t w' h0 h1)
  have C2 := Lib.hid (fun w' => toutc_any u w' g0 g1)
  have HT := Lib.hid hT
  clear hT
  go_enter Tryz.func6, Tryz.ntmps6
  go_wp2_with fail
  refine (alive_any _ HT.out).mono ?_
  rintro e w1 ⟨rfl, hb⟩
  have B1 := Lib.hid hb
  clear hb HT
  go_wp2_with fail
  refine (C1.out _).mono ?_
  rintro e w2 ⟨y, m, d, h, i, s, v, c, rfl, p2, hb⟩
  have X2 := Lib.hid (DX.new w2 y m d h i s v)
  have B2 := Lib.hid (below_then B1.out hb)
  clear hb B1 C1
  go_wp2_with (refine wpList_store_new rfl _ (.tmp 6) (.tmp 25) rfl _ _ rfl rfl info7 rfl ?_ ?_; simp [Value.oneCell'])
  refine (C2.out _).mono ?_
  rintro e w3 ⟨y', m', d', h', i', s', v', c', rfl, p3, hb⟩
  have x3 := X2.out.call hb
  have X3 := Lib.hid (x3.call ((Below.refl _ w3).alloc (Nat.le_refl _) (.cells (dateC y' m' d' h' i' s' v').toArray 39)))
  have Y3 := Lib.hid (DX.new w3 y' m' d' h' i' s' v')
  have B3 := Lib.hid (below_then (below_then B2.out ((Below.refl _ w2).alloc (Nat.le_refl _) (.cells (dateC y m d h i s v).toArray 39))) (below_then hb ((Below.refl _ w3).alloc (Nat.le_refl _) (.cells (dateC y' m' d' h' i' s' v').toArray 39))))
  have ne : w2.heap.size ≠ w3.heap.size := by have := hb.size; simp at this; omega
  clear hb x3 X2 B2 C2
  rcases p2.code with rfl | ⟨rfl, -⟩
  · rcases p3.code with rfl | ⟨rfl, -⟩
    · have lx := lex_is p2 p3
      have de := date_eq p2 p3
      have LX := Lib.hid lx
      have MP := Lib.hid (month_pack p2)
      have XW := Lib.hid (DX.mk B3.out X3.out.lt X3.out.row)
      have UQ := Lib.hid (fun (e : t = u) => (e ▸ p2 : ToIs u y m d h i s v 0).uniq p3)
      clear lx
      have DE := Lib.hid de
      clear de p2 p3
      go_upto_region 6 with (refine wpList_store_new rfl _ (.tmp 8) (.tmp 30) rfl _ _ rfl rfl info7 rfl ?_ ?_; simp [Value.oneCell'])
      go_cut [62] (fun q wx => q = .bool false ∧ DX w w2.heap.size y m d h i s v wx)
      case first =>
        clear MP
        go_wp2_with (first | (refine wpList_load_mid rfl _ (.tmp 6) rfl w2.heap.size 0 rfl (dateC y m d h i s v) _ X3.out.row Tryz.underlying39 rfl info7 ?_) | (refine wpList_load_mid rfl _ (.tmp 8) rfl w3.heap.size 0 rfl (dateC y' m' d' h' i' s' v') _ Y3.out.row Tryz.underlying39 rfl info7 ?_))
        refine (less_any y m d h i s v y' m' d' h' i' s' v' _).mono ?_
        rintro e w4 ⟨rfl, hb⟩
        have lx : lexB (fl y m d h i s v) (fl y' m' d' h' i' s' v') = decide (t < u) := LX.out
        have XF := Lib.hid (XW.out.call hb)
        have x4 := X3.out.call hb
        have y4 := Y3.out.call hb
        rw [lx]
        clear lx LX hb XW X3 Y3 B3
        by_cases htu : t = u
        · subst htu
          obtain ⟨rfl, rfl, rfl, rfl, rfl, rfl, rfl, -⟩ := UQ.out rfl
          clear UQ DE
          have q0 := x4.row 0 _ rfl
          have z0 := y4.row 0 _ rfl
          have q1 := x4.row 1 _ rfl
          have z1 := y4.row 1 _ rfl
          have q2 := x4.row 2 _ rfl
          have z2 := y4.row 2 _ rfl
          have q3 := x4.row 3 _ rfl
          have z3 := y4.row 3 _ rfl
          have q4 := x4.row 4 _ rfl
          have z4 := y4.row 4 _ rfl
          have q5 := x4.row 5 _ rfl
          have z5 := y4.row 5 _ rfl
          have q6 := x4.row 6 _ rfl
          have z6 := y4.row 6 _ rfl
          clear x4 y4
          go_wp2_with fail
          go_meet
          exact ⟨rfl, XF.out⟩
        · have ne7 : ¬ (y = y' ∧ m = m' ∧ d = d' ∧ h = h' ∧ i = i' ∧ s = s' ∧ v = v') := fun x => htu (DE.out.1 x)
          have sp : (¬ y = y') ∨ (y = y' ∧ ¬ m = m') ∨ (y = y' ∧ m = m' ∧ ¬ d = d') ∨ (y = y' ∧ m = m' ∧ d = d' ∧ ¬ h = h') ∨ (y = y' ∧ m = m' ∧ d = d' ∧ h = h' ∧ ¬ i = i') ∨ (y = y' ∧ m = m' ∧ d = d' ∧ h = h' ∧ i = i' ∧ ¬ s = s') ∨ (y = y' ∧ m = m' ∧ d = d' ∧ h = h' ∧ i = i' ∧ s = s' ∧ ¬ v = v') := by omega
          have tu : (t == u) = false := by simp [htu]
          clear UQ DE ne7
          have q0 := x4.row 0 _ rfl
          have z0 := y4.row 0 _ rfl
          have q1 := x4.row 1 _ rfl
          have z1 := y4.row 1 _ rfl
          have q2 := x4.row 2 _ rfl
          have z2 := y4.row 2 _ rfl
          have q3 := x4.row 3 _ rfl
          have z3 := y4.row 3 _ rfl
          have q4 := x4.row 4 _ rfl
          have z4 := y4.row 4 _ rfl
          have q5 := x4.row 5 _ rfl
          have z5 := y4.row 5 _ rfl
          have q6 := x4.row 6 _ rfl
          have z6 := y4.row 6 _ rfl
          clear x4 y4
          rcases sp with g | ⟨rfl, g⟩ | ⟨rfl, rfl, g⟩ | ⟨rfl, rfl, rfl, g⟩ | ⟨rfl, rfl, rfl, rfl, g⟩ | ⟨rfl, rfl, rfl, rfl, rfl, g⟩ | ⟨rfl, rfl, rfl, rfl, rfl, rfl, g⟩
          all_goals
            go_wp2_with fail
            go_meet
            exact ⟨rfl, XF.out⟩
      case rest =>
        obtain ⟨rfl, X4⟩ := hcut
        clear X3 Y3 XW B3 LX DE UQ ne
        obtain ⟨A, N1, fa, l1, a0, a1, a2, a3, a4, y0, y1, m0, m1, nx⟩ := MP.out
        have FA := Lib.hid fa
        have L1 := Lib.hid l1
        have NX := Lib.hid nx
        have q0 := X4.row 0 _ rfl
        have q1 := X4.row 1 _ rfl
        have XX := Lib.hid X4
        clear X4 fa l1 nx MP
        go_wp2_with fail
        refine (date_any y m 1 0 0 0 0 _).mono ?_
        rintro e w4 ⟨rfl, hb⟩
        have X5 := Lib.hid (XX.out.call hb)
        clear hb XX q0 q1
        go_wp2_with fail
        refine (from_any y m 1 0 0 0 0 _).mono ?_
        rintro e w5 ⟨a5, c5, rfl, g5, hb⟩
        obtain ⟨rfl, rfl⟩ := g5.uniq FA.out
        have X6 := X5.out.call hb
        have q0 := X6.row 0 _ rfl
        have q1 := X6.row 1 _ rfl
        have XX := Lib.hid X6
        have wm : IntKind.i64.wrap (m + 1) = m + 1 := IntWalk.i64_in _ (by omega)
        clear hb X5 X6 g5 FA
        go_wp2_with fail
        go_quiet (fail)
        have X7 := Lib.hid (XX.out.call (drewN_below2 (Below.refl w5.heap.size w5) nq))
        clear XX wm q0 q1
        have ND := Lib.hid NX.out
        rcases NX.out with ⟨e1, e2, fn⟩ | ⟨z, k, B, N2, D, zk, z2, fb, l2, t1, d1, d2, eB, n1, n2⟩
        · subst e1 e2
          have FN := Lib.hid fn
          clear fn NX ND
          go_wp2_with fail
          refine (date_any _ _ _ _ _ _ _ _).mono ?_
          rintro e w6 ⟨rfl, hb⟩
          have X8 := Lib.hid (X7.out.call hb)
          clear hb X7
          go_wp2_with fail
          refine (from_any _ _ _ _ _ _ _ _).mono ?_
          rintro e w7 ⟨a7, c7, rfl, g7, hb⟩
          obtain ⟨rfl, rfl⟩ := g7.uniq FN.out
          have X9 := Lib.hid (X8.out.call hb)
          clear hb X8 g7 FN
          go_wp2_with fail
          go_ret
          exact ⟨rfl, X9.out.below⟩
        · have FB := Lib.hid fb
          have L2 := Lib.hid l2
          have EB := Lib.hid eB
          obtain ⟨b1, b2⟩ := fb.bd
          clear fb l2 eB NX ND
          rcases zk with ⟨rfl, rfl, mm⟩ | ⟨rfl, rfl, rfl⟩
          all_goals
            go_wp2_with fail
            refine (date_any _ _ _ _ _ _ _ _).mono ?_
            rintro e w6 ⟨rfl, hb⟩
            have X8 := Lib.hid (X7.out.call hb)
            clear hb X7
            go_wp2_with fail
            refine (from_any _ _ _ _ _ _ _ _).mono ?_
            rintro e w7 ⟨a7, c7, rfl, g7, hb⟩
            obtain ⟨rfl, rfl⟩ := g7.uniq FB.out
            have X9 := X8.out.call hb
            have q0 := X9.row 0 _ rfl
            have q1 := X9.row 1 _ rfl
            have XX := Lib.hid X9
            clear hb X8 X9 g7 FB
            go_wp2_with fail
            refine (Leap_any _ _ _).mono ?_
            rintro e w8 ⟨t8, c8, rfl, g8, hb⟩
            obtain ⟨rfl, rfl⟩ := g8.uniq L1.out
            have X10 := Lib.hid (XX.out.call hb)
            clear hb XX q0 q1 g8 L1
            go_wp2_with fail
            refine (Leap_any _ _ _).mono ?_
            rintro e w9 ⟨t9, c9, rfl, g9, hb⟩
            obtain ⟨rfl, rfl⟩ := g9.uniq L2.out
            have X11 := Lib.hid (X10.out.call hb)
            clear hb X10 g9 L2
            have eB := EB.out
            obtain ⟨G, hG⟩ : ∃ G, a7 - a5 = G := ⟨_, rfl⟩
            obtain ⟨H, hH⟩ : ∃ H, t9 - t8 = H := ⟨_, rfl⟩
            obtain ⟨I, hI⟩ : ∃ I, H * 1000000 = I := ⟨_, rfl⟩
            obtain ⟨J, hJ⟩ : ∃ J, G - I = J := ⟨_, rfl⟩
            have hK : D * 86400000000 = J := by omega
            have hL : J + I = G := by omega
            have wG : IntKind.i64.wrap G = G := IntWalk.i64_in _ (by omega)
            have wH : IntKind.i64.wrap H = H := IntWalk.i64_in _ (by omega)
            have wI : IntKind.i64.wrap I = I := IntWalk.i64_in _ (by omega)
            have wJ : IntKind.i64.wrap J = J := IntWalk.i64_in _ (by omega)
            have wD : IntKind.i64.wrap D = D := IntWalk.i64_in _ (by omega)
            have hq : J.tdiv 86400000000 = D := by rw [← hK]; exact Int.mul_tdiv_cancel _ (by decide)
            have hq' : J / 86400000000 = D := by rw [← hK]; exact Int.mul_ediv_cancel _ (by decide)
            clear eB EB h0 h1 g0 g1 a1 a2 a3 a4 y0 y1 m0 n1 n2 b1 b2 z2
            go_wp2_with fail
            go_ret
            exact ⟨rfl, X11.out.below⟩
    · clear p2 p3
      go_wp2_with (refine wpList_store_new rfl _ (.tmp 8) (.tmp 30) rfl _ _ rfl rfl info7 rfl ?_ ?_; simp [Value.oneCell'])
      go_ret
      exact ⟨rfl, B3.out⟩
  · have cc := p3.code
    have cc : c' = 0 ∨ c' = 16 := by omega
    rcases cc with rfl | rfl
    all_goals
      clear p2 p3
      go_wp2_with (refine wpList_store_new rfl _ (.tmp 8) (.tmp 30) rfl _ _ rfl rfl info7 rfl ?_ ?_; simp [Value.oneCell'])
      go_ret
      exact ⟨rfl, B3.out⟩
end Wd
end Go.Proofs.YtmgehfakcnmdnaaGreatDoor
