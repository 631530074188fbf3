/-
  The walk of Next of package desig, for a year and a half-month letter in range.
-/
import Derived.Test.YtdjndoafnoidbaaDoorDNext
namespace Go.Proofs.YtdjndoafnoidbaaDoor
namespace Dw
open Go.RowKit Dp Lw

set_option maxHeartbeats 2000000 in
theorem next_many (L : Ls) (a : Option Addr) (n cap : Nat) (y h : Int) (w : World) (hT : Tab w) (h0 : 0 ≤ h) (h1 : h < 256) (y1 : 1800 ≤ y) (y2 : y ≤ 2099) (hp : halfP h) (hn : 1000 < n) (hm : n ≤ 9223372036854775807) :
    Calls Tryd.prog 14 #[.slice a n cap, .int .i64 y, .int .u8 h] w (NextPost L n y h w) := by
  have th := there_new w #[.int .i64 0, .int .i64 0, .int .u8 0, .int .u8 0, .int .i64 0] 23 5 (by simp)
  have hB := (Below.refl w.heap.size w).alloc (Nat.le_refl _) (.cells #[.int .i64 0, .int .i64 0, .int .u8 0, .int .u8 0, .int .i64 0] 23)
  have hT1 := hT.alloc (.cells #[.int .i64 0, .int .i64 0, .int .u8 0, .int .u8 0, .int .i64 0] 23)
  obtain ⟨hd1, hd2⟩ := (halfP_iff h).1 hp
  have n1 : (1000 : Int) < (n : Int) := by omega
  go_enter Tryd.func14, Tryd.ntmps14
  go_wp2_with (first | (go_at_call 32; refine (isHalf_any _ _ hT1 h0 h1).mono ?_; rintro e w' ⟨rfl, rfl⟩) | (refine wpList_store_mid rfl _ (.tmp 6) (.tmp 28) rfl w.heap.size 0 _ rfl rfl ?_ info5d ?_ ?_; exact th; simp [Value.oneCell']))
  exact bodyPost_ret (ret_cell_tmp Tryd.results14 _ _ w.heap.size (desigC 0 0 0 0 0) _ rfl (World.rangeAt_setCells_same _ _ _ _ th) Tryd.underlying23 rfl info5d) rfl ⟨0, 0, 0, 0, 0, 4, rfl, Or.inr (Or.inl ⟨⟨y1, y2, hp⟩, hn, rfl, rfl, rfl, rfl, rfl, rfl⟩), below_setCells _ (Nat.le_refl _) _ _ _ hB⟩

set_option maxRecDepth 100000 in
set_option maxHeartbeats 4000000 in
theorem next_list (L : Ls) (b off n cap : Nat) (y h : Int) (w : World) (hT : Tab w) (hL : Lst w b off n L) (h0 : 0 ≤ h) (h1 : h < 256) (y1 : 1800 ≤ y) (y2 : y ≤ 2099) (hp : halfP h) (hn : n ≤ 1000) :
    Calls Tryd.prog 14 #[.slice (some ⟨b, off, none⟩) n cap, .int .i64 y, .int .u8 h] w (NextPost L n y h w) := by
  have th := there_new w #[.int .i64 0, .int .i64 0, .int .u8 0, .int .u8 0, .int .i64 0] 23 5 (by simp)
  have hB := (Below.refl w.heap.size w).alloc (Nat.le_refl _) (.cells #[.int .i64 0, .int .i64 0, .int .u8 0, .int .u8 0, .int .i64 0] 23)
  have hT1 := hT.alloc (.cells #[.int .i64 0, .int .i64 0, .int .u8 0, .int .u8 0, .int .i64 0] 23)
  have hz : w.heap.size < (w.alloc (.cells #[.int .i64 0, .int .i64 0, .int .u8 0, .int .u8 0, .int .i64 0] 23)).heap.size := by simp
  obtain ⟨hd1, hd2⟩ := (halfP_iff h).1 hp
  have n1 : ¬ (1000 : Int) < (n : Int) := by omega
  have HL := Lib.hid hL
  have HT := Lib.hid hT
  have Hp := Lib.hid hp
  clear hL hp hT
  go_enter Tryd.func14, Tryd.ntmps14
  go_wp2_with (first | (go_at_call 32; refine (isHalf_any _ _ hT1 h0 h1).mono ?_; rintro e w' ⟨rfl, rfl⟩))
  go_loopw [8, 10, 11, 31] (fun v x z i wr => ∃ k : Nat, k ≤ n ∧ i = .int .i64 k ∧ v = .int .i64 (nextTo L y h k) ∧ okTo L k ∧ Below w.heap.size w wr ∧ wr.there w.heap.size 0 5 ∧ w.heap.size < wr.heap.size) (fun _ _ _ i _ => n - (intOf i).toNat)
  case atStart => exact ⟨0, by omega, rfl, rfl, okTo_0 L, hB, th, hz⟩
  case round =>
    clear hB th hz hT1
    obtain ⟨k, hk, rfl, rfl, hok, hB, th, hz⟩ := hrel
    obtain ⟨nb1, nb2⟩ := next_bd (y := y) (h := h) hok
    have Hok := Lib.hid hok
    have hTr : Tab _ := HT.out.below hB
    clear hok
    by_cases hlt : k < n
    · have hr := fun v j hv => (hB.cell (p := ⟨b, off + k * 5 + j, none⟩) HL.out.lt).trans (HL.out.row k hlt j v hv)
      have i1 : (k : Int) < (n : Int) := by omega
      have u0 := HL.out.u0 k hlt
      have u1 := HL.out.u1 k hlt
      have s0 := HL.out.s0 k hlt
      have s1 := HL.out.s1 k hlt
      have Hr := Lib.hid hr
      clear hr
      go_wp2_with (first | (refine wpList_load_mid rfl _ (.tmp 33) rfl b (off + k * 5) rfl (desigC (L.N k) (L.Y k) (L.U k) (L.S k) (L.C k)) _ (fun j v hv => Hr.out v j hv) Tryd.underlying23 rfl info5d ?_) | (refine wpList_store_new rfl _ (.tmp 10) (.tmp 34) rfl _ _ rfl rfl info5d rfl ?_ ?_; simp [Value.oneCell']))
      have hW := hTr.alloc (.cells #[.int .i64 (L.N k), .int .i64 (L.Y k), .int .u8 (L.U k), .int .u8 (L.S k), .int .i64 (L.C k)] 23)
      refine (check_any _ _ _ _ _ _ hW u0 u1 s0 s1).mono ?_
      rintro e w2 ⟨rfl, hb2⟩
      have r2 := rangeAt_below (rangeAt_new wr (desigC (L.N k) (L.Y k) (L.U k) (L.S k) (L.C k)) 23) hb2 (by simp)
      have d0 : w2.cell? ⟨wr.heap.size, 0, none⟩ = some (.int .i64 (L.N k)) := r2 0 _ rfl
      have d1 : w2.cell? ⟨wr.heap.size, 1, none⟩ = some (.int .i64 (L.Y k)) := r2 1 _ rfl
      have d2 : w2.cell? ⟨wr.heap.size, 2, none⟩ = some (.int .u8 (L.U k)) := r2 2 _ rfl
      have d3 : w2.cell? ⟨wr.heap.size, 3, none⟩ = some (.int .u8 (L.S k)) := r2 3 _ rfl
      have d4 : w2.cell? ⟨wr.heap.size, 4, none⟩ = some (.int .i64 (L.C k)) := r2 4 _ rfl
      have th2 := there_below (World.there_alloc th (.cells #[.int .i64 (L.N k), .int .i64 (L.Y k), .int .u8 (L.U k), .int .u8 (L.S k), .int .i64 (L.C k)] 23)) hb2 (by simp; omega)
      have hB2 := below_then (hB.alloc hB.size (.cells #[.int .i64 (L.N k), .int .i64 (L.Y k), .int .u8 (L.U k), .int .u8 (L.S k), .int .i64 (L.C k)] 23)) hb2
      have hz2 : w.heap.size < w2.heap.size := by have := hb2.size; simp at this; omega
      have hT2 : Tab w2 := HT.out.below hB2
      clear hb2 r2 hW hTr hB th hz Hr
      rcases errC_two (L.N k) (L.Y k) (L.U k) (L.S k) (L.C k) with ⟨e1, g1⟩ | ⟨e1, g1⟩
      · rw [e1]
        have G1 := Lib.hid (show okL L k from g1)
        have Hok2 := Lib.hid (okTo_s Hok.out G1.out)
        clear e1 g1
        by_cases c1 : L.N k = 0
        · obtain ⟨cb1, cb2, cb3, cb4, cb5, cb6⟩ := code_bd G1.out c1
          have es : nextTo L y h (k + 1) = if hitL L y h k then (if nextTo L y h k < codeL L k + 1 then codeL L k + 1 else nextTo L y h k) else nextTo L y h k := rfl
          have C1 := Lib.hid c1
          rw [c1] at d0
          clear c1
          by_cases c2 : L.Y k = y
          · have C2 := Lib.hid c2
            rw [c2] at d1
            clear c2
            by_cases c3 : L.U k = h
            · rw [if_pos ⟨C1.out, C2.out, c3⟩] at es
              rw [c3] at d2
              clear c3
              have ec : codeL L k = 25 * L.C k + placeI (L.S k) := rfl
              by_cases hm : nextTo L y h k < codeL L k + 1
              · rw [if_pos hm, ec] at es
                rw [ec] at hm
                have Es := Lib.hid es
                have w1 : IntKind.i64.wrap (25 * L.C k) = 25 * L.C k := IntWalk.i64_in _ (by omega)
                have w2' : IntKind.i64.wrap (25 * L.C k + placeI (L.S k)) = 25 * L.C k + placeI (L.S k) := IntWalk.i64_in _ (by omega)
                have w3 : IntKind.i64.wrap (25 * L.C k + placeI (L.S k) + 1) = 25 * L.C k + placeI (L.S k) + 1 := IntWalk.i64_in _ (by omega)
                clear es ec cb1 cb2
                go_wp2_with fail
                go_quiet ((go_at_call 33; first | exact quiet_left (place_any _ _ hT2 s0 s1) | exact quiet_add_left (place_any _ _ hT2 s0 s1)))
                clear w1 w2' w3
                go_wp2
                go_roundw
                case rel => exact ⟨k + 1, by omega, by go_num, ret_v Es.out.symm, Hok2.out, drewN_below2 hB2 _, there_drewN th2 _, by simpa using hz2⟩
                case measure => simp [intOf]; omega
              · rw [if_neg hm] at es
                rw [ec] at hm
                have Es := Lib.hid es
                have w1 : IntKind.i64.wrap (25 * L.C k) = 25 * L.C k := IntWalk.i64_in _ (by omega)
                have w2' : IntKind.i64.wrap (25 * L.C k + placeI (L.S k)) = 25 * L.C k + placeI (L.S k) := IntWalk.i64_in _ (by omega)
                have w3 : IntKind.i64.wrap (25 * L.C k + placeI (L.S k) + 1) = 25 * L.C k + placeI (L.S k) + 1 := IntWalk.i64_in _ (by omega)
                clear es ec cb1 cb2
                go_wp2_with fail
                go_quiet ((go_at_call 33; first | exact quiet_left (place_any _ _ hT2 s0 s1) | exact quiet_add_left (place_any _ _ hT2 s0 s1)))
                clear w1 w2' w3
                go_wp2
                go_roundw
                case rel => exact ⟨k + 1, by omega, by go_num, ret_v Es.out.symm, Hok2.out, drewN_below2 hB2 _, there_drewN th2 _, by simpa using hz2⟩
                case measure => simp [intOf]; omega
            · have e3 : (L.U k == h) = false := beq_eq_false_iff_ne.2 c3
              rw [if_neg (fun g => c3 g.2.2)] at es
              have Es := Lib.hid es
              clear es
              go_wp2_with fail
              go_roundw
              case rel => exact ⟨k + 1, by omega, by go_num, ret_v Es.out.symm, Hok2.out, hB2, th2, hz2⟩
              case measure => simp [intOf]; omega
          · have e3 : (L.Y k == y) = false := beq_eq_false_iff_ne.2 c2
            rw [if_neg (fun g => c2 g.2.1)] at es
            have Es := Lib.hid es
            clear es
            go_wp2_with fail
            go_roundw
            case rel => exact ⟨k + 1, by omega, by go_num, ret_v Es.out.symm, Hok2.out, hB2, th2, hz2⟩
            case measure => simp [intOf]; omega
        · have e3 : (L.N k == 0) = false := beq_eq_false_iff_ne.2 c1
          have es : nextTo L y h (k + 1) = if hitL L y h k then (if nextTo L y h k < codeL L k + 1 then codeL L k + 1 else nextTo L y h k) else nextTo L y h k := rfl
          rw [if_neg (fun g => c1 g.1)] at es
          have Es := Lib.hid es
          clear es
          go_wp2_with fail
          go_roundw
          case rel => exact ⟨k + 1, by omega, by go_num, ret_v Es.out.symm, Hok2.out, hB2, th2, hz2⟩
          case measure => simp [intOf]; omega
      · rw [e1]
        have G1 := Lib.hid (show ¬ okL L k from g1)
        clear e1 g1 d0 d1 d2 d3 d4
        go_wp2_with (refine wpList_store_mid rfl _ (.tmp 6) (.tmp 39) rfl w.heap.size 0 _ rfl rfl ?_ info5d ?_ ?_; exact th2; simp [Value.oneCell'])
        exact bodyPost_ret (ret_cell_tmp Tryd.results14 _ _ w.heap.size (desigC 0 0 0 0 0) _ rfl (World.rangeAt_setCells_same _ _ _ _ th2) Tryd.underlying23 rfl info5d) rfl ⟨0, 0, 0, 0, 0, 8, rfl, Or.inr (Or.inr (Or.inl ⟨⟨y1, y2, Hp.out⟩, hn, fun g => G1.out (g k hlt), rfl, rfl, rfl, rfl, rfl, rfl⟩)), below_setCells _ (Nat.le_refl _) _ _ _ hB2⟩
    · obtain rfl : k = n := by omega
      generalize hv : nextTo L y h k = v at *
      have Hv := Lib.hid hv
      clear hv
      have m0 : 0 ≤ v % 25 := by omega
      have m1 : v % 25 < 25 := by omega
      have ck := hTr.cell (v % 25).toNat (by omega)
      obtain ⟨ob1, ob2⟩ := ord_bd (v % 25).toNat (by omega)
      by_cases hc : 619 < v / 25
      · go_wp2_with (first | (refine wpList_store_mid rfl _ (.tmp 6) (.tmp 80) rfl w.heap.size 0 _ rfl rfl ?_ info5d ?_ ?_; exact World.there_alloc th _; simp [Value.oneCell']))
        exact bodyPost_ret (ret_cell_tmp Tryd.results14 _ _ w.heap.size (desigC 0 0 0 0 0) _ rfl (World.rangeAt_setCells_same _ _ _ _ (World.there_alloc th _)) Tryd.underlying23 rfl info5d) rfl ⟨0, 0, 0, 0, 0, 16, rfl, Or.inr (Or.inr (Or.inr (Or.inl ⟨⟨y1, y2, Hp.out⟩, hn, Hok.out, by rw [Hv.out]; exact hc, rfl, rfl, rfl, rfl, rfl, rfl⟩))), below_setCells _ (Nat.le_refl _) _ _ _ (hB.alloc hB.size _)⟩
      · go_wp2_with (first | (refine wpList_store_mid rfl _ (.tmp 6) (.tmp 81) rfl w.heap.size 0 _ rfl rfl ?_ info5d ?_ ?_; exact World.there_alloc th _; simp [Value.oneCell']))
        exact bodyPost_ret (ret_cell_tmp Tryd.results14 _ _ w.heap.size (desigC 0 y h (ordAt (v % 25).toNat) (v / 25)) _ rfl (World.rangeAt_setCells_same _ _ _ _ (World.there_alloc th _)) Tryd.underlying23 rfl info5d) rfl ⟨0, y, h, ordAt (v % 25).toNat, v / 25, 0, rfl, Or.inr (Or.inr (Or.inr (Or.inr ⟨⟨y1, y2, Hp.out⟩, hn, Hok.out, by rw [Hv.out]; omega, rfl, rfl, rfl, by rw [Hv.out], by rw [Hv.out], rfl⟩))), below_setCells _ (Nat.le_refl _) _ _ _ (hB.alloc hB.size _)⟩

set_option maxRecDepth 100000 in
set_option maxHeartbeats 4000000 in
theorem next_empty (L : Ls) (a : Option Addr) (cap : Nat) (y h : Int) (w : World) (hT : Tab w) (h0 : 0 ≤ h) (h1 : h < 256) (y1 : 1800 ≤ y) (y2 : y ≤ 2099) (hp : halfP h) :
    Calls Tryd.prog 14 #[.slice a 0 cap, .int .i64 y, .int .u8 h] w (NextPost L 0 y h w) := by
  have th := there_new w #[.int .i64 0, .int .i64 0, .int .u8 0, .int .u8 0, .int .i64 0] 23 5 (by simp)
  have hB := (Below.refl w.heap.size w).alloc (Nat.le_refl _) (.cells #[.int .i64 0, .int .i64 0, .int .u8 0, .int .u8 0, .int .i64 0] 23)
  have hT1 := hT.alloc (.cells #[.int .i64 0, .int .i64 0, .int .u8 0, .int .u8 0, .int .i64 0] 23)
  obtain ⟨hd1, hd2⟩ := (halfP_iff h).1 hp
  have ck := hT1.cell 0 (by omega)
  have v0 : ordAt 0 = 65 := rfl
  rw [v0] at ck
  have Hp := Lib.hid hp
  clear hp hT v0
  go_enter Tryd.func14, Tryd.ntmps14
  go_wp2_with (first | (go_at_call 32; refine (isHalf_any _ _ hT1 h0 h1).mono ?_; rintro e w' ⟨rfl, rfl⟩))
  go_loop [8, 10, 11, 31] (fun v _ _ i => v = .int .i64 0 ∧ i = .int .i64 0) (fun _ _ _ _ => 0)
  case atStart => exact ⟨rfl, rfl⟩
  case round =>
    obtain ⟨rfl, rfl⟩ := hrel
    go_wp2_with (first | (refine wpList_store_mid rfl _ (.tmp 6) (.tmp 81) rfl w.heap.size 0 _ rfl rfl ?_ info5d ?_ ?_; exact World.there_alloc th _; simp [Value.oneCell']))
    exact bodyPost_ret (ret_cell_tmp Tryd.results14 _ _ w.heap.size (desigC 0 y h 65 0) _ rfl (World.rangeAt_setCells_same _ _ _ _ (World.there_alloc th _)) Tryd.underlying23 rfl info5d) rfl ⟨0, y, h, 65, 0, 0, rfl, Or.inr (Or.inr (Or.inr (Or.inr ⟨⟨y1, y2, Hp.out⟩, by omega, okTo_0 L, by simp [nextTo], rfl, rfl, rfl, rfl, rfl, rfl⟩))), below_setCells _ (Nat.le_refl _) _ _ _ (hB.alloc hB.size _)⟩
end Dw
end Go.Proofs.YtdjndoafnoidbaaDoor
