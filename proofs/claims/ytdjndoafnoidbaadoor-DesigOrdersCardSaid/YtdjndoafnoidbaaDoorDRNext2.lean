/-
  The walk of Next of the reference, for a year and a half-month letter in range.
-/
import Derived.Test.YtdjndoafnoidbaaDoorDRNext
import Derived.Deep.RegionHeld3
namespace Go.Proofs.YtdjndoafnoidbaaDoor
namespace Dw
open Go.RowKit Dp Lw

/-- A designation in a variable of the call's own. -/
structure Box (w : World) (B : Nat) (n y u s c : Int) : Prop where
  c0 : w.cell? ⟨B, 0, none⟩ = some (.int .i64 n)
  c1 : w.cell? ⟨B, 1, none⟩ = some (.int .i64 y)
  c2 : w.cell? ⟨B, 2, none⟩ = some (.int .u8 u)
  c3 : w.cell? ⟨B, 3, none⟩ = some (.int .u8 s)
  c4 : w.cell? ⟨B, 4, none⟩ = some (.int .i64 c)
  th : w.there B 0 5
  lt : B < w.heap.size
theorem Box.of_range {w : World} {B : Nat} {n y u s c : Int} (h : w.rangeAt B 0 (desigC n y u s c)) (th : w.there B 0 5) (lt : B < w.heap.size) : Box w B n y u s c :=
  ⟨h 0 _ rfl, h 1 _ rfl, h 2 _ rfl, h 3 _ rfl, h 4 _ rfl, th, lt⟩
theorem Box.range {w : World} {B : Nat} {n y u s c : Int} (h : Box w B n y u s c) : w.rangeAt B 0 (desigC n y u s c) := fun j v hv => by
  match j, hv with
  | 0, hv => cases hv; exact h.c0
  | 1, hv => cases hv; exact h.c1
  | 2, hv => cases hv; exact h.c2
  | 3, hv => cases hv; exact h.c3
  | 4, hv => cases hv; exact h.c4
  | k + 5, hv => simp at hv
theorem Box.fr3 {w : World} {B : Nat} {n y u s c : Int} (h : Box w B n y u s c) : w.frozen? ⟨B, 3, none⟩ = false := by simpa using (h.th 3 (by omega)).2
theorem Box.fr4 {w : World} {B : Nat} {n y u s c : Int} (h : Box w B n y u s c) : w.frozen? ⟨B, 4, none⟩ = false := by simpa using (h.th 4 (by omega)).2
theorem Box.below {w w' : World} {B : Nat} {n y u s c : Int} (h : Box w B n y u s c) (hb : Below w.heap.size w w') : Box w' B n y u s c :=
  .of_range (rangeAt_below h.range hb h.lt) (there_below h.th hb h.lt) (Nat.lt_of_lt_of_le h.lt hb.size)
theorem there_set {w : World} {b : Nat} (h : w.there b 0 5) (a : Addr) (v : Value) : (w.setCell a v).there b 0 5 := fun j hj => by
  refine ⟨World.isSome_setCells a.block [v] a.off w _ (h j hj).1 |> fun x => ?_, by rw [World.frozen?_setCell]; exact (h j hj).2⟩
  obtain ⟨u, hu⟩ := Option.isSome_iff_exists.1 (h j hj).1
  obtain ⟨v', hv'⟩ := cell?_setCell_some (w := w) (p := a) (x := v) (q := ⟨b, 0 + j, none⟩) (v := u) hu
  rw [hv']; rfl
theorem size_set (w : World) (a : Addr) (v : Value) : (w.setCell a v).heap.size = w.heap.size := by simp [World.setCell]
theorem Box.set3 {w : World} {B : Nat} {n y u s c : Int} (h : Box w B n y u s c) (s' : Int) : Box (w.setCell ⟨B, 3, none⟩ (.int .u8 s')) B n y u s' c :=
  ⟨(World.cell?_setCell_other _ _ _ _ (by simp)).trans h.c0, (World.cell?_setCell_other _ _ _ _ (by simp)).trans h.c1, (World.cell?_setCell_other _ _ _ _ (by simp)).trans h.c2, World.cell?_setCell_same _ _ _ h.c3, (World.cell?_setCell_other _ _ _ _ (by simp)).trans h.c4, there_set h.th _ _, by rw [size_set]; exact h.lt⟩
theorem Box.set4 {w : World} {B : Nat} {n y u s c : Int} (h : Box w B n y u s c) (c' : Int) : Box (w.setCell ⟨B, 4, none⟩ (.int .i64 c')) B n y u s c' :=
  ⟨(World.cell?_setCell_other _ _ _ _ (by simp)).trans h.c0, (World.cell?_setCell_other _ _ _ _ (by simp)).trans h.c1, (World.cell?_setCell_other _ _ _ _ (by simp)).trans h.c2, (World.cell?_setCell_other _ _ _ _ (by simp)).trans h.c3, World.cell?_setCell_same _ _ _ h.c4, there_set h.th _ _, by rw [size_set]; exact h.lt⟩

theorem Box.drewN {w : World} {B : Nat} {n y u s c : Int} (h : Box w B n y u s c) (k : Nat) : Box (w.drewN k) B n y u s c :=
  ⟨by simpa using h.c0, by simpa using h.c1, by simpa using h.c2, by simpa using h.c3, by simpa using h.c4, there_drewN h.th k, by simpa using h.lt⟩
/-- Comparing an order with one of the same half-month. -/
theorem cmp_code {L : Ls} {k : Nat} {y h S C : Int} (g : okL L k) (hit : hitL L y h k) (hS : secP S) (hC : 0 ≤ C) : (cmpR (L.N k) (L.Y k) (L.U k) (L.S k) (L.C k) 0 y h S C < 0) ↔ codeL L k < 25 * C + placeI S := by
  obtain ⟨h1, h2, h3⟩ := hit
  have cb := code_bd g h1
  have hs : secP (L.S k) := (secP_iff _).2 (by omega)
  unfold cmpR codeL
  rw [h1, h2, h3, sgn_eq (a := big 0) rfl, sgn_eq (a := y) rfl, sgn_eq (a := h) rfl]
  have e : orr 0 (orr 0 (orr 0 (orr (sgn (L.C k) C) (sgn (L.S k) S)))) = orr (sgn (L.C k) C) (sgn (L.S k) S) := by simp [orr]
  rw [e]
  unfold orr sgn placeI
  unfold secP at hS hs
  split <;> split <;> (try split) <;> (try split) <;> (try split) <;> (try split) <;> omega

theorem sec_back {S C : Int} (hS : secP S) (hC : 0 ≤ C) : ordAt ((25 * C + placeI S) % 25).toNat = S ∧ (25 * C + placeI S) / 25 = C := by
  have hp := (secP_iff S).1 hS
  have hp2 : placeI S < 25 := by unfold secP at hS; unfold placeI; split <;> (try split) <;> omega
  have e1 : (25 * C + placeI S) % 25 = placeI S := by omega
  refine ⟨?_, by omega⟩
  rw [e1]
  have : ∀ x : Fin 256, secP (x.val : Int) → ordAt (placeI (x.val : Int)).toNat = (x.val : Int) := by unfold secP; decide +kernel
  have hb : 0 ≤ S ∧ S < 256 := by unfold secP at hS; omega
  have := this ⟨S.toNat, by omega⟩
  simp only [show ((S.toNat : Nat) : Int) = S by omega] at this
  exact this hS

set_option maxRecDepth 100000 in
set_option maxHeartbeats 40000000 in
theorem rnext_list (L : Ls) (b off n cap : Nat) (y h : Int) (w : World) (hL : Lst w b off n L) (h0 : 0 ≤ h) (h1 : h < 256) (y1 : 1800 ≤ y) (y2 : y ≤ 2099) (hp : halfP h) (hn : n ≤ 1000) :
    Calls Tryd.prog 15 #[.slice (some ⟨b, off, none⟩) n cap, .int .i64 y, .int .u8 h] w (RNextPost L n y h w) := by
  have th := there_new w #[.int .i64 0, .int .i64 0, .int .u8 0, .int .u8 0, .int .i64 0] 23 5 (by simp)
  have hB := (Below.refl w.heap.size w).alloc (Nat.le_refl _) (.cells #[.int .i64 0, .int .i64 0, .int .u8 0, .int .u8 0, .int .i64 0] 23)
  have hz : w.heap.size < (w.alloc (.cells #[.int .i64 0, .int .i64 0, .int .u8 0, .int .u8 0, .int .i64 0] 23)).heap.size := by simp
  have hd := (halfB_true hp).symm
  have n1 : ¬ (1000 : Int) < (n : Int) := by omega
  have HL := Lib.hid hL
  have Hp := Lib.hid hp
  clear hL hp
  go_enter Tryd.func15, Tryd.ntmps15
  go_wp2_with (first | (go_at_call 27; refine (halfLetter_any _ _).mono ?_; rintro e w' ⟨rfl, rfl⟩))
  clear hd
  go_loopw [8] (fun i wr => ∃ k : Nat, k ≤ n ∧ i = .int .i64 k ∧ okTo L k ∧ Below w.heap.size w wr ∧ wr.there w.heap.size 0 5 ∧ w.heap.size < wr.heap.size) (fun i _ => n - (intOf i).toNat)
  case atStart => exact ⟨0, by omega, rfl, okTo_0 L, hB, th, hz⟩
  case round =>
    clear hB th hz
    obtain ⟨k, hk, rfl, hok, hB, th, hz⟩ := hrel
    have Hok := Lib.hid hok
    clear hok
    by_cases hlt : k < n
    · have hr := fun v j hv => (hB.cell (p := ⟨b, off + k * 5 + j, none⟩) HL.out.lt).trans (HL.out.row k hlt j v hv)
      have i1 : (k : Int) < (n : Int) := by omega
      have Hr := Lib.hid hr
      clear hr
      go_wp2_with (first | (refine wpList_load_mid rfl _ (.tmp 35) rfl b (off + k * 5) rfl (desigC (L.N k) (L.Y k) (L.U k) (L.S k) (L.C k)) _ (fun j v hv => Hr.out v j hv) Tryd.underlying23 rfl info5d ?_))
      refine (rcheck_any _ _ _ _ _ _).mono ?_
      rintro e w2 ⟨rfl, hb2⟩
      have th2 := there_below th hb2 hz
      have hB2 := below_then hB hb2
      have hz2 : w.heap.size < w2.heap.size := by have := hb2.size; omega
      clear hb2 hB th hz Hr
      rcases errC_two (L.N k) (L.Y k) (L.U k) (L.S k) (L.C k) with ⟨e1, g1⟩ | ⟨e1, g1⟩
      · rw [e1]
        have Hok2 := Lib.hid (okTo_s Hok.out (show okL L k from g1))
        clear e1 g1
        go_wp2_with fail
        go_roundw
        case rel => exact ⟨k + 1, by omega, by go_num, Hok2.out, hB2, th2, hz2⟩
        case measure => simp [intOf]; omega
      · rw [e1]
        have G1 := Lib.hid (show ¬ okL L k from g1)
        clear e1 g1
        go_wp2_with (refine wpList_store_mid rfl _ (.tmp 6) (.tmp 39) rfl w.heap.size 0 _ rfl rfl ?_ info5d ?_ ?_; exact th2; simp [Value.oneCell'])
        exact bodyPost_ret (ret_cell_tmp Tryd.results15 _ _ w.heap.size (desigC 0 0 0 0 0) _ rfl (World.rangeAt_setCells_same _ _ _ _ th2) Tryd.underlying23 rfl info5d) rfl ⟨0, 0, 0, 0, 0, 8, rfl, Or.inr (Or.inr (Or.inl ⟨⟨y1, y2, Hp.out⟩, hn, fun g => G1.out (g k hlt), rfl, rfl, rfl, rfl, rfl, rfl⟩)), below_setCells _ (Nat.le_refl _) _ _ _ hB2⟩
    · obtain rfl : k = n := by omega
      go_wp2_with (first | (refine wpList_store_new rfl _ (.tmp 9) (.tmp 42) rfl _ (desigC 0 y h 65 0).toArray rfl rfl info5d rfl ?_ ?_; simp [Value.oneCell']))
      have bx : Box (wr.alloc (.cells (desigC 0 y h 65 0).toArray 23)) wr.heap.size 0 y h 65 0 := .of_range (rangeAt_new _ _ _) (there_new _ _ _ 5 (by simp)) (by simp)
      have hB2 := hB.alloc hB.size (.cells (desigC 0 y h 65 0).toArray 23)
      have th2 := World.there_alloc th (.cells (desigC 0 y h 65 0).toArray 23)
      have hz2 : w.heap.size < (wr.alloc (.cells (desigC 0 y h 65 0).toArray 23)).heap.size := by simp; omega
      have hBw : w.heap.size ≤ wr.heap.size := hB.size
      generalize wr.heap.size = B at *
      generalize wr.alloc (.cells (desigC 0 y h 65 0).toArray 23) = W at *
      clear hB th
      go_loopw [10] (fun i wr => ∃ (j : Nat) (S C : Int), j ≤ k ∧ i = .int .i64 j ∧ Box wr B 0 y h S C ∧ Hid (secP S ∧ 0 ≤ C ∧ C ≤ 620 ∧ 25 * C + placeI S = nextTo L y h j) ∧ Below w.heap.size w wr ∧ wr.there w.heap.size 0 5 ∧ w.heap.size < wr.heap.size) (fun i _ => k - (intOf i).toNat)
      case atStart => exact ⟨0, 65, 0, by omega, rfl, bx, Lib.hid ⟨by unfold secP; omega, by omega, by omega, rfl⟩, hB2, th2, hz2⟩
      case round =>
        clear hB2 th2 hz2 bx
        obtain ⟨j, S, C, hj, rfl, bx, I, hB, th, hz⟩ := hrel
        by_cases hlt : j < k
        · have hr := fun v i hv => (hB.cell (p := ⟨b, off + j * 5 + i, none⟩) HL.out.lt).trans (HL.out.row j hlt i v hv)
          have q0 := hr _ 0 rfl
          have q1 := hr _ 1 rfl
          have q2 := hr _ 2 rfl
          have q3 := hr _ 3 rfl
          have q4 := hr _ 4 rfl
          rw [Nat.add_zero] at q0
          have G := Lib.hid (Hok.out j hlt)
          have i0 : (0 : Int) ≤ (j : Int) := by omega
          have i1 : (j : Int) < (k : Int) := by omega
          have s0 := HL.out.s0 j hlt
          have s1 := HL.out.s1 j hlt
          have nn := okD_bd G.out
          have es : nextTo L y h (j + 1) = if hitL L y h j then (if nextTo L y h j < codeL L j + 1 then codeL L j + 1 else nextTo L y h j) else nextTo L y h j := rfl
          clear hr
          by_cases c1 : L.N j = 0
          · rw [c1] at q0
            by_cases c2 : L.Y j = y
            · rw [c2] at q1
              by_cases c3 : L.U j = h
              · rw [c3] at q2
                have cb := code_bd G.out c1
                have hS : 0 ≤ S ∧ S < 256 := by have := I.out.1; unfold secP at this; omega
                have cc := cmp_code G.out ⟨c1, c2, c3⟩ I.out.1 I.out.2.1
                have Cb := Lib.hid cb
                rw [if_pos ⟨c1, c2, c3⟩] at es
                rw [c1, c2, c3] at cc
                have Hit := Lib.hid (show hitL L y h j from ⟨c1, c2, c3⟩)
                generalize hX : cmpR 0 y h (L.S j) (L.C j) 0 y h S C = X at *
                have HX := Lib.hid hX
                have CC := Lib.hid cc
                clear c1 c2 c3 cb cc hX nn
                obtain ⟨b0, b1, b2, b3, b4, bth, blt⟩ := bx
                have blt' : b < wr.heap.size := Nat.lt_of_lt_of_le HL.out.lt hB.size
                by_cases hlx : X < 0
                · have d1 : decide (X < 0) = true := by simpa using hlx
                  have lc := CC.out.1 hlx
                  have ee : nextTo L y h (j + 1) = nextTo L y h j := by rw [es, if_neg (by have := I.out.2.2.2; omega)]
                  clear es
                  have Es := Lib.hid ee
                  clear ee
                  go_wp2_with fail
                  go_region_held3 (fun w' => w'.cell? ⟨b, off + j * 5, none⟩ = some (.int .i64 0) ∧ w'.cell? ⟨b, off + j * 5 + 1, none⟩ = some (.int .i64 y) ∧ w'.cell? ⟨b, off + j * 5 + 2, none⟩ = some (.int .u8 h) ∧ w'.cell? ⟨b, off + j * 5 + 3, none⟩ = some (.int .u8 (L.S j)) ∧ w'.cell? ⟨b, off + j * 5 + 4, none⟩ = some (.int .i64 (L.C j)) ∧ w'.cell? ⟨B, 0, none⟩ = some (.int .i64 0) ∧ w'.cell? ⟨B, 1, none⟩ = some (.int .i64 y) ∧ w'.cell? ⟨B, 2, none⟩ = some (.int .u8 h) ∧ w'.cell? ⟨B, 3, none⟩ = some (.int .u8 S) ∧ w'.cell? ⟨B, 4, none⟩ = some (.int .i64 C)) (go_keep) (first | (go_at_call 31; refine (before_any _ _ _ _ _ _ _ _ _ _ _ h0 h1 s0 s1 h0 h1 hS.1 hS.2).mono ?_; rintro e w2 ⟨rfl, hb2⟩; have p0 := (hb2.cell (p := ⟨b, off + j * 5, none⟩) blt').trans q0; have p1 := (hb2.cell (p := ⟨b, off + j * 5 + 1, none⟩) blt').trans q1; have p2 := (hb2.cell (p := ⟨b, off + j * 5 + 2, none⟩) blt').trans q2; have p3 := (hb2.cell (p := ⟨b, off + j * 5 + 3, none⟩) blt').trans q3; have p4 := (hb2.cell (p := ⟨b, off + j * 5 + 4, none⟩) blt').trans q4; have r0 := (hb2.cell (p := ⟨B, 0, none⟩) blt).trans b0; have r1 := (hb2.cell (p := ⟨B, 1, none⟩) blt).trans b1; have r2 := (hb2.cell (p := ⟨B, 2, none⟩) blt).trans b2; have r3 := (hb2.cell (p := ⟨B, 3, none⟩) blt).trans b3; have r4 := (hb2.cell (p := ⟨B, 4, none⟩) blt).trans b4; rw [HX.out]))
                  have bth2 := there_below ((World.there_drew _ _ _ _).2 bth) hb2 blt
                  have th2 := there_below ((World.there_drew _ _ _ _).2 th) hb2 hz
                  have hB2 := below_then hB.drew hb2
                  have blt2 : B < w2.heap.size := by have := hb2.size; simp at this; omega
                  have hz2 : w.heap.size < w2.heap.size := by have := hb2.size; simp at this; omega
                  go_wp2
                  go_roundw
                  case rel => exact ⟨j + 1, S, C, by omega, by go_num, ⟨r0, r1, r2, r3, r4, bth2, blt2⟩, Lib.hid ⟨I.out.1, I.out.2.1, I.out.2.2.1, I.out.2.2.2.trans Es.out.symm⟩, hB2, th2, hz2⟩
                  case measure => simp [intOf]; omega
                · skip
                  have d1 : decide (X < 0) = false := by simpa using hlx
                  have lc : 25 * C + placeI S ≤ codeL L j := by
                    rcases Int.lt_or_le (codeL L j) (25 * C + placeI S) with e | e
                    · exact absurd (CC.out.2 e) hlx
                    · exact e
                  have ee : nextTo L y h (j + 1) = 25 * L.C j + placeI (L.S j) + 1 := by rw [es, if_pos (by have := I.out.2.2.2; omega)]; rfl
                  clear es
                  have Es := Lib.hid ee
                  clear ee
                  obtain ⟨_, _, cc1, cc2, pp1, pp2⟩ := Cb.out
                  have sp := (secP_iff (L.S j)).2 pp1
                  have Sp := Lib.hid sp
                  have sp' : 65 ≤ L.S j ∧ L.S j ≤ 90 := ⟨sp.1, sp.2.1⟩
                  clear sp
                  go_wp2_with fail
                  go_region_held3 (fun w' => w'.cell? ⟨b, off + j * 5, none⟩ = some (.int .i64 0) ∧ w'.cell? ⟨b, off + j * 5 + 1, none⟩ = some (.int .i64 y) ∧ w'.cell? ⟨b, off + j * 5 + 2, none⟩ = some (.int .u8 h) ∧ w'.cell? ⟨b, off + j * 5 + 3, none⟩ = some (.int .u8 (L.S j)) ∧ w'.cell? ⟨b, off + j * 5 + 4, none⟩ = some (.int .i64 (L.C j)) ∧ w'.cell? ⟨B, 0, none⟩ = some (.int .i64 0) ∧ w'.cell? ⟨B, 1, none⟩ = some (.int .i64 y) ∧ w'.cell? ⟨B, 2, none⟩ = some (.int .u8 h) ∧ w'.cell? ⟨B, 3, none⟩ = some (.int .u8 S) ∧ w'.cell? ⟨B, 4, none⟩ = some (.int .i64 C)) (go_keep) (first | (go_at_call 31; refine (before_any _ _ _ _ _ _ _ _ _ _ _ h0 h1 s0 s1 h0 h1 hS.1 hS.2).mono ?_; rintro e w2 ⟨rfl, hb2⟩; have p0 := (hb2.cell (p := ⟨b, off + j * 5, none⟩) blt').trans q0; have p1 := (hb2.cell (p := ⟨b, off + j * 5 + 1, none⟩) blt').trans q1; have p2 := (hb2.cell (p := ⟨b, off + j * 5 + 2, none⟩) blt').trans q2; have p3 := (hb2.cell (p := ⟨b, off + j * 5 + 3, none⟩) blt').trans q3; have p4 := (hb2.cell (p := ⟨b, off + j * 5 + 4, none⟩) blt').trans q4; have r0 := (hb2.cell (p := ⟨B, 0, none⟩) blt).trans b0; have r1 := (hb2.cell (p := ⟨B, 1, none⟩) blt).trans b1; have r2 := (hb2.cell (p := ⟨B, 2, none⟩) blt).trans b2; have r3 := (hb2.cell (p := ⟨B, 3, none⟩) blt).trans b3; have r4 := (hb2.cell (p := ⟨B, 4, none⟩) blt).trans b4; rw [HX.out]))
                  have bth2 := there_below ((World.there_drew _ _ _ _).2 bth) hb2 blt
                  have th2 := there_below ((World.there_drew _ _ _ _).2 th) hb2 hz
                  have hB2 := below_then hB.drew hb2
                  have blt2 : B < w2.heap.size := by have := hb2.size; simp at this; omega
                  have hz2 : w.heap.size < w2.heap.size := by have := hb2.size; simp at this; omega
                  have rg : w2.rangeAt b (off + j * 5) (desigC 0 y h (L.S j) (L.C j)) := fun i v hv => by
                    match i, hv with
                    | 0, hv => cases hv; exact p0
                    | 1, hv => cases hv; exact p1
                    | 2, hv => cases hv; exact p2
                    | 3, hv => cases hv; exact p3
                    | 4, hv => cases hv; exact p4
                    | k + 5, hv => simp at hv
                  have bx4 : Box (w2.setCells B 0 (desigC 0 y h (L.S j) (L.C j))) B 0 y h (L.S j) (L.C j) := .of_range (World.rangeAt_setCells_same _ _ _ _ bth2) (World.there_setCells bth2 _ _ _) (Nat.lt_of_lt_of_le blt2 (below_setCells B (Nat.le_refl B) _ 0 w2 (Below.refl B w2)).size)
                  have hB4 : Below w.heap.size w (w2.setCells B 0 (desigC 0 y h (L.S j) (L.C j))) := below_setCells B hBw _ _ _ hB2
                  have th4 : (w2.setCells B 0 (desigC 0 y h (L.S j) (L.C j))).there w.heap.size 0 5 := World.there_setCells th2 _ _ _
                  have hz4 : w.heap.size < (w2.setCells B 0 (desigC 0 y h (L.S j) (L.C j))).heap.size := Nat.lt_of_lt_of_le hz2 (below_setCells B (Nat.le_refl B) _ 0 w2 (Below.refl B w2)).size
                  have f3 := bx4.fr3
                  have f4 := bx4.fr4
                  clear hb2 r0 r1 r2 r3 r4 hB th hz th2 hB2 p0 p1 p2 p3 p4 blt blt' bth b0 b1 b2 b3 b4 q0 q1 q2 q3 q4 hz2 blt2 CC lc
                  by_cases s72 : L.S j = 72
                  · have Fs := Lib.hid (show secP 74 ∧ 0 ≤ L.C j ∧ L.C j ≤ 620 ∧ 25 * L.C j + placeI 74 = nextTo L y h (j + 1) from ⟨by unfold secP; omega, cc1, by omega, by rw [Es.out, s72]; show _ + 8 = _ + 7 + 1; omega⟩)
                    rw [s72] at bx4 rg hB4 th4 hz4 f3 f4
                    go_wp2_with (first | (refine wpList_load_mid rfl _ (.tmp 84) rfl b (off + j * 5) rfl (desigC 0 y h 72 (L.C j)) _ rg Tryd.underlying23 rfl info5d ?_) | (refine wpList_store_mid rfl _ (.tmp 9) (.tmp 85) rfl B 0 _ rfl rfl ?_ info5d ?_ ?_; exact bth2; simp [Value.oneCell']; change wpList _ _ _ _ _ (w2.setCells B 0 (desigC 0 y h 72 (L.C j))); generalize w2.setCells B 0 (desigC 0 y h 72 (L.C j)) = W4 at *; obtain ⟨e0, e1, e2, e3, e4, eth, elt⟩ := bx4))
                    go_roundw
                    case rel => exact ⟨j + 1, 74, L.C j, by omega, by go_num, ((Box.mk e0 e1 e2 e3 e4 eth elt).set3 73).set3 74, Fs, (hB4.setCell (p := ⟨B, 3, none⟩) hBw _).setCell (p := ⟨B, 3, none⟩) hBw _, there_set (there_set th4 _ _) _ _, by simpa [size_set] using hz4⟩
                    case measure => simp [intOf]; omega
                  · by_cases s90 : L.S j = 90
                    · have Fs := Lib.hid (show secP 65 ∧ 0 ≤ L.C j + 1 ∧ L.C j + 1 ≤ 620 ∧ 25 * (L.C j + 1) + placeI 65 = nextTo L y h (j + 1) from ⟨by unfold secP; omega, by omega, by omega, by rw [Es.out, s90]; show _ + 0 = _ + 24 + 1; omega⟩)
                      rw [s90] at bx4 rg hB4 th4 hz4 f3 f4
                      go_wp2_with (first | (refine wpList_load_mid rfl _ (.tmp 84) rfl b (off + j * 5) rfl (desigC 0 y h 90 (L.C j)) _ rg Tryd.underlying23 rfl info5d ?_) | (refine wpList_store_mid rfl _ (.tmp 9) (.tmp 85) rfl B 0 _ rfl rfl ?_ info5d ?_ ?_; exact bth2; simp [Value.oneCell']; change wpList _ _ _ _ _ (w2.setCells B 0 (desigC 0 y h 90 (L.C j))); generalize w2.setCells B 0 (desigC 0 y h 90 (L.C j)) = W4 at *; obtain ⟨e0, e1, e2, e3, e4, eth, elt⟩ := bx4))
                      go_roundw
                      case rel => exact ⟨j + 1, 65, L.C j + 1, by omega, by go_num, (((Box.mk e0 e1 e2 e3 e4 eth elt).set3 91).set3 65).set4 _, Fs, ((hB4.setCell (p := ⟨B, 3, none⟩) hBw _).setCell (p := ⟨B, 3, none⟩) hBw _).setCell (p := ⟨B, 4, none⟩) hBw _, there_set (there_set (there_set th4 _ _) _ _) _ _, by simpa [size_set] using hz4⟩
                      case measure => simp [intOf]; omega
                    · have Fs := Lib.hid (show secP (L.S j + 1) ∧ 0 ≤ L.C j ∧ L.C j ≤ 620 ∧ 25 * L.C j + placeI (L.S j + 1) = nextTo L y h (j + 1) from ⟨by have := Sp.out; unfold secP at this ⊢; omega, cc1, by omega, by rw [Es.out]; have := Sp.out; unfold secP at this; unfold placeI; split <;> split <;> (try split) <;> omega⟩)
                      have n72 : ¬ L.S j + 1 = 73 := by omega
                      have n72' : (L.S j + 1 == 73) = false := beq_eq_false_iff_ne.2 n72
                      have n90 : ¬ 90 < L.S j + 1 := by omega
                      clear s72 s90
                      go_wp2_with (first | (refine wpList_load_mid rfl _ (.tmp 84) rfl b (off + j * 5) rfl (desigC 0 y h (L.S j) (L.C j)) _ rg Tryd.underlying23 rfl info5d ?_) | (refine wpList_store_mid rfl _ (.tmp 9) (.tmp 85) rfl B 0 _ rfl rfl ?_ info5d ?_ ?_; exact bth2; simp [Value.oneCell']; change wpList _ _ _ _ _ (w2.setCells B 0 (desigC 0 y h (L.S j) (L.C j))); generalize w2.setCells B 0 (desigC 0 y h (L.S j) (L.C j)) = W4 at *; obtain ⟨e0, e1, e2, e3, e4, eth, elt⟩ := bx4))
                      go_roundw
                      case rel => exact ⟨j + 1, L.S j + 1, L.C j, by omega, by go_num, (Box.mk e0 e1 e2 e3 e4 eth elt).set3 _, Fs, hB4.setCell (p := ⟨B, 3, none⟩) hBw _, there_set th4 _ _, by simpa [size_set] using hz4⟩
                      case measure => simp [intOf]; omega
              · have d3 : (L.U j != h) = true := bne_iff_ne.2 c3
                rw [if_neg (fun g => c3 g.2.2)] at es
                have Es := Lib.hid es
                clear es
                go_wp2_with fail
                go_quiet (fail)
                go_wp2
                go_roundw
                case rel => exact ⟨j + 1, S, C, by omega, by go_num, bx.drewN _, Lib.hid ⟨I.out.1, I.out.2.1, I.out.2.2.1, I.out.2.2.2.trans Es.out.symm⟩, drewN_below2 hB _, there_drewN th _, by simpa using hz⟩
                case measure => simp [intOf]; omega
            · have d2 : (L.Y j != y) = true := bne_iff_ne.2 c2
              rw [if_neg (fun g => c2 g.2.1)] at es
              have Es := Lib.hid es
              clear es
              go_wp2_with fail
              go_quiet (fail)
              go_wp2
              go_roundw
              case rel => exact ⟨j + 1, S, C, by omega, by go_num, bx.drewN _, Lib.hid ⟨I.out.1, I.out.2.1, I.out.2.2.1, I.out.2.2.2.trans Es.out.symm⟩, drewN_below2 hB _, there_drewN th _, by simpa using hz⟩
              case measure => simp [intOf]; omega
          · have d1 : (0 : Int) < L.N j := by omega
            have d1' : decide (0 < L.N j) = true := by simpa using d1
            rw [if_neg (fun g => c1 g.1)] at es
            have Es := Lib.hid es
            clear es
            go_wp2_with fail
            go_quiet (fail)
            go_wp2
            go_roundw
            case rel => exact ⟨j + 1, S, C, by omega, by go_num, bx.drewN _, Lib.hid ⟨I.out.1, I.out.2.1, I.out.2.2.1, I.out.2.2.2.trans Es.out.symm⟩, drewN_below2 hB _, there_drewN th _, by simpa using hz⟩
            case measure => simp [intOf]; omega
        · obtain rfl : j = k := by omega
          obtain ⟨iS, iC, iC2, iN⟩ := I.out
          have hq := sec_back iS iC
          rw [iN] at hq
          have Hq := Lib.hid hq
          have rg := bx.range
          obtain ⟨b0, b1, b2, b3, b4, bth, blt⟩ := bx
          clear iS iN hq
          by_cases hc : 619 < C
          · go_wp2_with (refine wpList_store_mid rfl _ (.tmp 6) (.tmp 108) rfl w.heap.size 0 _ rfl rfl ?_ info5d ?_ ?_; exact th; simp [Value.oneCell'])
            exact bodyPost_ret (ret_cell_tmp Tryd.results15 _ _ w.heap.size (desigC 0 0 0 0 0) _ rfl (World.rangeAt_setCells_same _ _ _ _ th) Tryd.underlying23 rfl info5d) rfl ⟨0, 0, 0, 0, 0, 16, rfl, Or.inr (Or.inr (Or.inr (Or.inl ⟨⟨y1, y2, Hp.out⟩, hn, Hok.out, by rw [Hq.out.2]; exact hc, rfl, rfl, rfl, rfl, rfl, rfl⟩))), below_setCells _ (Nat.le_refl _) _ _ _ hB⟩
          · go_wp2_with (first | (refine wpList_load_mid rfl _ (.tmp 109) rfl B 0 rfl (desigC 0 y h S C) _ rg Tryd.underlying23 rfl info5d ?_) | (refine wpList_store_mid rfl _ (.tmp 6) (.tmp 109) rfl w.heap.size 0 _ rfl rfl ?_ info5d ?_ ?_; exact th; simp [Value.oneCell']))
            exact bodyPost_ret (ret_cell_tmp Tryd.results15 _ _ w.heap.size (desigC 0 y h S C) _ rfl (World.rangeAt_setCells_same _ _ _ _ th) Tryd.underlying23 rfl info5d) rfl ⟨0, y, h, S, C, 0, rfl, Or.inr (Or.inr (Or.inr (Or.inr ⟨⟨y1, y2, Hp.out⟩, hn, Hok.out, by rw [Hq.out.2]; omega, rfl, rfl, rfl, Hq.out.1.symm, Hq.out.2.symm, rfl⟩))), below_setCells _ (Nat.le_refl _) _ _ _ hB⟩
end Dw
end Go.Proofs.YtdjndoafnoidbaaDoor
