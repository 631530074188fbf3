/-
  The walk of DesigNext, first part: alive, Next, and the variable that is the order before.
-/
import Derived.Test.YtdjndoafnoidbaaDoorDBack
import Derived.Test.YtdjndoafnoidbaaDoorDNext2
import Derived.Test.YtdjndoafnoidbaaDoorDNPl
import Derived.Test.YtdjndoafnoidbaaDoorDWalk3
namespace Go.Proofs.YtdjndoafnoidbaaDoor
namespace Dw
open Go.RowKit Dp Lw

theorem lst_below {w w' : World} {b off n : Nat} {L : Ls} (h : Lst w b off n L) (hb : Below w.heap.size w w') : Lst w' b off n L :=
  ⟨fun k hk => rangeAt_below (h.row k hk) hb h.lt, Nat.lt_of_lt_of_le h.lt hb.size, h.u0, h.u1, h.s0, h.s1⟩
theorem next_law (L : Ls) (x : Option Addr) (n cap : Nat) (y h : Int) (w : World) (hT : Tab w) (hl : n = 0 ∨ ∃ b off, x = some ⟨b, off, none⟩ ∧ Lst w b off n L) (h0 : 0 ≤ h) (h1 : h < 256) (hm : n ≤ 9223372036854775807) :
    Calls Tryd.prog 14 #[.slice x n cap, .int .i64 y, .int .u8 h] w (NextPost L n y h w) := by
  by_cases g : 1800 ≤ y ∧ y ≤ 2099 ∧ halfP h
  · obtain ⟨y1, y2, hp⟩ := g
    rcases hl with rfl | ⟨b, off, rfl, hL⟩
    · exact next_empty L x cap y h w hT h0 h1 y1 y2 hp
    · by_cases hn : n ≤ 1000
      · exact next_list L b off n cap y h w hT hL h0 h1 y1 y2 hp hn
      · exact next_many L _ n cap y h w hT h0 h1 y1 y2 hp (by omega) hm
  · exact next_arg L x n cap y h w hT h0 h1 g
/-- The two designations of the loop, in their blocks. -/
structure NS (w : World) (b1 b2 : Nat) (c1 c2 : List Value) (wr : World) : Prop where
  x1 : Bx b1 c1 wr
  x2 : Bx b2 c2 wr
  below : Below w.heap.size w wr
theorem NS.drewc {w : World} {b1 b2 : Nat} {c1 c2 : List Value} {a c : World} (h : NS w b1 b2 c1 c2 a) (hb : Below a.drew.heap.size a.drew c) : NS w b1 b2 c1 c2 c :=
  ⟨Bx.call (a := a.drew) ⟨h.x1.row, h.x1.lt⟩ hb, Bx.call (a := a.drew) ⟨h.x2.row, h.x2.lt⟩ hb, below_then h.below.drew hb⟩
theorem NS.drewN {w : World} {b1 b2 : Nat} {c1 c2 : List Value} {a : World} (h : NS w b1 b2 c1 c2 a) (n : Nat) : NS w b1 b2 c1 c2 (a.drewN n) := ⟨⟨h.x1.row, h.x1.lt⟩, ⟨h.x2.row, h.x2.lt⟩, drewN_below2 h.below n⟩
theorem next_no {L : Ls} {n : Nat} {y h rn ry rh rs rc k : Int} (i : NextIs L n y h rn ry rh rs rc k) (hn : n ≤ 1000) (hk : k ≠ 0) : rn = 0 ∧ ry = 0 ∧ rh = 0 ∧ rs = 0 ∧ rc = 0 ∧ (k = 2 ∨ k = 8 ∨ k = 16) := by
  rcases i with ⟨_, a1, a2, a3, a4, a5, e⟩ | ⟨_, a, _⟩ | ⟨_, _, _, a1, a2, a3, a4, a5, e⟩ | ⟨_, _, _, _, a1, a2, a3, a4, a5, e⟩ | ⟨_, _, _, _, _, _, _, _, _, e⟩
  · exact ⟨a1, a2, a3, a4, a5, Or.inl e⟩
  · omega
  · exact ⟨a1, a2, a3, a4, a5, Or.inr (Or.inl e)⟩
  · exact ⟨a1, a2, a3, a4, a5, Or.inr (Or.inr e)⟩
  · exact absurd e hk
set_option maxRecDepth 100000 in
set_option maxHeartbeats 16000000 in
theorem dnext_many (x : Option Addr) (n cap : Nat) (y h : Int) (w : World) (hT : Tb w) (hn : 100 < n) :
    Calls Tryd.prog 9 #[.slice x n cap, .int .i64 y, .int .u8 h] w fun e w' => e = .returned (.bool true) ∧ Below w.heap.size w w' := by
  have i1 : (100 : Int) < (n : Int) := by omega
  have HT := Lib.hid hT
  clear hT
  go_enter Tryd.func9, Tryd.ntmps9
  go_wp2_with fail
  refine (alive_any _ HT.out).mono ?_
  rintro e w1 ⟨rfl, hb⟩
  go_wp2_with fail
  go_ret
  exact ⟨rfl, hb⟩
set_option maxRecDepth 100000 in
set_option maxHeartbeats 16000000 in
theorem dnext_few (L : Ls) (x : Option Addr) (n cap : Nat) (y h : Int) (w : World) (hT : Tb w) (hl : n = 0 ∨ ∃ b off, x = some ⟨b, off, none⟩ ∧ Lst w b off n L) (h0 : 0 ≤ h) (h1 : h < 256) (hn : n ≤ 100) :
    Calls Tryd.prog 9 #[.slice x n cap, .int .i64 y, .int .u8 h] w fun e w' => e = .returned (.bool true) ∧ Below w.heap.size w w' := by
  have i1 : ¬ (100 : Int) < (n : Int) := by omega
  have HT := Lib.hid hT
  have hl2 : ∀ w', Below w.heap.size w w' → (n = 0 ∨ ∃ b off, x = some ⟨b, off, none⟩ ∧ Lst w' b off n L) := fun w' hb => by
    rcases hl with h | ⟨b, off, h, hL⟩
    · exact Or.inl h
    · exact Or.inr ⟨b, off, h, lst_below hL hb⟩
  have HL := Lib.hid hl2
  clear hT hl hl2
  go_enter Tryd.func9, Tryd.ntmps9
  go_wp2_with fail
  refine (alive_any _ HT.out).mono ?_
  rintro e w1 ⟨rfl, hb⟩
  have B1 := Lib.hid hb
  clear hb
  go_wp2_with fail
  refine (next_law L x n cap y h w1 (HT.out.below B1.out).ord (HL.out _ B1.out) h0 h1 (by omega)).mono ?_
  rintro e w2 ⟨a1, a2, a3, a4, a5, a6, rfl, ix, hb⟩
  have B2 := Lib.hid (below_then B1.out hb)
  clear hb B1
  by_cases hz : a6 = 0
  · subst hz
    obtain ⟨hok, rfl, e2, e3, hd, hcmp, hlast⟩ := next_facts ix
    obtain rfl := e2.symm
    obtain rfl := e3.symm
    clear e2 e3
    have X0 := Bx.new w2 (desigC 0 y h a4 a5) 23
    have B3 := Lib.hid (B2.out.alloc B2.out.size (.cells (desigC 0 y h a4 a5).toArray 23))
    have ed := errC_ok hd
    have RD := fun w' => rcheck_any 0 y h a4 a5 w'
    rw [ed] at RD
    replace RD := Lib.hid RD
    have FX := Lib.hid (And.intro hok (And.intro hd (And.intro hcmp hlast)))
    clear ix B2 hok hd hcmp hlast ed
    go_wp2_with (refine wpList_store_new rfl _ (.tmp 8) (.tmp 29) rfl _ _ rfl rfl info5d rfl ?_ ?_; simp [Value.oneCell'])
    refine (RD.out _).mono ?_
    rintro e w3 ⟨rfl, hb⟩
    have x0 := X0.call hb
    have B4 := Lib.hid (below_then B3.out hb)
    clear X0 hb B3 RD
    have lt0 := x0.lt
    have q0 := x0.cell 0 _ rfl
    have q1 := x0.cell 1 _ rfl
    have q2 := x0.cell 2 _ rfl
    have q3 := x0.cell 3 _ rfl
    have q4 := x0.cell 4 _ rfl
    have sb : 65 ≤ a4 ∧ a4 ≤ 90 ∧ 0 ≤ a5 ∧ a5 ≤ 619 := by
      have := FX.out.2.1
      unfold okD secP at this
      omega
    obtain ⟨s1, s2, s3, s4⟩ := sb
    have wu : IntKind.u8.wrap (a4 - 1) = a4 - 1 := IntWalk.u8_in _ (by omega)
    have wi : IntKind.i64.wrap (a5 - 1) = a5 - 1 := IntWalk.i64_in _ (by omega)
    have Bb := Bx.new w3 (desigC 0 y h a4 a5) 23
    have B5 := Lib.hid (B4.out.alloc B4.out.size (.cells (desigC 0 y h a4 a5).toArray 23))
    go_upto_if 73 with ((first | (refine wpList_load_mid rfl _ (.tmp 8) rfl w2.heap.size 0 rfl (desigC 0 y h a4 a5) _ x0.row Tryd.underlying23 rfl info5d ?_) | (refine wpList_store_new rfl _ (.tmp 11) (.tmp 66) rfl _ _ rfl rfl info5d rfl ?_ ?_; simp [Value.oneCell'])))
    obtain ⟨t1, ht1⟩ : ∃ t1, t1 = if a4 = 74 then (72 : Int) else a4 - 1 := ⟨_, rfl⟩
    obtain ⟨t2, ht2⟩ : ∃ t2, t2 = bS a4 := ⟨_, rfl⟩
    obtain ⟨t3, ht3⟩ : ∃ t3, t3 = bC a4 a5 := ⟨_, rfl⟩
    replace ht1 := Lib.hid ht1
    replace ht2 := Lib.hid ht2
    replace ht3 := Lib.hid ht3
    go_cut [] (fun wx => wx = w3.alloc (.cells #[.int .i64 0, .int .i64 y, .int .u8 h, .int .u8 t1, .int .i64 a5] 23))
    case first =>
      replace ht1 := ht1.out
      by_cases g : a4 = 74
      · rw [if_pos g] at ht1
        have c1 : (a4 - 1 == 73) = true := by rw [g]; rfl
        have wv : IntKind.u8.wrap (a4 - 1 - 1) = t1 := by rw [ht1, g]; rfl
        clear g ht1
        go_wp2_with fail
        go_meet
        exact rfl
      · rw [if_neg g] at ht1
        have c1 : (a4 - 1 == 73) = false := beq_eq_false_iff_ne.2 (by omega)
        clear g
        subst ht1
        go_wp2_with fail
        go_meet
        exact rfl
    case rest =>
      obtain rfl := hcut
      clear Bb B5
      go_upto_if 80 with (fail)
      go_cut [] (fun wx => wx = w3.alloc (.cells #[.int .i64 0, .int .i64 y, .int .u8 h, .int .u8 t2, .int .i64 t3] 23))
      case first =>
        replace ht1 := ht1.out
        replace ht2 := ht2.out
        replace ht3 := ht3.out
        by_cases g : a4 = 65
        · have c1 : (a4 == 65) = true := by rw [g]; rfl
          have e2 : t2 = 90 := by rw [ht2, g]; rfl
          have e3 : t3 = a5 - 1 := by rw [ht3, g]; rfl
          clear g ht1 ht2 ht3
          subst e2 e3
          go_wp2_with fail
          go_meet
          exact rfl
        · have c1 : (a4 == 65) = false := beq_eq_false_iff_ne.2 g
          have e2 : t2 = t1 := by rw [ht2, ht1]; unfold bS; rw [if_neg g]
          have e3 : t3 = a5 := by rw [ht3]; unfold bC; rw [if_neg g]
          clear g ht1 ht2 ht3
          subst e2 e3
          go_wp2_with fail
          go_meet
          exact rfl
      case rest =>
        obtain rfl := hcut
        have N0 : NS w w2.heap.size w3.heap.size (desigC 0 y h a4 a5) (desigC 0 y h t2 t3) (w3.alloc (.cells (desigC 0 y h t2 t3).toArray 23)) := ⟨x0.alloc _, Bx.new w3 _ _, B4.out.alloc B4.out.size _⟩
        have FL := Lib.hid (show lastB L y h t2 t3 n = true ∨ a4 = 65 ∧ a5 = 0 by rw [ht2.out, ht3.out]; exact FX.out.2.2.2)
        have OK := Lib.hid FX.out.1
        have HD := Lib.hid FX.out.2.1
        have HC := Lib.hid FX.out.2.2.1
        have SB := Lib.hid (show 0 ≤ a4 ∧ a4 < 256 by omega)
        clear FX ht1 ht2 ht3 x0 B4 s1 s2 s3 s4 wu wi
        clear q0 q1 q2 q3 q4 lt0
        generalize w2.heap.size = b1 at *
        generalize w3.heap.size = b2 at *
        generalize w3.alloc (.cells (desigC 0 y h t2 t3).toArray 23) = W at *
        go_wp2_with fail
        go_loopw [10, 12, 13, 14] (fun l i _c _f wr => ∃ k : Nat, k ≤ n ∧ i = .int .i64 k ∧ l = .bool (lastB L y h t2 t3 k) ∧ NS w b1 b2 (desigC 0 y h a4 a5) (desigC 0 y h t2 t3) wr) (fun _ i _ _ _ => n - (intOf i).toNat)
        case atStart => exact ⟨0, Nat.zero_le _, rfl, rfl, N0⟩
        case round =>
          clear N0
          obtain ⟨k, hk, rfl, rfl, N1⟩ := hrel
          by_cases hlt : k < n
          · have i1 : (k : Int) < (n : Int) := by omega
            have ok := OK.out k hlt
            rcases HL.out _ N1.below with hz | ⟨b, off, rfl, hLst⟩
            · omega
            · have blt := hLst.lt
              have hr := hLst.row k hlt
              have p0 := hr 0 _ rfl
              have p1 := hr 1 _ rfl
              have p2 := hr 2 _ rfl
              have p3 := hr 3 _ rfl
              have p4 := hr 4 _ rfl
              rw [Nat.add_zero] at p0
              have nn := okD_bd ok
              have u0 := hLst.s0 k hlt
              have u1 := hLst.s1 k hlt
              have Ok := Lib.hid ok
              clear hr hLst ok
              by_cases c1 : L.N k = 0
              · rw [c1] at p0
                by_cases c2 : L.Y k = y
                · rw [c2] at p1
                  by_cases c3 : L.U k = h
                  · rw [c3] at p2
                    have hx := HC.out k hlt ⟨c1, c2, c3⟩
                    have go := Ok.out
                    unfold okL at go
                    rw [c1, c2, c3] at hx go
                    have LS := Lib.hid (show lastB L y h t2 t3 (k + 1) = (lastB L y h t2 t3 k || decide (L.S k = t2 ∧ L.C k = t3)) by simp only [lastB]; congr 1; exact decide_eq_decide.2 ⟨fun g => g.2, fun g => ⟨⟨c1, c2, c3⟩, g⟩⟩)
                    have CI := Lib.hid (show CmpIs 0 y h (L.S k) (L.C k) 0 y h a4 a5 (cmpR 0 y h (L.S k) (L.C k) 0 y h a4 a5) 0 from Or.inl ⟨go, HD.out, rfl, rfl⟩)
                    clear c1 c2 c3 nn go Ok
                    generalize cmpR 0 y h (L.S k) (L.C k) 0 y h a4 a5 = X at *
                    generalize L.S k = S at *
                    generalize L.C k = C at *
                    have CM := Lib.hid (fun w' ht => Compare_any 0 y h S C 0 y h a4 a5 w' ht h0 h1 u0 u1 h0 h1 SB.out.1 SB.out.2)
                    have r0 := N1.x1.cell 0 _ rfl
                    have r1 := N1.x1.cell 1 _ rfl
                    have r2 := N1.x1.cell 2 _ rfl
                    have r3 := N1.x1.cell 3 _ rfl
                    have r4 := N1.x1.cell 4 _ rfl
                    have blt1 := N1.x1.lt
                    have d1 : decide (0 ≤ X) = false := decide_eq_false (by omega)
                    clear u0 u1
                    go_wp2_with fail
                    go_region_held3 (fun w' => w'.cell? ⟨b, off + k * 5, none⟩ = some (.int .i64 0) ∧ w'.cell? ⟨b, off + k * 5 + 1, none⟩ = some (.int .i64 y) ∧ w'.cell? ⟨b, off + k * 5 + 2, none⟩ = some (.int .u8 h) ∧ w'.cell? ⟨b, off + k * 5 + 3, none⟩ = some (.int .u8 S) ∧ w'.cell? ⟨b, off + k * 5 + 4, none⟩ = some (.int .i64 C) ∧ w'.cell? ⟨b1, 0, none⟩ = some (.int .i64 0) ∧ w'.cell? ⟨b1, 1, none⟩ = some (.int .i64 y) ∧ w'.cell? ⟨b1, 2, none⟩ = some (.int .u8 h) ∧ w'.cell? ⟨b1, 3, none⟩ = some (.int .u8 a4) ∧ w'.cell? ⟨b1, 4, none⟩ = some (.int .i64 a5)) (go_keep) (first | (go_at_call 10; refine (CM.out _ (HT.out.below N1.below.drew).ord).mono ?_; rintro e w4 ⟨v, j, rfl, ci, hb⟩; obtain ⟨rfl, rfl⟩ := ci.uniq CI.out; have N2 := N1.drewc hb; have m0 := (hb.cell (p := ⟨b, off + k * 5, none⟩) blt).trans p0; have m1 := (hb.cell (p := ⟨b, off + k * 5 + 1, none⟩) blt).trans p1; have m2 := (hb.cell (p := ⟨b, off + k * 5 + 2, none⟩) blt).trans p2; have m3 := (hb.cell (p := ⟨b, off + k * 5 + 3, none⟩) blt).trans p3; have m4 := (hb.cell (p := ⟨b, off + k * 5 + 4, none⟩) blt).trans p4; have l0 := (hb.cell (p := ⟨b1, 0, none⟩) blt1).trans r0; have l1 := (hb.cell (p := ⟨b1, 1, none⟩) blt1).trans r1; have l2 := (hb.cell (p := ⟨b1, 2, none⟩) blt1).trans r2; have l3 := (hb.cell (p := ⟨b1, 3, none⟩) blt1).trans r3; have l4 := (hb.cell (p := ⟨b1, 4, none⟩) blt1).trans r4))
                    have z0 := N2.x2.cell 0 _ rfl
                    have z1 := N2.x2.cell 1 _ rfl
                    have z2 := N2.x2.cell 2 _ rfl
                    have z3 := N2.x2.cell 3 _ rfl
                    have z4 := N2.x2.cell 4 _ rfl
                    have N3 := Lib.hid N2
                    clear N1 N2 p0 p1 p2 p3 p4 r0 r1 r2 r3 r4 l0 l1 l2 l3 l4 hb
                    cases hlb : lastB L y h t2 t3 k with
                    | true =>
                      rw [hlb] at LS
                      go_wp2
                      go_quiet (fail)
                      go_wp2
                      go_roundw
                      case rel => exact ⟨k + 1, by omega, by go_num, by rw [LS.out]; rfl, N3.out.drewN _⟩
                      case measure => simp [intOf]; omega
                    | false =>
                      rw [hlb] at LS
                      by_cases e1 : S = t2
                      · by_cases e2 : C = t3
                        · have E := Lib.hid (show lastB L y h t2 t3 (k + 1) = true by rw [LS.out, Bool.false_or]; exact decide_eq_true ⟨e1, e2⟩)
                          subst e1 e2
                          go_wp2
                          go_quiet (fail)
                          go_wp2
                          go_roundw
                          case rel => exact ⟨k + 1, by omega, by go_num, by rw [E.out], N3.out.drewN _⟩
                          case measure => simp [intOf]; omega
                        · have E := Lib.hid (show lastB L y h t2 t3 (k + 1) = false by rw [LS.out, Bool.false_or]; exact decide_eq_false fun g => e2 g.2)
                          have f2 : (C == t3) = false := beq_eq_false_iff_ne.2 e2
                          subst e1
                          clear e2
                          go_wp2
                          go_quiet (fail)
                          go_wp2
                          go_roundw
                          case rel => exact ⟨k + 1, by omega, by go_num, by rw [E.out], N3.out.drewN _⟩
                          case measure => simp [intOf]; omega
                      · have E := Lib.hid (show lastB L y h t2 t3 (k + 1) = false by rw [LS.out, Bool.false_or]; exact decide_eq_false fun g => e1 g.1)
                        have f1 : (S == t2) = false := beq_eq_false_iff_ne.2 e1
                        clear e1
                        go_wp2
                        go_quiet (fail)
                        go_wp2
                        go_roundw
                        case rel => exact ⟨k + 1, by omega, by go_num, by rw [E.out], N3.out.drewN _⟩
                        case measure => simp [intOf]; omega
                  · have c4 : (L.U k == h) = false := beq_eq_false_iff_ne.2 c3
                    have E := Lib.hid (lastB_skip (L := L) (y := y) (h := h) (S := t2) (C := t3) (k := k) fun g => c3 g.2.2)
                    clear c3
                    go_wp2
                    go_roundw
                    case rel => exact ⟨k + 1, by omega, by go_num, by rw [E.out], N1⟩
                    case measure => simp [intOf]; omega
                · have c4 : (L.Y k == y) = false := beq_eq_false_iff_ne.2 c2
                  have E := Lib.hid (lastB_skip (L := L) (y := y) (h := h) (S := t2) (C := t3) (k := k) fun g => c2 g.2.1)
                  clear c2
                  go_wp2
                  go_roundw
                  case rel => exact ⟨k + 1, by omega, by go_num, by rw [E.out], N1⟩
                  case measure => simp [intOf]; omega
              · have c4 : 0 < L.N k := by omega
                have E := Lib.hid (lastB_skip (L := L) (y := y) (h := h) (S := t2) (C := t3) (k := k) fun g => c1 g.1)
                clear c1
                go_wp2
                go_roundw
                case rel => exact ⟨k + 1, by omega, by go_num, by rw [E.out], N1⟩
                case measure => simp [intOf]; omega
          · obtain rfl : k = n := by omega
            have r3 := N1.x1.cell 3 _ rfl
            have r4 := N1.x1.cell 4 _ rfl
            have Z := Lib.hid N1.below
            clear N1
            rcases FL.out with hl | ⟨rfl, rfl⟩
            · rw [hl]
              go_wp2
              go_ret
              exact ⟨rfl, Z.out⟩
            · cases lastB L y h t2 t3 k
              all_goals
                go_wp2
                go_ret
                exact ⟨rfl, Z.out⟩
  · obtain ⟨rfl, rfl, rfl, rfl, rfl, e⟩ := next_no ix (by omega) hz
    have B3 := Lib.hid (B2.out.alloc B2.out.size (.cells (desigC 0 0 0 0 0).toArray 23))
    clear ix B2 hz
    rcases e with rfl | rfl | rfl
    all_goals
      go_wp2_with (refine wpList_store_new rfl _ (.tmp 8) (.tmp 29) rfl _ _ rfl rfl info5d rfl ?_ ?_; simp [Value.oneCell'])
      go_ret
      exact ⟨rfl, B3.out⟩
end Dw
end Go.Proofs.YtdjndoafnoidbaaDoor
