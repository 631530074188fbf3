/-
  Lemmas and walks, texts joined: MAlive, MBack, MRounds, MLeap2, MNames.
-/
import Derived.WalkLawsBesides
import Derived.Test.YtmgehfakcnmdnaaGreatDoorTa08
import Derived.Test.YtmgehfakcnmdnaaGreatDoorTb01
import Derived.Test.YtmgehfakcnmdnaaGreatDoorRows
import Derived.Test.YtmgehfakcnmdnaaGreatDoorTa01
set_option linter.unusedSimpArgs false
set_option linter.unusedVariables false
/-
  The walks of date and alive of the law's package.
-/
namespace Go.Proofs.YtmgehfakcnmdnaaGreatDoor
namespace Wd
open Go.RowKit Lw Go.Proofs.YtmgehfakcnmdnaaGreatDoor.Mp Go.Proofs.YtmgehfakcnmdnaaGreatDoor.Mw Go.Proofs.YtmgehfakcnmdnaaGreatDoor.At Go.Proofs.YtmgehfakcnmdnaaGreatDoor.Ap

def ToPost (t : Int) (w : World) (e : Ending) (w' : World) : Prop := ∃ y m d h i s u c : Int, e = .returned (.tuple #[dateV y m d h i s u, .int .i64 c]) ∧ ToIs t y m d h i s u c ∧ Below w.heap.size w w'
theorem toutc_any (t : Int) (w : World) (h0 : -9223372036854775808 ≤ t) (h1 : t ≤ 9223372036854775807) : Calls Tryz.prog 17 #[.int .i64 t] w (ToPost t w) := by
  by_cases h : t < bgv (-10227) 1972 1 ∨ bgv 36525 2100 1 ≤ t
  · exact (toutc_out t w h0 h1 h).mono fun e w' ⟨he, hb⟩ => ⟨0, 0, 0, 0, 0, 0, 0, 16, he, Or.inl ⟨h, rfl, rfl, rfl, rfl, rfl, rfl, rfl, rfl⟩, hb⟩
  · obtain ⟨n, y, m, z, k, hd⟩ := day_ex t (by omega) (by omega)
    exact (toutc_in t n y m z k w hd (by omega) (by omega)).mono fun e w' ⟨he, hb⟩ => ⟨_, _, _, _, _, _, _, _, he, Or.inr ⟨by omega, by omega, n, z, k, hd, rfl, rfl, rfl, rfl, rfl, rfl⟩, hb⟩
set_option maxRecDepth 100000 in
set_option maxHeartbeats 400000 in
theorem date_any (y m d h i s u : Int) (w : World) :
    Calls Tryz.prog 25 #[.int .i64 y, .int .i64 m, .int .i64 d, .int .i64 h, .int .i64 i, .int .i64 s, .int .i64 u] w fun e w' => e = .returned (dateV y m d h i s u) ∧ Below w.heap.size w w' := by
  have t0 := there_new w (dateC 0 0 0 0 0 0 0).toArray 39 7 (by simp)
  have b0 := (Below.refl w.heap.size w).alloc (Nat.le_refl _) (.cells (dateC 0 0 0 0 0 0 0).toArray 39)
  have T0 := Lib.hid t0
  have B0 := Lib.hid b0
  clear t0 b0
  go_enter Tryz.func25, Tryz.ntmps25
  go_wp2_with (refine wpList_store_mid rfl _ (.tmp 14) (.tmp 22) rfl w.heap.size 0 _ rfl rfl ?_ info7 ?_ ?_; exact T0.out; simp [Value.oneCell'])
  exact bodyPost_ret (ret_cell Tryz.results25 _ _ w.heap.size (dateC y m d h i s u) _ rfl (World.rangeAt_setCells_same _ _ _ _ T0.out) Tryz.underlying39 rfl info7) rfl ⟨rfl, below_setCells _ (Nat.le_refl _) _ _ _ B0.out⟩
def jdF (a : Option Addr) (k c : Nat) (a' : Option Addr) (k' c' : Nat) : List Value := [.bool false, .slice a k c, .bool false, .slice a' k' c']
/-- The boxes of alive. -/
structure AX (w0 : World) (b f g : Nat) (a : Option Addr) (k c : Nat) (a' : Option Addr) (k' c' : Nat) (d1 : Option Addr) (n1 e1 : Nat) (d2 : Option Addr) (n2 e2 : Nat) (w : World) : Prop where
  below : Below w0.heap.size w0 w
  lb : b < w.heap.size
  lf : f < w.heap.size
  lg : g < w.heap.size
  r1 : w.rangeAt b 0 (dateC 2000 1 1 11 58 55 816000)
  r2 : w.rangeAt f 0 (jdF a k c a' k' c')
  r3 : w.rangeAt g 0 (jdF d1 n1 e1 d2 n2 e2)
  m1 : Lim w a k c (canon 4903091)
  m2 : Lim w a' k' c' (canon 2)
  m3 : Lim w d1 n1 e1 (canon 4903091)
  m4 : Lim w d2 n2 e2 (canon 2)
abbrev AXS (w0 : World) (b f g : Nat) (a : Option Addr) (k c : Nat) (a' : Option Addr) (k' c' : Nat) (d1 : Option Addr) (n1 e1 : Nat) (d2 : Option Addr) (n2 e2 : Nat) (w : World) : Prop :=
  w.cell? ⟨b, 0, none⟩ = some (.int .i64 2000) ∧ w.cell? ⟨b, 1, none⟩ = some (.int .i64 1) ∧ w.cell? ⟨b, 2, none⟩ = some (.int .i64 1) ∧ w.cell? ⟨b, 3, none⟩ = some (.int .i64 11) ∧ w.cell? ⟨b, 4, none⟩ = some (.int .i64 58) ∧ w.cell? ⟨b, 5, none⟩ = some (.int .i64 55) ∧ w.cell? ⟨b, 6, none⟩ = some (.int .i64 816000) ∧ w.cell? ⟨f, 0, none⟩ = some (.bool false) ∧ w.cell? ⟨f, 1, none⟩ = some (.slice a k c) ∧ w.cell? ⟨f, 2, none⟩ = some (.bool false) ∧ w.cell? ⟨f, 3, none⟩ = some (.slice a' k' c') ∧ w.cell? ⟨g, 0, none⟩ = some (.bool false) ∧ w.cell? ⟨g, 1, none⟩ = some (.slice d1 n1 e1) ∧ w.cell? ⟨g, 2, none⟩ = some (.bool false) ∧ w.cell? ⟨g, 3, none⟩ = some (.slice d2 n2 e2) ∧ AX w0 b f g a k c a' k' c' d1 n1 e1 d2 n2 e2 w
section
variable {w0 : World} {b f g : Nat} {a d1 a' d2 : Option Addr} {k c k' c' n1 e1 n2 e2 : Nat} {w w' : World}
theorem AX.call (h : AX w0 b f g a k c a' k' c' d1 n1 e1 d2 n2 e2 w) (hb : Below w.heap.size w w') : AX w0 b f g a k c a' k' c' d1 n1 e1 d2 n2 e2 w' :=
  ⟨below_then h.below hb, Nat.lt_of_lt_of_le h.lb hb.size, Nat.lt_of_lt_of_le h.lf hb.size, Nat.lt_of_lt_of_le h.lg hb.size, rangeAt_below h.r1 hb h.lb, rangeAt_below h.r2 hb h.lf, rangeAt_below h.r3 hb h.lg, h.m1.below hb, h.m2.below hb, h.m3.below hb, h.m4.below hb⟩
theorem AX.drew (h : AX w0 b f g a k c a' k' c' d1 n1 e1 d2 n2 e2 w) : AX w0 b f g a k c a' k' c' d1 n1 e1 d2 n2 e2 w.drew := h.call (Below.refl _ _).drew
theorem AX.s (h : AX w0 b f g a k c a' k' c' d1 n1 e1 d2 n2 e2 w) : w.cell? ⟨b, 0, none⟩ = some (.int .i64 2000) ∧ w.cell? ⟨b, 1, none⟩ = some (.int .i64 1) ∧ w.cell? ⟨b, 2, none⟩ = some (.int .i64 1) ∧ w.cell? ⟨b, 3, none⟩ = some (.int .i64 11) ∧ w.cell? ⟨b, 4, none⟩ = some (.int .i64 58) ∧ w.cell? ⟨b, 5, none⟩ = some (.int .i64 55) ∧ w.cell? ⟨b, 6, none⟩ = some (.int .i64 816000) ∧ w.cell? ⟨f, 0, none⟩ = some (.bool false) ∧ w.cell? ⟨f, 1, none⟩ = some (.slice a k c) ∧ w.cell? ⟨f, 2, none⟩ = some (.bool false) ∧ w.cell? ⟨f, 3, none⟩ = some (.slice a' k' c') ∧ w.cell? ⟨g, 0, none⟩ = some (.bool false) ∧ w.cell? ⟨g, 1, none⟩ = some (.slice d1 n1 e1) ∧ w.cell? ⟨g, 2, none⟩ = some (.bool false) ∧ w.cell? ⟨g, 3, none⟩ = some (.slice d2 n2 e2) ∧ AX w0 b f g a k c a' k' c' d1 n1 e1 d2 n2 e2 w :=
  ⟨h.r1 0 _ rfl, h.r1 1 _ rfl, h.r1 2 _ rfl, h.r1 3 _ rfl, h.r1 4 _ rfl, h.r1 5 _ rfl, h.r1 6 _ rfl, h.r2 0 _ rfl, h.r2 1 _ rfl, h.r2 2 _ rfl, h.r2 3 _ rfl, h.r3 0 _ rfl, h.r3 1 _ rfl, h.r3 2 _ rfl, h.r3 3 _ rfl, h⟩
theorem AXS.ax (h : AXS w0 b f g a k c a' k' c' d1 n1 e1 d2 n2 e2 w) : AX w0 b f g a k c a' k' c' d1 n1 e1 d2 n2 e2 w := h.2.2.2.2.2.2.2.2.2.2.2.2.2.2.2
theorem AX.same (h : AX w0 b f g a k c a' k' c' d1 n1 e1 d2 n2 e2 w) : Calls Tryz.prog 15 #[.agg #[.bool false, .slice a k c, .bool false, .slice a' k' c'], .agg #[.bool false, .slice d1 n1 e1, .bool false, .slice d2 n2 e2]] w fun e w' => e = .returned (.bool true) ∧ Below w.heap.size w w' := by
  have SM := rfsame_walk (.agg #[.bool false, .slice a k c, .bool false, .slice a' k' c']) (.agg #[.bool false, .slice d1 n1 e1, .bool false, .slice d2 n2 e2]) ((4903091 : Nat) : Int) ((4903091 : Nat) : Int) 2 2 w
    (FracV.z ⟨a, k, c, a', k', c', rfl, h.m1, h.m2, fun _ _ _ => Nat.zero_le _, fun _ _ _ => Nat.zero_le _⟩)
    (FracV.z ⟨d1, n1, e1, d2, n2, e2, rfl, h.m3, h.m4, fun _ _ _ => Nat.zero_le _, fun _ _ _ => Nat.zero_le _⟩)
  simp only [and_self, decide_true] at SM
  exact SM
end
theorem frac_half : (4903091 : Nat) / Nat.gcd 4903091 2 = 4903091 ∧ (2 : Nat) / Nat.gcd 4903091 2 = 2 := by decide
theorem jd_half : jdC 43200000000 = 0 ∧ jdP 43200000000 = 4903091 ∧ jdQ 43200000000 = 2 := by decide +kernel
set_option maxRecDepth 100000 in
set_option maxHeartbeats 4000000 in
theorem alive_any (w : World) (hT : At.Tab w) : Calls Tryz.prog 16 #[] w fun e w' => e = .returned (.bool true) ∧ Below w.heap.size w w' := by
  have C1 := Lib.hid (fun w' => toutc_any 0 w' (by omega) (by omega))
  have C2 := Lib.hid (fun w' => from_any 2016 12 31 23 59 60 0 w')
  have C3 := Lib.hid (fun w' => parse_any sA w' (by decide))
  have C4 := Lib.hid (fun w' (h : At.Tab w') => At.sday_any 0 3 w' h (by omega) (by omega))
  have C5 := Lib.hid (fun w' => jd_any 43200000000 w' (by omega) (by omega))
  have C6 := Lib.hid (fun w' => rof_walk 4903091 2 w' (by omega) (by omega) (by omega) (by omega))
  rw [frac_half.1, frac_half.2] at C6
  unfold JdOut at C5
  rw [jd_half.1, jd_half.2.1, jd_half.2.2] at C5
  have HT := Lib.hid hT
  clear hT
  go_enter Tryz.func16, Tryz.ntmps16
  go_wp2_with fail
  refine (C1.out _).mono ?_
  rintro e w1 ⟨y, m, d, h, i, s, u, c, rfl, g1, hb1⟩
  obtain ⟨rfl, rfl, rfl, rfl, rfl, rfl, rfl, rfl⟩ := g1.uniq k_to0
  have B1 := hb1.alloc hb1.size (.cells (dateC 2000 1 1 11 58 55 816000).toArray 39)
  have r1 := rangeAt_new w1 (dateC 2000 1 1 11 58 55 816000) 39
  have R1 := Lib.hid r1
  have HB1 := Lib.hid B1
  clear g1 hb1 B1 r1 C1
  go_wp2_with (first | (refine wpList_store_new rfl _ (.tmp 1) (.tmp 15) rfl _ _ rfl rfl info7 rfl ?_ ?_; simp [Value.oneCell']) | (go_at_call 25; refine (date_any _ _ _ _ _ _ _ _).mono ?_; rintro e w2 ⟨rfl, hb2⟩))
  refine (C2.out _).mono ?_
  rintro e w3 ⟨t3, c3, rfl, g3, hb3⟩
  obtain ⟨rfl, rfl⟩ := g3.uniq k_from
  have b23 := below_then hb2 hb3
  have R3 := Lib.hid (rangeAt_below R1.out b23 (by simp))
  have HB3 := Lib.hid (below_then HB1.out b23)
  have sz := b23.size
  simp only [World.size_alloc] at sz
  clear g3 hb2 hb3 b23 C2 R1 HB1
  go_wp2_with fail
  refine (C3.out _).mono ?_
  rintro e w4 ⟨t4, c4, rfl, g4, hb4⟩
  obtain ⟨rfl, rfl⟩ := g4.uniq k_parse
  have R4 := Lib.hid (rangeAt_below R3.out hb4 (by omega))
  have HB4 := Lib.hid (below_then HB3.out hb4)
  have sz4 := hb4.size
  clear g4 hb4 C3 R3 HB3
  go_wp2_with fail
  refine (C4.out _ (HT.out.below HB4.out)).mono ?_
  rintro e w5 ⟨s5, c5, rfl, g5, hb5⟩
  obtain ⟨rfl, rfl⟩ := g5.uniq k_day
  have R5 := Lib.hid (rangeAt_below R4.out hb5 (by omega))
  have HB5 := Lib.hid (below_then HB4.out hb5)
  have sz5 := hb5.size
  clear g5 hb5 C4 R4 HB4 HT
  go_wp2_with fail
  refine (C5.out _).mono ?_
  rintro e w6 ⟨a, k, c, a', k', c', rfl, l1, l2, hb6⟩
  have bA := (Below.refl w6.heap.size w6).alloc (Nat.le_refl _) (.cells (jdF a k c a' k' c').toArray 31)
  have b56 := below_then hb6 bA
  have R6 := Lib.hid (rangeAt_below R5.out b56 (by omega))
  have Q6 := Lib.hid (rangeAt_new w6 (jdF a k c a' k' c') 31)
  have L1 := Lib.hid (l1.below bA)
  have L2 := Lib.hid (l2.below bA)
  have HB6 := Lib.hid (below_then HB5.out b56)
  have sz6 := hb6.size
  clear l1 l2 hb6 bA b56 C5 R5 HB5
  go_wp2_with fail
  refine (C6.out _).mono ?_
  rintro e w7 ⟨V, rfl, ⟨d1, n1, e1, d2, n2, e2, rfl, m1, m2, -, -⟩, hb7⟩
  have bA := (Below.refl w7.heap.size w7).alloc (Nat.le_refl _) (.cells (jdF d1 n1 e1 d2 n2 e2).toArray 31)
  have b67 := below_then hb7 bA
  have sz7 := hb7.size
  simp only [World.size_alloc] at sz7
  have hX : AX w w1.heap.size w6.heap.size w7.heap.size a k c a' k' c' d1 n1 e1 d2 n2 e2 (w7.alloc (.cells #[.bool false, .slice d1 n1 e1, .bool false, .slice d2 n2 e2] 31)) :=
    ⟨below_then HB6.out b67, by simp; omega, by simp; omega, by simp, rangeAt_below R6.out b67 (by simp; omega), rangeAt_below Q6.out b67 (by simp), rangeAt_new w7 (jdF d1 n1 e1 d2 n2 e2) 31, L1.out.below b67, L2.out.below b67, m1.below bA, m2.below bA⟩
  have HX := Lib.hid hX
  clear hX bA b67 m1 m2 hb7 L1 L2 R6 Q6 HB6 C6
  go_wp2_with fail
  generalize w7.alloc (.cells #[.bool false, .slice d1 n1 e1, .bool false, .slice d2 n2 e2] 31) = W7 at *
  have KC := fun w' w2 (h : AXS w w1.heap.size w6.heap.size w7.heap.size a k c a' k' c' d1 n1 e1 d2 n2 e2 w') (hb : Below w'.heap.size w' w2) => h.ax.call hb
  have KS := fun w' (h : AXS w w1.heap.size w6.heap.size w7.heap.size a k c a' k' c' d1 n1 e1 d2 n2 e2 w') => h.ax.same
  have wr : IntKind.i64.wrap 536500869184000 = 536500869184000 := by decide
  have hS := HX.out
  obtain ⟨x1, x2, x3, x4, x5, x6, x7, y1, y2, y3, y4, z1, z2, z3, z4, -⟩ := hS.s
  go_region_held3 (fun w' => w'.cell? ⟨w1.heap.size, 0, none⟩ = some (.int .i64 2000) ∧ w'.cell? ⟨w1.heap.size, 1, none⟩ = some (.int .i64 1) ∧ w'.cell? ⟨w1.heap.size, 2, none⟩ = some (.int .i64 1) ∧ w'.cell? ⟨w1.heap.size, 3, none⟩ = some (.int .i64 11) ∧ w'.cell? ⟨w1.heap.size, 4, none⟩ = some (.int .i64 58) ∧ w'.cell? ⟨w1.heap.size, 5, none⟩ = some (.int .i64 55) ∧ w'.cell? ⟨w1.heap.size, 6, none⟩ = some (.int .i64 816000) ∧ w'.cell? ⟨w6.heap.size, 0, none⟩ = some (.bool false) ∧ w'.cell? ⟨w6.heap.size, 1, none⟩ = some (.slice a k c) ∧ w'.cell? ⟨w6.heap.size, 2, none⟩ = some (.bool false) ∧ w'.cell? ⟨w6.heap.size, 3, none⟩ = some (.slice a' k' c') ∧ w'.cell? ⟨w7.heap.size, 0, none⟩ = some (.bool false) ∧ w'.cell? ⟨w7.heap.size, 1, none⟩ = some (.slice d1 n1 e1) ∧ w'.cell? ⟨w7.heap.size, 2, none⟩ = some (.bool false) ∧ w'.cell? ⟨w7.heap.size, 3, none⟩ = some (.slice d2 n2 e2) ∧ AX w w1.heap.size w6.heap.size w7.heap.size a k c a' k' c' d1 n1 e1 d2 n2 e2 w') (first | exact AX.s hS | exact AX.s (AX.drew hS) | exact AX.s hk2 | exact AX.s hk | exact AX.s (by assumption)) (first | (go_at_call 25; refine (date_any _ _ _ _ _ _ _ _).mono ?_; rintro e w8 ⟨rfl, hb8⟩; have hk := KC _ _ (by assumption) hb8; clear hb8) | (go_at_call 15; refine (KS _ (by assumption)).mono ?_; rintro e w9 ⟨rfl, hb9⟩; have hk2 := KC _ _ (by assumption) hb9; clear hb9))
  go_wp2_with fail
  go_ret
  exact ⟨rfl, hk2.below⟩
end Wd
end Go.Proofs.YtmgehfakcnmdnaaGreatDoor
/-
  The walk of MomentBack: ToUtc and FromUtc are inverse, for any time and date.
-/
namespace Go.Proofs.YtmgehfakcnmdnaaGreatDoor
namespace Wd
open Go.RowKit Lw Go.Proofs.YtmgehfakcnmdnaaGreatDoor.Mp Go.Proofs.YtmgehfakcnmdnaaGreatDoor.Mw Go.Proofs.YtmgehfakcnmdnaaGreatDoor.At Go.Proofs.YtmgehfakcnmdnaaGreatDoor.Ap

theorem tab_back {W : World} (hL : laidMet Tryz.prog Rows.momentBackRow.laid W) : At.Tab W :=
  Lib.tabIs_of_head (rest := []) (t := 180) (e := 65) (n := 20) At.gPow (by kernel_rfl) (by kernel_rfl) (by kernel_rfl) (by kernel_rfl) (by kernel_rfl) (laidMet_tail (laidMet_tail hL))
/-- The date in its box. -/
structure DX (w0 : World) (b : Nat) (y m d h i s u : Int) (w : World) : Prop where
  below : Below w0.heap.size w0 w
  lt : b < w.heap.size
  row : w.rangeAt b 0 (dateC y m d h i s u)
theorem DX.call {w0 w w' : World} {b : Nat} {y m d h i s u : Int} (X : DX w0 b y m d h i s u w) (hb : Below w.heap.size w w') : DX w0 b y m d h i s u w' :=
  ⟨below_then X.below hb, Nat.lt_of_lt_of_le X.lt hb.size, rangeAt_below X.row hb X.lt⟩
theorem DX.new (w : World) (y m d h i s u : Int) : DX w w.heap.size y m d h i s u (w.alloc (.cells (dateC y m d h i s u).toArray 39)) :=
  ⟨(Below.refl w.heap.size w).alloc (Nat.le_refl _) _, by simp, rangeAt_new w _ _⟩
set_option maxRecDepth 100000 in
set_option maxHeartbeats 4000000 in
theorem law_back (t y m d h i s u : Int) (w : World) (hT : At.Tab w) (h0 : -9223372036854775808 ≤ t) (h1 : t ≤ 9223372036854775807) :
    Calls Tryz.prog 4 #[.int .i64 t, dateV y m d h i s u] w fun e w' => e = .returned (.bool true) ∧ Below w.heap.size w w' := by
  have C1 := Lib.hid (fun w' => toutc_any t w' h0 h1)
  have HT := Lib.hid hT
  have X0 := Lib.hid (DX.new w y m d h i s u)
  clear hT
  go_enter Tryz.func4, Tryz.ntmps4
  go_wp2_with fail
  refine (alive_any _ (HT.out.below X0.out.below)).mono ?_
  rintro e w1 ⟨rfl, hb⟩
  have X1 := Lib.hid (X0.out.call hb)
  clear hb X0
  go_wp2_with fail
  refine (C1.out _).mono ?_
  rintro e w2 ⟨a1, a2, a3, a4, a5, a6, a7, c, rfl, g2, hb⟩
  have X2 := X1.out.call hb
  have X3 := Lib.hid (X2.call ((Below.refl _ w2).alloc (Nat.le_refl _) (.cells (dateC a1 a2 a3 a4 a5 a6 a7).toArray 39)))
  have R3 := Lib.hid (rangeAt_new w2 (dateC a1 a2 a3 a4 a5 a6 a7) 39)
  clear hb X1 X2 C1
  rcases g2.code with rfl | ⟨rfl, rfl, rfl, rfl, rfl, rfl, rfl, rfl⟩
  · have G2 := Lib.hid g2.back
    clear g2
    go_wp2_with (first | (refine wpList_load_mid rfl _ (.tmp 6) rfl w2.heap.size 0 rfl (dateC a1 a2 a3 a4 a5 a6 a7) _ R3.out Tryz.underlying39 rfl info7 ?_) | (refine wpList_store_new rfl _ (.tmp 6) (.tmp 18) rfl _ _ rfl rfl info7 rfl ?_ ?_; simp [Value.oneCell']))
    refine (from_any _ _ _ _ _ _ _ _).mono ?_
    rintro e w3 ⟨t3, c3, rfl, g3, hb⟩
    obtain ⟨rfl, rfl⟩ := g3.uniq G2.out
    have X4 := Lib.hid (X3.out.call hb)
    clear hb X3 G2 g3 R3
    go_wp2_with (refine wpList_load_mid rfl _ (.tmp 3) rfl w.heap.size 0 rfl (dateC y m d h i s u) _ X4.out.row Tryz.underlying39 rfl info7 ?_)
    refine (from_any y m d h i s u _).mono ?_
    rintro e w4 ⟨t4, c4, rfl, g4, hb⟩
    have X5 := Lib.hid (X4.out.call hb)
    clear hb X4
    rcases g4.code with rfl | ⟨rfl, rfl⟩
    · have G4 := Lib.hid g4.back
      obtain ⟨q1, q2⟩ := g4.bd
      have C4 := Lib.hid (fun w' => toutc_any t4 w' (by omega) (by omega))
      clear g4 q1 q2
      go_wp2_with fail
      refine (C4.out _).mono ?_
      rintro e w5 ⟨b1, b2, b3, b4, b5, b6, b7, c5, rfl, g5, hb⟩
      obtain ⟨rfl, rfl, rfl, rfl, rfl, rfl, rfl, rfl⟩ := g5.uniq G4.out
      have x6 := X5.out.call hb
      have lt := x6.lt
      have X6 := Lib.hid x6
      have k0 := x6.row 0 _ rfl
      have k1 := x6.row 1 _ rfl
      have k2 := x6.row 2 _ rfl
      have k3 := x6.row 3 _ rfl
      have k4 := x6.row 4 _ rfl
      have k5 := x6.row 5 _ rfl
      have k6 := x6.row 6 _ rfl
      clear hb x6 X5 G4 g5 C4
      go_wp2_with (refine wpList_store_new rfl _ (.tmp 12) (.tmp 53) rfl _ _ rfl rfl info7 rfl ?_ ?_; simp [Value.oneCell'])
      go_ret
      exact ⟨rfl, X6.out.below.alloc X6.out.below.size _⟩
    · clear g4
      go_wp2_with fail
      go_ret
      exact ⟨rfl, X5.out.below⟩
  · clear g2 R3
    go_wp2_with (first | (refine wpList_store_new rfl _ (.tmp 6) (.tmp 18) rfl _ _ rfl rfl info7 rfl ?_ ?_; simp [Value.oneCell']) | (refine wpList_load_mid rfl _ (.tmp 3) rfl w.heap.size 0 rfl (dateC y m d h i s u) _ X3.out.row Tryz.underlying39 rfl info7 ?_))
    refine (from_any y m d h i s u _).mono ?_
    rintro e w4 ⟨t4, c4, rfl, g4, hb⟩
    have X5 := Lib.hid (X3.out.call hb)
    clear hb X3
    rcases g4.code with rfl | ⟨rfl, rfl⟩
    · have G4 := Lib.hid g4.back
      obtain ⟨q1, q2⟩ := g4.bd
      have C4 := Lib.hid (fun w' => toutc_any t4 w' (by omega) (by omega))
      clear g4 q1 q2
      go_wp2_with fail
      refine (C4.out _).mono ?_
      rintro e w5 ⟨b1, b2, b3, b4, b5, b6, b7, c5, rfl, g5, hb⟩
      obtain ⟨rfl, rfl, rfl, rfl, rfl, rfl, rfl, rfl⟩ := g5.uniq G4.out
      have x6 := X5.out.call hb
      have lt := x6.lt
      have X6 := Lib.hid x6
      have k0 := x6.row 0 _ rfl
      have k1 := x6.row 1 _ rfl
      have k2 := x6.row 2 _ rfl
      have k3 := x6.row 3 _ rfl
      have k4 := x6.row 4 _ rfl
      have k5 := x6.row 5 _ rfl
      have k6 := x6.row 6 _ rfl
      clear hb x6 X5 G4 g5 C4
      go_wp2_with (refine wpList_store_new rfl _ (.tmp 12) (.tmp 53) rfl _ _ rfl rfl info7 rfl ?_ ?_; simp [Value.oneCell'])
      go_ret
      exact ⟨rfl, X6.out.below.alloc X6.out.below.size _⟩
    · clear g4
      go_wp2_with fail
      go_ret
      exact ⟨rfl, X5.out.below⟩
end Wd
end Go.Proofs.YtmgehfakcnmdnaaGreatDoor
/-
  The walk of MomentRounds: texts and times correspond, for any time, number of digits and string.
-/
namespace Go.Proofs.YtmgehfakcnmdnaaGreatDoor
namespace Wd
open Go.RowKit Lw Go.Proofs.YtmgehfakcnmdnaaGreatDoor.Mp Go.Proofs.YtmgehfakcnmdnaaGreatDoor.Mw Go.Proofs.YtmgehfakcnmdnaaGreatDoor.At Go.Proofs.YtmgehfakcnmdnaaGreatDoor.Ap

theorem tab_rounds {W : World} (hL : laidMet Tryz.prog Rows.momentRoundsRow.laid W) : At.Tab W :=
  Lib.tabIs_of_head (t := 180) (e := 65) (n := 20) At.gPow (by kernel_rfl) (by kernel_rfl) (by kernel_rfl) (by kernel_rfl) (by kernel_rfl) (laidMet_tail (laidMet_tail hL))
theorem textIs_bd {t d : Int} {s : ByteArray} (a : TextIs t d s 0) : -1000000000000000 ≤ t ∧ t ≤ 4000000000000000 := by
  rcases a with ⟨_, _, c⟩ | ⟨_, _, _, _, c⟩ | ⟨_, _, _, _, n, y, m, z, k, hd, _, _⟩
  · omega
  · omega
  · exact hd.bd
theorem dayIs_bd {t d : Int} {s : ByteArray} (a : DayIs t d s 0) : -1000000000000000 ≤ t ∧ t ≤ 4000000000000000 := by
  rcases a with ⟨_, _, c⟩ | ⟨_, _, _, _, c⟩ | ⟨_, _, _, _, n, y, m, z, k, hd, _, _⟩
  · omega
  · omega
  · exact hd.bd
theorem text_day_code {t : Int} {n : Nat} {s v : ByteArray} {c c' : Int} (hn : n ≤ 6) (a : TextIs t n s c) (b : DayIs t n v c') : c' = c ∧ (c = 0 ∨ c = 16) := by
  rcases a with ⟨_, _, c1⟩ | ⟨_, _, c0, _, c1⟩ | ⟨_, _, c2, c3, _, _, _, _, _, _, _, c1⟩ <;> rcases b with ⟨_, _, e1⟩ | ⟨_, _, e0, _, e1⟩ | ⟨_, _, e2, e3, _, _, _, _, _, _, _, e1⟩ <;> omega
theorem parseIs_code {s : ByteArray} {t c : Int} (a : ParseIs s t c) : c = 0 ∨ c = 12 := by
  rcases a with ⟨_, _, c⟩ | ⟨_, _, c⟩
  · exact Or.inl c
  · exact Or.inr c
theorem pdayIs_code {s : ByteArray} {t c : Int} (a : PDayIs s t c) : c = 0 ∨ c = 12 := by
  rcases a with ⟨_, _, c⟩ | ⟨_, _, c⟩
  · exact Or.inl c
  · exact Or.inr c
/-- The table, and what was there before. -/
structure TB (w0 w : World) : Prop where
  tab : At.Tab w
  below : Below w0.heap.size w0 w
theorem TB.call {w0 w w' : World} (h : TB w0 w) (hb : Below w.heap.size w w') : TB w0 w' := ⟨h.tab.below hb, below_then h.below hb⟩
theorem unit_step {n k : Nat} (h : k < n) (hn : n ≤ 6) : tenI (6 - k) / 10 = tenI (6 - (k + 1)) := by
  rw [show 6 - k = (6 - (k + 1)) + 1 by omega, tenI_s]
  exact Int.mul_ediv_cancel _ (by decide)
set_option maxRecDepth 100000 in
set_option maxHeartbeats 8000000 in
theorem law_rounds (t d : Int) (s : ByteArray) (w : World) (hT : At.Tab w) (h0 : -9223372036854775808 ≤ t) (h1 : t ≤ 9223372036854775807) (d0 : 0 ≤ d) (d1 : d ≤ 255) (hm : s.size ≤ maxLen) :
    Calls Tryz.prog 7 #[.int .i64 t, .int .u8 d, .string s] w fun e w' => e = .returned (.bool true) ∧ Below w.heap.size w w' := by
  have HT := Lib.hid (TB.mk hT (Below.refl w.heap.size w))
  unfold maxLen at hm
  obtain ⟨n, n6, en⟩ : ∃ n : Nat, n ≤ 6 ∧ d % 7 = n := ⟨(d % 7).toNat, by omega, by omega⟩
  have C1 := Lib.hid (fun w' (h : At.Tab w') => At.text_any t n w' h h0 h1)
  have C2 := Lib.hid (fun w' (h : At.Tab w') => At.sday_any t n w' h h0 h1)
  clear hT h0 h1
  by_cases h100 : s.size ≤ 100
  · have k100 : (s.size : Int) ≤ 100 := by omega
    go_enter Tryz.func7, Tryz.ntmps7
    go_wp2_with fail
    refine (alive_any _ HT.out.tab).mono ?_
    rintro e w1 ⟨rfl, hb⟩
    have T1 := Lib.hid (HT.out.call hb)
    clear hb HT
    go_wp2_with fail
    refine (C1.out _ T1.out.tab).mono ?_
    rintro e w2 ⟨x, c, rfl, g2, hb⟩
    have T2 := Lib.hid (T1.out.call hb)
    clear hb T1 C1
    go_wp2_with fail
    refine (C2.out _ T2.out.tab).mono ?_
    rintro e w3 ⟨x', c', rfl, g3, hb⟩
    have T3 := Lib.hid (T2.out.call hb)
    clear hb T2
    obtain ⟨rfl, cc⟩ := text_day_code n6 g2 g3
    have CC := Lib.hid cc
    clear cc en d0 d1
    go_upto_if 56 with (fail)
    go_cut [] (fun wx => TB w wx)
    case first =>
      rcases CC.out with rfl | rfl
      · obtain ⟨v, pv, v1, v2, sz⟩ := text_parse g2
        obtain ⟨b, pb, b1, db, sz2⟩ := day_parse g3
        obtain ⟨q1, q2⟩ := textIs_bd g2
        obtain ⟨q3, q4⟩ := dayIs_bd db
        obtain ⟨q5, q6⟩ := textIs_bd (parse_text pv).1
        rw [Int.toNat_natCast] at v2
        have C3 := Lib.hid (fun w' => parse_any x w' (by omega))
        have C4 := Lib.hid (fun w' => pday_any x' w' (by omega))
        have C5 := Lib.hid (fun w' (h : At.Tab w') => At.sday_any b n w' h (by omega) (by omega))
        have PV := Lib.hid pv
        have PB := Lib.hid pb
        have DB := Lib.hid db
        have V2 := Lib.hid v2
        clear g2 g3 CC pv pb db v2 k100 h100 hm C2 q3 q4
        go_wp2_with fail
        refine (C3.out _).mono ?_
        rintro e w4 ⟨v', c4, rfl, g4, hb⟩
        obtain ⟨rfl, rfl⟩ := g4.uniq PV.out
        have T4 := Lib.hid (T3.out.call hb)
        clear hb g4 PV C3 T3
        go_wp2_with fail
        refine (C4.out _).mono ?_
        rintro e w5 ⟨b', c5, rfl, g5, hb⟩
        obtain ⟨rfl, rfl⟩ := g5.uniq PB.out
        have T5 := Lib.hid (T4.out.call hb)
        clear hb g5 PB C4 T4
        go_wp2_with fail
        go_loop [17, 18] (fun a i => ∃ k : Nat, k ≤ n ∧ i = .int .i64 k ∧ a = .int .i64 (tenI (6 - k))) (fun _ i => n - (intOf i).toNat)
        case atStart => exact ⟨0, Nat.zero_le _, rfl, rfl⟩
        case round =>
          obtain ⟨k, hk, rfl, rfl⟩ := hrel
          by_cases hlt : k < n
          · have us := Lib.hid (unit_step hlt n6)
            have tb := tenI_17 (6 - k) (by omega)
            have i1 : (k : Int) < (n : Int) := by omega
            clear q1 q2 q5 q6 v1 b1 V2
            generalize tenI (6 - k) = U at *
            go_wp2_with fail
            go_round
            case rel => exact ⟨k + 1, by omega, by go_num, by rw [← us.out]⟩
            case measure => simp [intOf]; omega
          · obtain rfl : k = n := by omega
            have v2 := V2.out
            have tb := tenI_17 (6 - k) (by omega)
            generalize tenI (6 - k) = U at *
            have e1 : IntKind.i64.wrap (t - v') = t - v' := IntWalk.i64_in _ (by omega)
            go_wp2_with fail
            refine (C5.out _ T5.out.tab).mono ?_
            rintro e w6 ⟨x6, c6, rfl, g6, hb⟩
            obtain ⟨rfl, rfl⟩ := g6.uniq DB.out
            have T6 := Lib.hid (T5.out.call hb)
            clear hb g6 DB C5 T5
            go_wp2_with fail
            go_meet
            exact T6.out
      · clear g2 g3 CC C2
        go_wp2_with fail
        go_meet
        exact T3.out
    case rest =>
      clear T3 C2 g2 g3
      have T4 := Lib.hid hcut
      clear hcut
      go_wp2_with fail
      refine (parse_any s _ h100).mono ?_
      rintro e w4 ⟨v, c4, rfl, g4, hb⟩
      have T5 := Lib.hid (T4.out.call hb)
      clear hb T4
      have G4 := Lib.hid g4
      have C4 := Lib.hid (parseIs_code g4)
      clear g4
      go_upto_if 120 with (fail)
      go_cut [] (fun wx => TB w wx)
      case first =>
        rcases C4.out with rfl | rfl
        · obtain ⟨gt, sz⟩ := parse_text G4.out
          obtain ⟨q1, q2⟩ := textIs_bd gt
          have GT := Lib.hid (show TextIs v (max 0 ((s.size : Int) - 21)) s 0 by rw [Int.max_def]; exact gt)
          have C5 := Lib.hid (fun w' (h : At.Tab w') => At.text_any v (max 0 ((s.size : Int) - 21)) w' h (by omega) (by omega))
          clear gt G4 C4 q1 q2
          go_wp2_with fail
          refine (C5.out _ T5.out.tab).mono ?_
          rintro e w6 ⟨x6, c6, rfl, g6, hb⟩
          obtain ⟨rfl, rfl⟩ := g6.uniq GT.out
          have T6 := Lib.hid (T5.out.call hb)
          clear hb g6 GT C5 T5
          go_wp2_with fail
          go_meet
          exact T6.out
        · clear G4 C4
          go_wp2_with fail
          go_meet
          exact T5.out
      case rest =>
        clear T5 G4 C4
        have T4 := Lib.hid hcut
        clear hcut
        go_wp2_with fail
        refine (pday_any s _ h100).mono ?_
        rintro e w5 ⟨v5, c5, rfl, g4, hb⟩
        have T5 := Lib.hid (T4.out.call hb)
        clear hb T4
        have G4 := Lib.hid g4
        have C4 := Lib.hid (pdayIs_code g4)
        clear g4
        go_upto_if 144 with (fail)
        go_cut [] (fun wx => TB w wx)
        case first =>
          rcases C4.out with rfl | rfl
          · obtain ⟨gt, sz⟩ := parse_day G4.out
            obtain ⟨q1, q2⟩ := dayIs_bd gt
            have GT := Lib.hid (show DayIs v5 (max 0 ((s.size : Int) - 11)) s 0 by rw [Int.max_def]; exact gt)
            have C5 := Lib.hid (fun w' (h : At.Tab w') => At.sday_any v5 (max 0 ((s.size : Int) - 11)) w' h (by omega) (by omega))
            clear gt G4 C4 q1 q2
            go_wp2_with fail
            refine (C5.out _ T5.out.tab).mono ?_
            rintro e w6 ⟨x6, c6, rfl, g6, hb⟩
            obtain ⟨rfl, rfl⟩ := g6.uniq GT.out
            have T6 := Lib.hid (T5.out.call hb)
            clear hb g6 GT C5 T5
            go_wp2_with fail
            go_meet
            exact T6.out
          · clear G4 C4
            go_wp2_with fail
            go_meet
            exact T5.out
        case rest =>
          rcases CC.out with rfl | rfl
          all_goals
            clear CC T5 G4 C4
            have T4 := Lib.hid hcut
            clear hcut
            go_wp2_with fail
            go_ret
            exact ⟨rfl, T4.out.below⟩
  · have k100 : 100 < (s.size : Int) := by omega
    clear en d0 d1
    go_enter Tryz.func7, Tryz.ntmps7
    go_wp2_with fail
    refine (alive_any _ HT.out.tab).mono ?_
    rintro e w1 ⟨rfl, hb⟩
    have T1 := Lib.hid (HT.out.call hb)
    clear hb HT
    go_wp2_with fail
    go_ret
    exact ⟨rfl, T1.out.below⟩
end Wd
end Go.Proofs.YtmgehfakcnmdnaaGreatDoor
/-
  The walk of Leap of the program.
-/
namespace Go.Proofs.YtmgehfakcnmdnaaGreatDoor
namespace Mw
open Go.RowKit Go.Proofs.YtmgehfakcnmdnaaGreatDoor.Mp Lw

/-- What Leap returns: the leap seconds, and the error. -/
def LeapIs (y m t e : Int) : Prop := ((m < 1 ∨ 12 < m) ∧ t = 0 ∧ e = 2) ∨ (1 ≤ m ∧ m ≤ 12 ∧ (y < 1972 ∨ 2099 < y) ∧ t = 0 ∧ e = 16) ∨ (1 ≤ m ∧ m ≤ 12 ∧ 1972 ≤ y ∧ y ≤ 2099 ∧ t = lps (12 * y + m - 1) ∧ e = 0)
theorem LeapIs.uniq {y m t e t' e' : Int} (a : LeapIs y m t e) (b : LeapIs y m t' e') : t = t' ∧ e = e' := by unfold LeapIs at a b; omega
def LeapPost (y m : Int) (w : World) (e : Ending) (w' : World) : Prop := ∃ t c : Int, e = .returned (.tuple #[.int .i64 t, .int .i64 c]) ∧ LeapIs y m t c ∧ Below w.heap.size w w'
set_option maxRecDepth 100000 in
set_option maxHeartbeats 1000000 in
theorem Leap_any (y m : Int) (w : World) : Calls Tryz.prog 26 #[.int .i64 y, .int .i64 m] w (LeapPost y m w) := by
  go_enter Tryz.func26, Tryz.ntmps26
  go_wp2_with (go_at_call 59; refine (leap_any _ _).mono ?_; rintro e w1 ⟨rfl, hb⟩)
  all_goals go_ret2
  all_goals first
    | exact ⟨_, _, rfl, Or.inr (Or.inr ⟨by omega, by omega, by omega, by omega, rfl, rfl⟩), hb⟩
    | exact ⟨0, 2, rfl, Or.inl ⟨by omega, rfl, rfl⟩, Below.refl _ _⟩
    | exact ⟨0, 16, rfl, Or.inr (Or.inl ⟨by omega, by omega, by omega, rfl, rfl⟩), Below.refl _ _⟩
end Mw
end Go.Proofs.YtmgehfakcnmdnaaGreatDoor
/-
  The walk of MomentNames: the limits and errors.
-/
namespace Go.Proofs.YtmgehfakcnmdnaaGreatDoor
namespace Wd
open Go.RowKit Lw Go.Proofs.YtmgehfakcnmdnaaGreatDoor.Mp Go.Proofs.YtmgehfakcnmdnaaGreatDoor.Mw Go.Proofs.YtmgehfakcnmdnaaGreatDoor.At Go.Proofs.YtmgehfakcnmdnaaGreatDoor.Ap

theorem tab_names {W : World} (hL : laidMet Tryz.prog Rows.momentNamesRow.laid W) : At.Tab W :=
  Lib.tabIs_of_head (t := 180) (e := 65) (n := 20) At.gPow (by kernel_rfl) (by kernel_rfl) (by kernel_rfl) (by kernel_rfl) (by kernel_rfl) (laidMet_tail (laidMet_tail hL))
def fstT : Int := timeOf 1972 1 1 0 0 0 0
theorem fst_bd : -1000000000000000 ≤ fstT ∧ fstT ≤ 4000000000000000 := by decide +kernel
theorem kk1 : LeapIs 1972 1 10 0 := Or.inr (Or.inr ⟨by omega, by omega, by omega, by omega, by decide +kernel, rfl⟩)
theorem kk2 : LeapIs 1972 7 11 0 := Or.inr (Or.inr ⟨by omega, by omega, by omega, by omega, by decide +kernel, rfl⟩)
theorem kk3 : LeapIs 2099 12 37 0 := Or.inr (Or.inr ⟨by omega, by omega, by omega, by omega, by decide +kernel, rfl⟩)
theorem kk4 : LeapIs 1971 12 0 16 := Or.inr (Or.inl ⟨by omega, by omega, by omega, rfl, rfl⟩)
theorem kk5 : LeapIs 1971 13 0 2 := Or.inl ⟨by omega, rfl, rfl⟩
theorem kk6 : FromIs 2015 12 31 23 59 60 0 0 2 := from_n (by decide +kernel)
theorem kk7 : FromIs 2015 6 30 23 59 60 999999 (timeOf 2015 6 30 23 59 60 999999) 0 := from_k _ (by decide +kernel) rfl
theorem kk8 : FromIs 2100 1 1 0 0 0 0 0 2 := from_n (by decide +kernel)
theorem kk9 : FromIs 2000 2 29 0 0 0 0 (timeOf 2000 2 29 0 0 0 0) 0 := from_k _ (by decide +kernel) rfl
theorem kk10 : FromIs 1999 2 29 0 0 0 0 0 2 := from_n (by decide +kernel)
theorem kk11 : FromIs 1972 1 1 0 0 0 0 fstT 0 := from_k _ (by decide +kernel) rfl
theorem kk12 : ToIs (fstT - 1) 0 0 0 0 0 0 0 16 := to_n (Or.inl (by decide +kernel))
theorem kk13 : TextIs 0 7 ⟨#[]⟩ 2 := Or.inl ⟨by omega, rfl, rfl⟩
theorem kk14 : DayIs 0 10 ⟨#[]⟩ 2 := Or.inl ⟨by omega, rfl, rfl⟩
theorem kk15 : TextIs 536500868184000 2 ⟨#[50, 48, 49, 54, 45, 49, 50, 45, 51, 49, 84, 50, 51, 58, 53, 57, 58, 54, 48, 46, 48, 48, 90]⟩ 0 := text_k (dd := 2) (by decide) (y := 2016) (m := 12) (d := 31) (h := 23) (i := 59) (s := 60) (u := 0) (by decide +kernel) (by decide +kernel) (by decide +kernel)
theorem kk16 : ParseIs ⟨#[50, 48, 49, 54, 45, 49, 50, 45, 51, 49, 84, 50, 51, 58, 53, 57, 58, 54, 49, 90]⟩ 0 12 := parse_n (by decide +kernel)
theorem kk17 : ParseIs ⟨#[50, 48, 49, 54, 45, 49, 50, 45, 51, 49, 84, 50, 51, 58, 53, 57, 58, 53, 57, 46, 90]⟩ 0 12 := parse_n (by decide +kernel)
theorem kk18 : PDayIs ⟨#[50, 48, 49, 54, 32, 49, 51, 32, 48, 49]⟩ 0 12 := pday_n (by decide +kernel)
theorem kk19 : PDayIs ⟨#[50, 48, 48, 48, 32, 48, 49, 32, 48, 49, 46, 53]⟩ 64184000 0 := pday_k (by decide +kernel) (by decide +kernel)
set_option maxRecDepth 100000 in
set_option maxHeartbeats 32000000 in
theorem law_names (w : World) (hT : At.Tab w) : Calls Tryz.prog 8 #[] w fun e w' => e = .returned (.bool true) ∧ Below w.heap.size w w' := by
  have T0 := Lib.hid (TB.mk hT (Below.refl w.heap.size w))
  have FB := fst_bd
  have CT := Lib.hid (fun w' => toutc_any (fstT - 1) w' (by omega) (by omega))
  have kk := Lib.hid (show FromIs 1972 1 1 0 0 0 0 fstT 0 ∧ ToIs (fstT - 1) 0 0 0 0 0 0 0 16 from ⟨kk11, kk12⟩)
  generalize fstT = fs at *
  have TX := Lib.hid (fun w' (h : At.Tab w') => At.text_any 0 7 w' h (by omega) (by omega))
  have TX2 := Lib.hid (fun w' (h : At.Tab w') => At.text_any 536500868184000 2 w' h (by omega) (by omega))
  have DX := Lib.hid (fun w' (h : At.Tab w') => At.sday_any 0 10 w' h (by omega) (by omega))
  have JX := Lib.hid (fun w' => jd_any 5000000000000001 w' (by omega) (by omega))
  clear hT
  go_enter Tryz.func8, Tryz.ntmps8
  go_wp2_with fail
  refine (Leap_any 1972 1 _).mono ?_
  rintro e w0 ⟨a1, c1, rfl, g, hb⟩
  obtain ⟨rfl, rfl⟩ := g.uniq kk1
  have T1 := Lib.hid (T0.out.call hb)
  clear g hb T0
  go_wp2_with fail
  refine (Leap_any 1972 7 _).mono ?_
  rintro e w1 ⟨a1, c1, rfl, g, hb⟩
  obtain ⟨rfl, rfl⟩ := g.uniq kk2
  have T2 := Lib.hid (T1.out.call hb)
  clear g hb T1
  go_wp2_with fail
  refine (Leap_any 2099 12 _).mono ?_
  rintro e w2 ⟨a1, c1, rfl, g, hb⟩
  obtain ⟨rfl, rfl⟩ := g.uniq kk3
  have T3 := Lib.hid (T2.out.call hb)
  clear g hb T2
  go_wp2_with fail
  refine (Leap_any 1971 12 _).mono ?_
  rintro e w3 ⟨a1, c1, rfl, g, hb⟩
  obtain ⟨rfl, rfl⟩ := g.uniq kk4
  have T4 := Lib.hid (T3.out.call hb)
  clear g hb T3
  go_wp2_with fail
  refine (Leap_any 1971 13 _).mono ?_
  rintro e w4 ⟨a1, c1, rfl, g, hb⟩
  obtain ⟨rfl, rfl⟩ := g.uniq kk5
  have T5 := Lib.hid (T4.out.call hb)
  clear g hb T4
  go_wp2_with fail
  refine (date_any 2015 12 31 23 59 60 0 _).mono ?_
  rintro e v5 ⟨rfl, hb⟩
  have T6 := Lib.hid (T5.out.call hb)
  clear hb T5
  go_wp2_with fail
  refine (from_any 2015 12 31 23 59 60 0 _).mono ?_
  rintro e w6 ⟨a1, c1, rfl, g, hb⟩
  obtain ⟨rfl, rfl⟩ := g.uniq kk6
  have T7 := Lib.hid (T6.out.call hb)
  clear g hb T6
  go_wp2_with fail
  refine (date_any 2015 6 30 23 59 60 999999 _).mono ?_
  rintro e v7 ⟨rfl, hb⟩
  have T8 := Lib.hid (T7.out.call hb)
  clear hb T7
  go_wp2_with fail
  refine (from_any 2015 6 30 23 59 60 999999 _).mono ?_
  rintro e w8 ⟨a1, c1, rfl, g, hb⟩
  obtain ⟨rfl, rfl⟩ := g.uniq kk7
  have T9 := Lib.hid (T8.out.call hb)
  clear g hb T8
  go_wp2_with fail
  refine (date_any 2100 1 1 0 0 0 0 _).mono ?_
  rintro e v9 ⟨rfl, hb⟩
  have T10 := Lib.hid (T9.out.call hb)
  clear hb T9
  go_wp2_with fail
  refine (from_any 2100 1 1 0 0 0 0 _).mono ?_
  rintro e w10 ⟨a1, c1, rfl, g, hb⟩
  obtain ⟨rfl, rfl⟩ := g.uniq kk8
  have T11 := Lib.hid (T10.out.call hb)
  clear g hb T10
  go_wp2_with fail
  refine (date_any 2000 2 29 0 0 0 0 _).mono ?_
  rintro e v11 ⟨rfl, hb⟩
  have T12 := Lib.hid (T11.out.call hb)
  clear hb T11
  go_wp2_with fail
  refine (from_any 2000 2 29 0 0 0 0 _).mono ?_
  rintro e w12 ⟨a1, c1, rfl, g, hb⟩
  obtain ⟨rfl, rfl⟩ := g.uniq kk9
  have T13 := Lib.hid (T12.out.call hb)
  clear g hb T12
  go_wp2_with fail
  refine (date_any 1999 2 29 0 0 0 0 _).mono ?_
  rintro e v13 ⟨rfl, hb⟩
  have T14 := Lib.hid (T13.out.call hb)
  clear hb T13
  go_wp2_with fail
  refine (from_any 1999 2 29 0 0 0 0 _).mono ?_
  rintro e w14 ⟨a1, c1, rfl, g, hb⟩
  obtain ⟨rfl, rfl⟩ := g.uniq kk10
  have T15 := Lib.hid (T14.out.call hb)
  clear g hb T14
  go_wp2_with fail
  refine (date_any 1972 1 1 0 0 0 0 _).mono ?_
  rintro e v15 ⟨rfl, hb⟩
  have T16 := Lib.hid (T15.out.call hb)
  clear hb T15
  go_wp2_with fail
  refine (from_any 1972 1 1 0 0 0 0 _).mono ?_
  rintro e w16 ⟨a1, c1, rfl, g, hb⟩
  obtain ⟨rfl, rfl⟩ := g.uniq kk.out.1
  have T17 := Lib.hid (T16.out.call hb)
  clear g hb T16
  have wf : IntKind.i64.wrap (a1 - 1) = a1 - 1 := IntWalk.i64_in _ (by omega)
  go_wp2_with fail
  refine (CT.out _).mono ?_
  rintro e w17 ⟨y1, y2, y3, y4, y5, y6, y7, c1, rfl, g, hb⟩
  obtain ⟨rfl, rfl, rfl, rfl, rfl, rfl, rfl, rfl⟩ := g.uniq kk.out.2
  have T18 := Lib.hid ((T17.out.call hb).call ((Below.refl _ w17).alloc (Nat.le_refl _) (.cells (dateC 0 0 0 0 0 0 0).toArray 39)))
  clear g hb T17 wf CT kk FB
  go_wp2_with (refine wpList_store_new rfl _ (.tmp 23) (.tmp 96) rfl _ _ rfl rfl info7 rfl ?_ ?_; simp [Value.oneCell'])
  refine (TX.out _ T18.out.tab).mono ?_
  rintro e w18 ⟨s18, c1, rfl, g, hb⟩
  obtain ⟨rfl, rfl⟩ := g.uniq kk13
  have T19 := Lib.hid (T18.out.call hb)
  clear g hb T18 TX
  go_wp2_with fail
  refine (DX.out _ T19.out.tab).mono ?_
  rintro e w19 ⟨s19, c1, rfl, g, hb⟩
  obtain ⟨rfl, rfl⟩ := g.uniq kk14
  have T20 := Lib.hid (T19.out.call hb)
  clear g hb T19 DX
  go_wp2_with fail
  refine (TX2.out _ T20.out.tab).mono ?_
  rintro e w20 ⟨s20, c1, rfl, g, hb⟩
  obtain ⟨rfl, rfl⟩ := g.uniq kk15
  have T21 := Lib.hid (T20.out.call hb)
  clear g hb T20 TX2
  go_wp2_with fail
  refine (parse_any ⟨#[50, 48, 49, 54, 45, 49, 50, 45, 51, 49, 84, 50, 51, 58, 53, 57, 58, 54, 49, 90]⟩ _ (by decide)).mono ?_
  rintro e w21 ⟨a1, c1, rfl, g, hb⟩
  obtain ⟨rfl, rfl⟩ := g.uniq kk16
  have T22 := Lib.hid (T21.out.call hb)
  clear g hb T21
  go_wp2_with fail
  refine (parse_any ⟨#[50, 48, 49, 54, 45, 49, 50, 45, 51, 49, 84, 50, 51, 58, 53, 57, 58, 53, 57, 46, 90]⟩ _ (by decide)).mono ?_
  rintro e w22 ⟨a1, c1, rfl, g, hb⟩
  obtain ⟨rfl, rfl⟩ := g.uniq kk17
  have T23 := Lib.hid (T22.out.call hb)
  clear g hb T22
  go_wp2_with fail
  refine (pday_any ⟨#[50, 48, 49, 54, 32, 49, 51, 32, 48, 49]⟩ _ (by decide)).mono ?_
  rintro e w23 ⟨a1, c1, rfl, g, hb⟩
  obtain ⟨rfl, rfl⟩ := g.uniq kk18
  have T24 := Lib.hid (T23.out.call hb)
  clear g hb T23
  go_wp2_with fail
  refine (pday_any ⟨#[50, 48, 48, 48, 32, 48, 49, 32, 48, 49, 46, 53]⟩ _ (by decide)).mono ?_
  rintro e w24 ⟨a1, c1, rfl, g, hb⟩
  obtain ⟨rfl, rfl⟩ := g.uniq kk19
  have T25 := Lib.hid (T24.out.call hb)
  clear g hb T24
  go_wp2_with fail
  refine (JX.out _).mono ?_
  rintro e w25 ⟨b1, k1, c1, b2, k2, c2, rfl, -, -, hb⟩
  rw [show jdC 5000000000000001 = 16 by decide]
  have T26 := Lib.hid ((T25.out.call hb).call ((Below.refl _ w25).alloc (Nat.le_refl _) (.cells #[.bool false, .slice b1 k1 c1, .bool false, .slice b2 k2 c2] 31)))
  clear hb T25 JX
  go_wp2_with fail
  refine (alive_any _ T26.out.tab).mono ?_
  rintro e w26 ⟨rfl, hb⟩
  have T27 := Lib.hid (T26.out.call hb)
  clear hb T26
  go_wp2_with fail
  go_ret
  exact ⟨rfl, T27.out.below⟩
end Wd
end Go.Proofs.YtmgehfakcnmdnaaGreatDoor
