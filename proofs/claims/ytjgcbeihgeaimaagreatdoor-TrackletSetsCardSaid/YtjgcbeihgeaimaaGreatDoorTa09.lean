/-
  Lemmas and walks, texts joined: TKFrac, TKLess, TKCmp, TKOver, TKMost, TKPl3, TKRD, TKRA, TKRAl.
-/
import Derived.Deep.RegionHeld3
import Derived.Test.YtjgcbeihgeaimaaGreatDoorTa08
import Derived.Test.YtjgcbeihgeaimaaGreatDoorTa03
import Derived.Test.YtjgcbeihgeaimaaGreatDoorTa04
set_option linter.unusedSimpArgs false
set_option linter.unusedVariables false
/-
  The reference's fractions: Whole, Check, both, Mul, Div, Sub, Cmp.
-/
namespace Go.Proofs.YtjgcbeihgeaimaaGreatDoor
namespace Wd
open Go.RowKit Lw Tw

abbrev frC (b : Bool) (a : Option Addr) (k c : Nat) (a' : Option Addr) (k' c' : Nat) : List Value := [.bool b, .slice a k c, .bool false, .slice a' k' c']
/-- A fraction in lowest terms, equal to N over D. -/
structure IsFrac (N : Int) (D : Nat) (p : Int) (q : Nat) : Prop where
  pos : 0 < q
  cop : Nat.gcd p.natAbs q = 1
  eq : p * (D : Int) = N * (q : Int)
  pn : p.natAbs ≤ N.natAbs
  qd : q ≤ D
theorem natAbs_sgn (b : Bool) (n : Nat) : (sgn b n).natAbs = n := sgn_abs b n
theorem gcd_core {n m g x y : Nat} (hg : 0 < g) (hx : n = g * x) (hy : m = g * y) (hG : Nat.gcd n m = g) : Nat.gcd x y = 1 := by
  rw [hx, hy, Nat.gcd_mul_left] at hG
  exact Nat.eq_of_mul_eq_mul_left hg (by rw [Nat.mul_one]; exact hG)
theorem red_is (N : Int) (D : Nat) (hD : 0 < D) : IsFrac N D (sgn (decide (N < 0)) (N.natAbs / Nat.gcd N.natAbs D)) (D / Nat.gcd N.natAbs D) := by
  have hg : 0 < Nat.gcd N.natAbs D := Nat.gcd_pos_of_pos_right _ hD
  obtain ⟨x, hx⟩ := Nat.gcd_dvd_left N.natAbs D
  obtain ⟨y, hy⟩ := Nat.gcd_dvd_right N.natAbs D
  have cp : Nat.gcd x y = 1 := gcd_core hg hx hy rfl
  generalize hG : Nat.gcd N.natAbs D = g at *
  have e1 : N.natAbs / g = x := by rw [hx]; exact Nat.mul_div_cancel_left _ hg
  have e2 : D / g = y := by rw [hy]; exact Nat.mul_div_cancel_left _ hg
  rw [e1, e2]
  have hy0 : 0 < y := by
    rcases Nat.eq_zero_or_pos y with e | e
    · rw [e, Nat.mul_zero] at hy; omega
    · exact e
  refine ⟨hy0, by rw [natAbs_sgn]; exact cp, ?_, ?_, ?_⟩
  · have m : x * D = N.natAbs * y := by rw [hx]; rw [hy, ← Nat.mul_assoc, Nat.mul_comm x g]
    have mi : (x : Int) * (D : Int) = (N.natAbs : Int) * (y : Int) := by rw [← Int.natCast_mul, ← Int.natCast_mul, m]
    by_cases h : N < 0
    · rw [decide_eq_true h]
      show -(x : Int) * (D : Int) = N * (y : Int)
      have : N = -(N.natAbs : Int) := by omega
      rw [this, Int.neg_mul, Int.neg_mul, mi]
    · rw [decide_eq_false h]
      show (x : Int) * (D : Int) = N * (y : Int)
      have : N = (N.natAbs : Int) := by omega
      rw [mi, ← this]
  · rw [natAbs_sgn, hx]; exact Nat.le_mul_of_pos_left _ hg
  · rw [hy]; exact Nat.le_mul_of_pos_left _ hg
theorem canon_mul_len (m n : Nat) : (canon (m * n)).length ≤ (canon m).length + (canon n).length := by
  have hm := val_lt _ (lb_canon m)
  have hn := val_lt _ (lb_canon n)
  rw [val_canon] at hm hn
  refine canon_len _ _ ?_
  rw [Nat.pow_add]
  exact Nat.mul_lt_mul'' hm hn
theorem sub_len (X Y : Int) (L : Nat) (hx : (canon X.natAbs).length ≤ L) (hy : (canon Y.natAbs).length ≤ L) : (canon (X - Y).natAbs).length ≤ L + 1 := by
  have a1 := val_lt _ (lb_canon X.natAbs)
  have a2 := val_lt _ (lb_canon Y.natAbs)
  rw [val_canon] at a1 a2
  have b1 : 4294967296 ^ (canon X.natAbs).length ≤ 4294967296 ^ L := Nat.pow_le_pow_right (by decide) hx
  have b2 : 4294967296 ^ (canon Y.natAbs).length ≤ 4294967296 ^ L := Nat.pow_le_pow_right (by decide) hy
  refine canon_len _ _ ?_
  rw [Nat.pow_succ]
  omega
theorem infoFr : (Tryz.prog.info? 95).map (·.size) = some 4 := by kernel_rfl
/-- A fraction that is returned with no error. -/
def FracPost (w : World) (N : Int) (D : Nat) (e : Ending) (w' : World) : Prop := ∃ V p q, e = .returned (.tuple #[V, .int .i64 0]) ∧ IsFrac N D p q ∧ FracZ w.heap.size w' V p q ∧ Below w.heap.size w w'
theorem FracZ.below {B : Nat} {w w' : World} {V : Value} {p : Int} {q : Nat} (h : FracZ B w V p q) (hb : Below w.heap.size w w') : FracZ B w' V p q := by
  obtain ⟨a, k, c, a', k', c', e, h1, h2, h3, h4⟩ := h
  exact ⟨a, k, c, a', k', c', e, h1.below hb, h2.below hb, h3, h4⟩
theorem FracZ.mono {B B' : Nat} {w : World} {V : Value} {p : Int} {q : Nat} (h : FracZ B w V p q) (hb : B' ≤ B) : FracZ B' w V p q := by
  obtain ⟨a, k, c, a', k', c', e, h1, h2, h3, h4⟩ := h
  exact ⟨a, k, c, a', k', c', e, h1, h2, fun b off e => Nat.le_trans hb (h3 b off e), fun b off e => Nat.le_trans hb (h4 b off e)⟩
theorem FracZ.sets {B : Nat} {w : World} {V : Value} {p : Int} {q : Nat} (h : FracZ B w V p q) (b : Nat) (hb : b < B) (o : Nat) (vs : List Value) : FracZ B (w.setCells b o vs) V p q := by
  obtain ⟨a, k, c, a', k', c', e, h1, h2, h3, h4⟩ := h
  exact ⟨a, k, c, a', k', c', e, h1.setCells (fun b' off e => by have := h3 b' off e; omega) _ _, h2.setCells (fun b' off e => by have := h4 b' off e; omega) _ _, h3, h4⟩
set_option maxRecDepth 100000 in
set_option maxHeartbeats 4000000 in
theorem rwhole_any (t : Int) (w : World) (h0 : -9223372036854775808 ≤ t) (h1 : t < 9223372036854775808) :
    Calls Tryz.prog 72 #[.int .i64 t] w fun e w' => ∃ V, e = .returned V ∧ FracZ w.heap.size w' V t 1 ∧ Below w.heap.size w w' := by
  have F0 := Lib.hid ((Fr.start w).alloc (frC false none 0 0 none 0 0) 95)
  go_enter Tryz.func72, Tryz.ntmps72
  go_wp2_with fail
  refine (rfrom_walk t _ h0 h1).mono ?_
  rintro e w1 ⟨V, rfl, ⟨a, k, c, rfl, hL, hg⟩, hb⟩
  have F1 := Lib.hid (F0.out.call hb)
  have HL := Lib.hid hL
  simp only [World.size_alloc] at hg
  clear F0 hb hL
  go_wp2_with fail
  refine (rfrom_walk 1 _ (by decide) (by decide)).mono ?_
  rintro e w2 ⟨V, rfl, hV, hb⟩
  obtain ⟨a', k', c', rfl, hL', hg'⟩ := wideN_inv (p := 1) hV
  have F2 := F1.out.call hb
  have cr0 := F2.cell 0 0 rfl rfl
  have fr0 := F2.fz 0 0 rfl rfl
  have cr1 := F2.cell 0 1 rfl rfl
  have fr1 := F2.fz 0 1 rfl rfl
  have cr2 := F2.cell 0 2 rfl rfl
  have fr2 := F2.fz 0 2 rfl rfl
  have cr3 := F2.cell 0 3 rfl rfl
  have fr3 := F2.fz 0 3 rfl rfl
  have FF := F2.put 0 rfl (frC (decide (t < 0)) a k c a' k' c') rfl
  have lo := (F1.out.least 0 rfl).2
  have R := Lib.hid (show FracZ w.heap.size (w2.setCells w.heap.size 0 (frC (decide (t < 0)) a k c a' k' c')) (.agg (frC (decide (t < 0)) a k c a' k' c').toArray) t 1 from ⟨a, k, c, a', k', c', rfl, (HL.out.below hb).setCells (fun b off e => by have := hg b off e; omega) _ _, hL'.setCells (fun b off e => by have := hg' b off e; omega) _ _, fun b off e => by have := hg b off e; omega, fun b off e => by have := hg' b off e; omega⟩)
  have G := Lib.hid (FF.get 0 rfl)
  have B := Lib.hid FF.below
  clear hV hb hL' hg hg' F2 FF F1 HL lo
  go_wp2_with fail
  exact bodyPost_ret (ret_cell Tryz.results72 _ _ w.heap.size _ _ rfl G.out Tryz.underlying95 rfl infoFr) rfl ⟨_, rfl, R.out, B.out⟩
set_option maxRecDepth 100000 in
set_option maxHeartbeats 4000000 in
theorem rfcheck_any (V : Value) (p : Int) (q : Nat) (w : World) (h : FracZ 0 w V p q) (hq : 0 < q) (hc : Nat.gcd p.natAbs q = 1) (lp : (canon p.natAbs).length ≤ 4000) (lq : (canon q).length ≤ 4000) :
    Calls Tryz.prog 91 #[V] w fun e w' => e = .returned (.int .i64 0) ∧ Below w.heap.size w w' := by
  obtain ⟨a, k, c, a', k', c', rfl, hA, hA', -, -⟩ := h
  have lk' : 0 < k' := by rw [← hA'.len]; exact (canon_lenpos q).2 hq
  have CN := Lib.hid (fun w' (hb : Below w.heap.size w w') => rcheck_walk _ p w' (wideZ (hA.below hb)) (by omega))
  have CD := Lib.hid (fun w' (hb : Below w.heap.size w w') => rcheck_walk _ (q : Int) w' (wideN (B := 0) (hA'.below hb) (fun _ _ _ => Nat.zero_le _)) (by rw [Int.natAbs_natCast]; omega))
  have GG := Lib.hid (fun w' (hb : Below w.heap.size w w') => rgcd_walk _ _ p (q : Int) w' (wideZ (hA.below hb)) (wideN (B := 0) (hA'.below hb) (fun _ _ _ => Nat.zero_le _)) lp (by rw [Int.natAbs_natCast]; exact lq))
  rw [Int.natAbs_natCast, hc] at GG
  have F0 := Lib.hid ((Fr.start w).alloc (frC (decide (p < 0)) a k c a' k' c') 95)
  have k1 : ¬ (k' : Int) = 0 := by omega
  generalize decide (p < 0) = n at *
  clear hA hA' hq hc lp lq lk'
  go_enter Tryz.func91, Tryz.ntmps91
  go_wp2_with fail
  refine (CN.out _ F0.out.below).mono ?_
  rintro e w1 ⟨rfl, hb⟩
  have F1 := F0.out.call hb
  have cx0 := F1.cell 0 0 rfl rfl
  have cx1 := F1.cell 0 1 rfl rfl
  have cx2 := F1.cell 0 2 rfl rfl
  have cx3 := F1.cell 0 3 rfl rfl
  have F1 := Lib.hid F1
  clear hb F0 CN
  go_wp2_with fail
  refine (CD.out _ F1.out.below).mono ?_
  rintro e w2 ⟨rfl, hb⟩
  have F2 := F1.out.call hb
  clear cx0 cx1 cx2 cx3
  have cx0 := F2.cell 0 0 rfl rfl
  have cx1 := F2.cell 0 1 rfl rfl
  have cx2 := F2.cell 0 2 rfl rfl
  have cx3 := F2.cell 0 3 rfl rfl
  have F2 := Lib.hid F2
  clear hb F1 CD
  go_wp2_with fail
  refine (GG.out _ F2.out.below).mono ?_
  rintro e w3 ⟨V, rfl, hV, hb⟩
  obtain ⟨ag, kg, cg, rfl, hL, -⟩ := wideN_inv (p := 1) hV
  have F3 := Lib.hid ((F2.out.call hb).alloc (wdC false ag kg cg) 93)
  have HL := Lib.hid (hL.below ((Below.refl _ w3).alloc (Nat.le_refl _) (.cells (wdC false ag kg cg).toArray 93)))
  clear hb hV hL F2 GG cx0 cx1 cx2 cx3
  go_wp2_with fail
  clear k1
  have F3 := F3.out.two
  have HL := HL.out
  generalize hW : w3.alloc (.cells (wdC false ag kg cg).toArray 93) = W at *
  have KS := fun w' (h : Fr2 w [(w3.heap.size, wdC false ag kg cg), (w.heap.size, frC n a k c a' k' c')] W w') => (show w'.cell? ⟨w3.heap.size, 0, none⟩ = some (.bool false) ∧ w'.cell? ⟨w3.heap.size, 1, none⟩ = some (.slice ag kg cg) ∧ Fr2 w [(w3.heap.size, wdC false ag kg cg), (w.heap.size, frC n a k c a' k' c')] W w' from ⟨h.1.cell 0 0 rfl rfl, h.1.cell 0 1 rfl rfl, h⟩)
  have KL := fun w' (h : w'.cell? ⟨w3.heap.size, 0, none⟩ = some (.bool false) ∧ w'.cell? ⟨w3.heap.size, 1, none⟩ = some (.slice ag kg cg) ∧ Fr2 w [(w3.heap.size, wdC false ag kg cg), (w.heap.size, frC n a k c a' k' c')] W w') => HL.below h.2.2.2
  have KC := fun w' w2 (h : w'.cell? ⟨w3.heap.size, 0, none⟩ = some (.bool false) ∧ w'.cell? ⟨w3.heap.size, 1, none⟩ = some (.slice ag kg cg) ∧ Fr2 w [(w3.heap.size, wdC false ag kg cg), (w.heap.size, frC n a k c a' k' c')] W w') (hb : Below w'.heap.size w' w2) => h.2.2.call hb
  clear HL
  go_region_held3 (fun w' => w'.cell? ⟨w3.heap.size, 0, none⟩ = some (.bool false) ∧ w'.cell? ⟨w3.heap.size, 1, none⟩ = some (.slice ag kg cg) ∧ Fr2 w [(w3.heap.size, wdC false ag kg cg), (w.heap.size, frC n a k c a' k' c')] W w') (first | exact KS _ F3.drew | exact KS _ F3 | exact KS _ hk2 | exact KS _ hk | exact KS _ (by assumption)) (first | (go_at_call 96; refine (rfrom_walk 1 _ (by decide) (by decide)).mono ?_; rintro e w' ⟨V, rfl, hV, hb⟩; obtain ⟨az, kz, cz, rfl, hM, -⟩ := wideN_inv (p := 1) hV; have hk := KC _ _ (by assumption) hb; have HM := Lib.hid hM; clear hV hb hM) | (go_at_call 109; refine (rsame_walk _ _ ((1 : Nat) : Int) ((1 : Nat) : Int) _ (wideN (B := 0) (KL _ (by assumption)) (fun _ _ _ => Nat.zero_le _)) (wideN (B := 0) HM.out (fun _ _ _ => Nat.zero_le _))).mono ?_; rintro e w' ⟨rfl, hb⟩; have hk2 := Fr2.call hk hb; clear hb))
  have R := Lib.hid hk2.1.below
  clear KS KL KC hk hk2 HM F3 hW
  go_wp2_with fail
  exact bodyPost_ret (results_tmp rfl _ _ _) rfl ⟨rfl, R.out⟩
set_option maxRecDepth 100000 in
set_option maxHeartbeats 4000000 in
theorem rfboth_any (V1 V2 : Value) (p1 p2 : Int) (q1 q2 : Nat) (w : World) (h1 : FracZ 0 w V1 p1 q1) (k1 : 0 < q1) (g1 : Nat.gcd p1.natAbs q1 = 1) (x1 : (canon p1.natAbs).length ≤ 900) (y1 : (canon q1).length ≤ 900) (h2 : FracZ 0 w V2 p2 q2) (k2 : 0 < q2) (g2 : Nat.gcd p2.natAbs q2 = 1) (x2 : (canon p2.natAbs).length ≤ 900) (y2 : (canon q2).length ≤ 900) :
    Calls Tryz.prog 70 #[V1, V2] w fun e w' => e = .returned (.int .i64 0) ∧ Below w.heap.size w w' := by
  have C1 := Lib.hid (fun w' (hb : Below w.heap.size w w') => rfcheck_any V1 p1 q1 w' (h1.below hb) k1 g1 (by omega) (by omega))
  have C2 := Lib.hid (fun w' (hb : Below w.heap.size w w') => rfcheck_any V2 p2 q2 w' (h2.below hb) k2 g2 (by omega) (by omega))
  obtain ⟨a1, i1, c1, a1', i1', c1', rfl, hA1, hA1', -, -⟩ := h1
  obtain ⟨a2, i2, c2, a2', i2', c2', rfl, hA2, hA2', -, -⟩ := h2
  have F0 := ((Fr.start w).alloc (frC (decide (p1 < 0)) a1 i1 c1 a1' i1' c1') 95).alloc (frC (decide (p2 < 0)) a2 i2 c2 a2' i2' c2') 95
  simp only [World.size_alloc] at F0
  have F0 := Lib.hid F0
  generalize decide (p1 < 0) = n1 at *
  generalize decide (p2 < 0) = n2 at *
  clear hA1 hA1' hA2 hA2' k1 k2 g1 g2 x1 x2 y1 y2
  go_enter Tryz.func70, Tryz.ntmps70
  go_wp2_with fail
  refine (C1.out _ F0.out.below).mono ?_
  rintro e w1 ⟨rfl, hb⟩
  have F1 := F0.out.call hb
  have cd0 := F1.cell 0 0 rfl rfl
  have cd1 := F1.cell 0 1 rfl rfl
  have cd2 := F1.cell 0 2 rfl rfl
  have cd3 := F1.cell 0 3 rfl rfl
  have F1 := Lib.hid F1
  clear hb F0 C1
  go_wp2_with fail
  refine (C2.out _ F1.out.below).mono ?_
  rintro e w2 ⟨rfl, hb⟩
  have F2 := Lib.hid (F1.out.call hb)
  clear hb
  go_wp2_with fail
  exact bodyPost_ret (results_tmp rfl _ _ _) rfl ⟨rfl, F2.out.below⟩
set_option maxRecDepth 100000 in
set_option maxHeartbeats 4000000 in
theorem rfproduct_any (a1 a2 a3 a4 : Option Addr) (i1 c1 i2 c2 i3 c3 i4 c4 : Nat) (z1 z2 z3 z4 : Int) (Y : Nat) (w : World) (h1 : Lim w a1 i1 c1 (canon z1.natAbs)) (h2 : Lim w a2 i2 c2 (canon z2.natAbs)) (h3 : Lim w a3 i3 c3 (canon z3.natAbs)) (h4 : Lim w a4 i4 c4 (canon z4.natAbs))
    (l1 : i1 ≤ 900) (l2 : i2 ≤ 900) (l3 : i3 ≤ 900) (l4 : i4 ≤ 900) (hy : z3 * z4 = (Y : Int)) (hY : 0 < Y) :
    Calls Tryz.prog 97 #[.agg #[.bool (decide (z1 < 0)), .slice a1 i1 c1], .agg #[.bool (decide (z2 < 0)), .slice a2 i2 c2], .agg #[.bool (decide (z3 < 0)), .slice a3 i3 c3], .agg #[.bool (decide (z4 < 0)), .slice a4 i4 c4]] w (FracPost w (z1 * z2) Y) := by
  have e1 := h1.len
  have e2 := h2.len
  have e3 := h3.len
  have e4 := h4.len
  have M1 := Lib.hid (fun w' (hb : Below w.heap.size w w') => rmul_walk _ _ z1 z2 w' (wideZ (h1.below hb)) (wideZ (h2.below hb)) (by omega))
  have M2 := Lib.hid (fun w' (hb : Below w.heap.size w w') => rmul_walk _ _ z3 z4 w' (wideZ (h3.below hb)) (wideZ (h4.below hb)) (by omega))
  rw [hy] at M2
  have lx : (canon (z1 * z2).natAbs).length ≤ 4000 := by have := canon_mul_len z1.natAbs z2.natAbs; rw [Int.natAbs_mul]; omega
  have ly : (canon Y).length ≤ 4000 := by
    have := canon_mul_len z3.natAbs z4.natAbs
    rw [← Int.natAbs_mul, hy, Int.natAbs_natCast] at this
    omega
  have RD := Lib.hid (fun V1 V2 w' (g1 : Wide 0 w' V1 (z1 * z2)) (g2 : Wide 0 w' V2 (Y : Int)) => rreduced_walk V1 V2 (z1 * z2) Y w' g1 g2 hY lx ly)
  have IS := Lib.hid (red_is (z1 * z2) Y hY)
  have F0 := ((((((Fr.start w).alloc (wdC (decide (z1 < 0)) a1 i1 c1) 93).alloc (wdC (decide (z2 < 0)) a2 i2 c2) 93).alloc (wdC (decide (z3 < 0)) a3 i3 c3) 93).alloc (wdC (decide (z4 < 0)) a4 i4 c4) 93).alloc (frC false none 0 0 none 0 0) 95)
  simp only [World.size_alloc] at F0
  have F0 := Lib.hid F0
  generalize decide (z1 < 0) = n1 at *
  generalize decide (z2 < 0) = n2 at *
  generalize decide (z3 < 0) = n3 at *
  generalize decide (z4 < 0) = n4 at *
  generalize z1 * z2 = X at *
  clear h1 h2 h3 h4 e1 e2 e3 e4 lx ly hy
  generalize sgn (decide (X < 0)) (X.natAbs / Nat.gcd X.natAbs Y) = p at *
  generalize Y / Nat.gcd X.natAbs Y = q at *
  go_enter Tryz.func97, Tryz.ntmps97
  go_wp2_with fail
  refine (M1.out _ F0.out.below).mono ?_
  rintro e w1 ⟨V, rfl, ⟨ax, kx, cx, rfl, hX, -⟩, hb⟩
  have FA := F0.out.call hb
  have F1 := Lib.hid (FA.alloc (wdC (decide (X < 0)) ax kx cx) 93)
  have HX := Lib.hid (hX.below ((Below.refl _ w1).alloc (Nat.le_refl _) (.cells (wdC (decide (X < 0)) ax kx cx).toArray 93)))
  have cd0 := F1.out.cell 3 0 rfl rfl
  have cd1 := F1.out.cell 3 1 rfl rfl
  have cg0 := F1.out.cell 2 0 rfl rfl
  have cg1 := F1.out.cell 2 1 rfl rfl
  clear hb hX M1 F0 FA
  go_wp2_with fail
  refine (M2.out _ F1.out.below).mono ?_
  rintro e w2 ⟨V, rfl, hV, hb⟩
  obtain ⟨ay, ky, cy, rfl, hY', -⟩ := wideN_inv hV
  have FB := F1.out.call hb
  have F2 := Lib.hid (FB.alloc (wdC false ay ky cy) 93)
  have ba := (Below.refl _ w2).alloc (Nat.le_refl _) (.cells (wdC false ay ky cy).toArray 93)
  have HY := Lib.hid (hY'.below ba)
  have HX2 := Lib.hid (HX.out.below (below_then hb ba))
  clear cd0 cd1 cg0 cg1
  have cd0 := F2.out.cell 1 0 rfl rfl
  have cd1 := F2.out.cell 1 1 rfl rfl
  have cg0 := F2.out.cell 0 0 rfl rfl
  have cg1 := F2.out.cell 0 1 rfl rfl
  clear hb hV hY' M2 F1 FB ba HX
  go_wp2_with fail
  refine (RD.out _ _ _ (wideZ HX2.out) (wideN (B := 0) HY.out (fun _ _ _ => Nat.zero_le _))).mono ?_
  rintro e w3 ⟨V, rfl, hV, hb⟩
  have F3 := F2.out.call hb
  have cr0 := F3.cell 2 0 rfl rfl
  have fr0 := F3.fz 2 0 rfl rfl
  have cr1 := F3.cell 2 1 rfl rfl
  have fr1 := F3.fz 2 1 rfl rfl
  have cr2 := F3.cell 2 2 rfl rfl
  have fr2 := F3.fz 2 2 rfl rfl
  have cr3 := F3.cell 2 3 rfl rfl
  have fr3 := F3.fz 2 3 rfl rfl
  have lo := (F2.out.least 2 rfl).2
  have lw := F2.out.below.size
  obtain ⟨a, k, c, a', k', c', rfl, m1, m2, m3, m4⟩ := hV
  have FF := F3.put 2 rfl (frC (decide (p < 0)) a k c a' k' c') rfl
  have R := Lib.hid (FracZ.sets ⟨a, k, c, a', k', c', rfl, m1, m2, m3, m4⟩ _ lo 0 (frC (decide (p < 0)) a k c a' k' c'))
  have R := Lib.hid (R.out.mono lw)
  have G := Lib.hid (FF.get 2 rfl)
  have B := Lib.hid FF.below
  clear hb m1 m2 m3 m4 F3 FF F2 lo lw
  go_wp2_with fail
  exact bodyPost_ret (ret_cell_tmp Tryz.results97 _ _ _ _ _ rfl G.out Tryz.underlying95 rfl infoFr) rfl ⟨_, _, _, rfl, IS.out, R.out, B.out⟩
set_option maxRecDepth 100000 in
set_option maxHeartbeats 4000000 in
theorem rfmul_any (V1 V2 : Value) (p1 p2 : Int) (q1 q2 : Nat) (w : World) (h1 : FracZ 0 w V1 p1 q1) (k1 : 0 < q1) (g1 : Nat.gcd p1.natAbs q1 = 1) (x1 : (canon p1.natAbs).length ≤ 900) (y1 : (canon q1).length ≤ 900) (h2 : FracZ 0 w V2 p2 q2) (k2 : 0 < q2) (g2 : Nat.gcd p2.natAbs q2 = 1) (x2 : (canon p2.natAbs).length ≤ 900) (y2 : (canon q2).length ≤ 900) :
    Calls Tryz.prog 73 #[V1, V2] w (FracPost w (p1 * p2) (q1 * q2)) := by
  have BO := Lib.hid (fun w' (hb : Below w.heap.size w w') => rfboth_any V1 V2 p1 p2 q1 q2 w' (h1.below hb) k1 g1 x1 y1 (h2.below hb) k2 g2 x2 y2)
  obtain ⟨a1, i1, c1, a1', i1', c1', rfl, hA1, hA1', -, -⟩ := h1
  obtain ⟨a2, i2, c2, a2', i2', c2', rfl, hA2, hA2', -, -⟩ := h2
  have e1 := hA1.len
  have e1' := hA1'.len
  have e2 := hA2.len
  have e2' := hA2'.len
  have PR := Lib.hid (fun w' (hb : Below w.heap.size w w') => rfproduct_any a1 a2 a1' a2' i1 c1 i2 c2 i1' c1' i2' c2' p1 p2 (q1 : Int) (q2 : Int) (q1 * q2) w' (hA1.below hb) (hA2.below hb) (by rw [Int.natAbs_natCast]; exact hA1'.below hb) (by rw [Int.natAbs_natCast]; exact hA2'.below hb) (by omega) (by omega) (by omega) (by omega) (by rw [Int.natCast_mul]) (Nat.mul_pos k1 k2))
  rw [decide_eq_false (show ¬ (q1 : Int) < 0 by omega), decide_eq_false (show ¬ (q2 : Int) < 0 by omega)] at PR
  clear e1 e1' e2 e2'
  have F0 := (((Fr.start w).alloc (frC (decide (p1 < 0)) a1 i1 c1 a1' i1' c1') 95).alloc (frC (decide (p2 < 0)) a2 i2 c2 a2' i2' c2') 95).alloc (frC false none 0 0 none 0 0) 95
  simp only [World.size_alloc] at F0
  have F0 := Lib.hid F0
  generalize decide (p1 < 0) = n1 at *
  generalize decide (p2 < 0) = n2 at *
  generalize p1 * p2 = N at *
  generalize hDD : q1 * q2 = D at *
  clear hDD hA1 hA1' hA2 hA2' k1 k2 g1 g2 x1 x2 y1 y2
  go_enter Tryz.func73, Tryz.ntmps73
  go_wp2_with fail
  refine (BO.out _ F0.out.below).mono ?_
  rintro e w1 ⟨rfl, hb⟩
  have F1 := F0.out.call hb
  have cd0 := F1.cell 2 0 rfl rfl
  have cd1 := F1.cell 2 1 rfl rfl
  have cd2 := F1.cell 2 2 rfl rfl
  have cd3 := F1.cell 2 3 rfl rfl
  have cg0 := F1.cell 1 0 rfl rfl
  have cg1 := F1.cell 1 1 rfl rfl
  have cg2 := F1.cell 1 2 rfl rfl
  have cg3 := F1.cell 1 3 rfl rfl
  have F1 := Lib.hid F1
  clear hb F0 BO
  go_wp2_with fail
  refine (PR.out _ F1.out.below).mono ?_
  rintro e w3 ⟨V, p, q, rfl, hI, hV, hb⟩
  have F3 := F1.out.call hb
  have cr0 := F3.cell 0 0 rfl rfl
  have fr0 := F3.fz 0 0 rfl rfl
  have cr1 := F3.cell 0 1 rfl rfl
  have fr1 := F3.fz 0 1 rfl rfl
  have cr2 := F3.cell 0 2 rfl rfl
  have fr2 := F3.fz 0 2 rfl rfl
  have cr3 := F3.cell 0 3 rfl rfl
  have fr3 := F3.fz 0 3 rfl rfl
  have lo := (F1.out.least 0 rfl).2
  have lw := F1.out.below.size
  obtain ⟨a, k, c, a', k', c', rfl, m1, m2, m3, m4⟩ := hV
  have FF := F3.put 0 rfl (frC (decide (p < 0)) a k c a' k' c') rfl
  have R := Lib.hid (FracZ.sets ⟨a, k, c, a', k', c', rfl, m1, m2, m3, m4⟩ _ lo 0 (frC (decide (p < 0)) a k c a' k' c'))
  have R := Lib.hid (R.out.mono lw)
  have G := Lib.hid (FF.get 0 rfl)
  have B := Lib.hid FF.below
  have IS := Lib.hid hI
  clear hb m1 m2 m3 m4 F3 FF F1 lo lw hI PR cd0 cd1 cd2 cd3 cg0 cg1 cg2 cg3
  go_wp2_with fail
  exact bodyPost_ret (ret_cell_tmp Tryz.results73 _ _ _ _ _ rfl G.out Tryz.underlying95 rfl infoFr) rfl ⟨_, _, _, rfl, IS.out, R.out, B.out⟩
set_option maxRecDepth 100000 in
set_option maxHeartbeats 4000000 in
theorem rfdiv_any (V1 V2 : Value) (p1 p2 : Int) (q1 q2 : Nat) (w : World) (h1 : FracZ 0 w V1 p1 q1) (k1 : 0 < q1) (g1 : Nat.gcd p1.natAbs q1 = 1) (x1 : (canon p1.natAbs).length ≤ 900) (y1 : (canon q1).length ≤ 900) (h2 : FracZ 0 w V2 p2 q2) (k2 : 0 < q2) (g2 : Nat.gcd p2.natAbs q2 = 1) (x2 : (canon p2.natAbs).length ≤ 900) (y2 : (canon q2).length ≤ 900) (P2 : Nat) (hp2 : p2 = (P2 : Int)) (hP2 : 0 < P2) :
    Calls Tryz.prog 74 #[V1, V2] w (FracPost w (p1 * (q2 : Int)) (q1 * P2)) := by
  have BO := Lib.hid (fun w' (hb : Below w.heap.size w w') => rfboth_any V1 V2 p1 p2 q1 q2 w' (h1.below hb) k1 g1 x1 y1 (h2.below hb) k2 g2 x2 y2)
  obtain ⟨a1, i1, c1, a1', i1', c1', rfl, hA1, hA1', -, -⟩ := h1
  obtain ⟨a2, i2, c2, a2', i2', c2', rfl, hA2, hA2', -, -⟩ := h2
  subst hp2
  rw [Int.natAbs_natCast] at hA2 g2 x2
  rw [decide_eq_false (show ¬ (P2 : Int) < 0 by omega)] at BO ⊢
  have e1 := hA1.len
  have e1' := hA1'.len
  have e2 := hA2.len
  have e2' := hA2'.len
  have PR := Lib.hid (fun w' (hb : Below w.heap.size w w') => rfproduct_any a1 a2' a1' a2 i1 c1 i2' c2' i1' c1' i2 c2 p1 (q2 : Int) (q1 : Int) (P2 : Int) (q1 * P2) w' (hA1.below hb) (by rw [Int.natAbs_natCast]; exact hA2'.below hb) (by rw [Int.natAbs_natCast]; exact hA1'.below hb) (by rw [Int.natAbs_natCast]; exact hA2.below hb) (by omega) (by omega) (by omega) (by omega) (by rw [Int.natCast_mul]) (Nat.mul_pos k1 hP2))
  rw [decide_eq_false (show ¬ (q1 : Int) < 0 by omega), decide_eq_false (show ¬ (q2 : Int) < 0 by omega), decide_eq_false (show ¬ (P2 : Int) < 0 by omega)] at PR
  have l2 : 0 < i2 := by rw [← e2]; exact (canon_lenpos P2).2 hP2
  have l2i : ¬ (i2 : Int) = 0 := by omega
  clear e1 e1' e2 e2' hP2 l2
  have F0 := (((Fr.start w).alloc (frC (decide (p1 < 0)) a1 i1 c1 a1' i1' c1') 95).alloc (frC false a2 i2 c2 a2' i2' c2') 95).alloc (frC false none 0 0 none 0 0) 95
  simp only [World.size_alloc] at F0
  have F0 := Lib.hid F0
  generalize decide (p1 < 0) = n1 at *
  generalize p1 * (q2 : Int) = N at *
  generalize hDD : q1 * P2 = D at *
  clear hDD hA1 hA1' hA2 hA2' k1 k2 g1 g2 x1 x2 y1 y2
  go_enter Tryz.func74, Tryz.ntmps74
  go_wp2_with fail
  refine (BO.out _ F0.out.below).mono ?_
  rintro e w1 ⟨rfl, hb⟩
  have F1 := F0.out.call hb
  have cd0 := F1.cell 2 0 rfl rfl
  have cd1 := F1.cell 2 1 rfl rfl
  have cd2 := F1.cell 2 2 rfl rfl
  have cd3 := F1.cell 2 3 rfl rfl
  have cg0 := F1.cell 1 0 rfl rfl
  have cg1 := F1.cell 1 1 rfl rfl
  have cg2 := F1.cell 1 2 rfl rfl
  have cg3 := F1.cell 1 3 rfl rfl
  have F1 := Lib.hid F1
  clear hb F0 BO
  go_wp2_with fail
  refine (PR.out _ F1.out.below).mono ?_
  rintro e w3 ⟨V, p, q, rfl, hI, hV, hb⟩
  have F3 := F1.out.call hb
  have cr0 := F3.cell 0 0 rfl rfl
  have fr0 := F3.fz 0 0 rfl rfl
  have cr1 := F3.cell 0 1 rfl rfl
  have fr1 := F3.fz 0 1 rfl rfl
  have cr2 := F3.cell 0 2 rfl rfl
  have fr2 := F3.fz 0 2 rfl rfl
  have cr3 := F3.cell 0 3 rfl rfl
  have fr3 := F3.fz 0 3 rfl rfl
  have lo := (F1.out.least 0 rfl).2
  have lw := F1.out.below.size
  obtain ⟨a, k, c, a', k', c', rfl, m1, m2, m3, m4⟩ := hV
  have FF := F3.put 0 rfl (frC (decide (p < 0)) a k c a' k' c') rfl
  have R := Lib.hid (FracZ.sets ⟨a, k, c, a', k', c', rfl, m1, m2, m3, m4⟩ _ lo 0 (frC (decide (p < 0)) a k c a' k' c'))
  have R := Lib.hid (R.out.mono lw)
  have G := Lib.hid (FF.get 0 rfl)
  have B := Lib.hid FF.below
  have IS := Lib.hid hI
  clear hb m1 m2 m3 m4 F3 FF F1 lo lw hI PR cd0 cd1 cd2 cd3 cg0 cg1 cg2 cg3
  go_wp2_with fail
  exact bodyPost_ret (ret_cell_tmp Tryz.results74 _ _ _ _ _ rfl G.out Tryz.underlying95 rfl infoFr) rfl ⟨_, _, _, rfl, IS.out, R.out, B.out⟩
end Wd
end Go.Proofs.YtjgcbeihgeaimaaGreatDoor
/-
  The reference's fractions: differences.
-/
namespace Go.Proofs.YtjgcbeihgeaimaaGreatDoor
namespace Wd
open Go.RowKit Lw Tw

set_option maxRecDepth 100000 in
set_option maxHeartbeats 8000000 in
theorem rfless_any (V1 V2 : Value) (p1 p2 : Int) (q1 q2 : Nat) (w : World) (h1 : FracZ 0 w V1 p1 q1) (k1 : 0 < q1) (g1 : Nat.gcd p1.natAbs q1 = 1) (x1 : (canon p1.natAbs).length ≤ 900) (y1 : (canon q1).length ≤ 900) (h2 : FracZ 0 w V2 p2 q2) (k2 : 0 < q2) (g2 : Nat.gcd p2.natAbs q2 = 1) (x2 : (canon p2.natAbs).length ≤ 900) (y2 : (canon q2).length ≤ 900) :
    Calls Tryz.prog 71 #[V1, V2, .bool true] w (FracPost w (p1 * (q2 : Int) - p2 * (q1 : Int)) (q1 * q2)) := by
  obtain ⟨a1, i1, c1, a1', i1', c1', rfl, hA1, hA1', -, -⟩ := h1
  obtain ⟨a2, i2, c2, a2', i2', c2', rfl, hA2, hA2', -, -⟩ := h2
  have e1 := hA1.len
  have e1' := hA1'.len
  have e2 := hA2.len
  have e2' := hA2'.len
  have M1 := Lib.hid (fun w' (hb : Below w.heap.size w w') => rmul_walk _ _ p1 (q2 : Int) w' (wideZ (hA1.below hb)) (wideN (B := 0) (hA2'.below hb) (fun _ _ _ => Nat.zero_le _)) (by rw [Int.natAbs_natCast]; omega))
  have M2 := Lib.hid (fun w' (hb : Below w.heap.size w w') => rmul_walk _ _ p2 (q1 : Int) w' (wideZ (hA2.below hb)) (wideN (B := 0) (hA1'.below hb) (fun _ _ _ => Nat.zero_le _)) (by rw [Int.natAbs_natCast]; omega))
  have M3 := Lib.hid (fun w' (hb : Below w.heap.size w w') => rmul_walk _ _ (q1 : Int) (q2 : Int) w' (wideN (B := 0) (hA1'.below hb) (fun _ _ _ => Nat.zero_le _)) (wideN (B := 0) (hA2'.below hb) (fun _ _ _ => Nat.zero_le _)) (by rw [Int.natAbs_natCast, Int.natAbs_natCast]; omega))
  rw [← Int.natCast_mul] at M3
  have hD : 0 < q1 * q2 := Nat.mul_pos k1 k2
  have lx : (canon (p1 * (q2 : Int)).natAbs).length ≤ 1800 := by have := canon_mul_len p1.natAbs q2; rw [Int.natAbs_mul, Int.natAbs_natCast]; omega
  have ly : (canon (p2 * (q1 : Int)).natAbs).length ≤ 1800 := by have := canon_mul_len p2.natAbs q1; rw [Int.natAbs_mul, Int.natAbs_natCast]; omega
  have ld : (canon (q1 * q2)).length ≤ 1800 := by have := canon_mul_len q1 q2; omega
  have F0 := (((Fr.start w).alloc (frC (decide (p1 < 0)) a1 i1 c1 a1' i1' c1') 95).alloc (frC (decide (p2 < 0)) a2 i2 c2 a2' i2' c2') 95).alloc (frC false none 0 0 none 0 0) 95
  simp only [World.size_alloc] at F0
  have F0 := Lib.hid F0
  generalize decide (p1 < 0) = n1 at *
  generalize decide (p2 < 0) = n2 at *
  generalize p1 * (q2 : Int) = X at *
  generalize p2 * (q1 : Int) = Y at *
  generalize hDD : q1 * q2 = D at *
  have lz : (canon (X - Y).natAbs).length ≤ 4000 := Nat.le_trans (sub_len X Y 1800 lx ly) (by decide)
  have AD := Lib.hid (fun V1 V2 w' (h1 : Wide 0 w' V1 X) (h2 : Wide 0 w' V2 Y) => radd_all V1 V2 X Y w' h1 h2 (by omega) (by omega))
  have SB := Lib.hid (fun V1 V2 w' (h1 : Wide 0 w' V1 X) (h2 : Wide 0 w' V2 Y) => rsub_all V1 V2 X Y w' h1 h2 (by omega) (by omega))
  have RD := Lib.hid (fun V1 V2 w' (h1 : Wide 0 w' V1 (X - Y)) (h2 : Wide 0 w' V2 (D : Int)) => rreduced_walk V1 V2 (X - Y) D w' h1 h2 hD lz (by omega))
  have IS := Lib.hid (red_is (X - Y) D hD)
  have hDp := (canon_lenpos D).2 hD
  clear hDD hD hA1 hA1' hA2 hA2' k1 k2 g1 g2 x1 x2 y1 y2 e1 e1' e2 e2' lx ly lz ld
  generalize sgn (decide (X - Y < 0)) ((X - Y).natAbs / Nat.gcd (X - Y).natAbs D) = p at *
  generalize D / Nat.gcd (X - Y).natAbs D = q at *
  go_enter Tryz.func71, Tryz.ntmps71
  go_wp2_with fail
  refine (M1.out _ F0.out.below).mono ?_
  rintro e w1 ⟨V, rfl, ⟨ax, kx, cx, rfl, hX, -⟩, hb⟩
  have ba := (Below.refl _ w1).alloc (Nat.le_refl _) (.cells (wdC (decide (X < 0)) ax kx cx).toArray 93)
  have F1 := Lib.hid ((F0.out.call hb).alloc (wdC (decide (X < 0)) ax kx cx) 93)
  have HX := Lib.hid (hX.below ba)
  have cd0 := F1.out.cell 3 0 rfl rfl
  have cd1 := F1.out.cell 3 1 rfl rfl
  have cd2 := F1.out.cell 3 2 rfl rfl
  have cd3 := F1.out.cell 3 3 rfl rfl
  have cg0 := F1.out.cell 2 0 rfl rfl
  have cg1 := F1.out.cell 2 1 rfl rfl
  have cg2 := F1.out.cell 2 2 rfl rfl
  have cg3 := F1.out.cell 2 3 rfl rfl
  clear hb ba hX M1 F0
  go_wp2_with fail
  refine (M2.out _ F1.out.below).mono ?_
  rintro e w2 ⟨V, rfl, ⟨ay, ky, cy, rfl, hY, -⟩, hb⟩
  have ba := (Below.refl _ w2).alloc (Nat.le_refl _) (.cells (wdC (decide (Y < 0)) ay ky cy).toArray 93)
  have F2 := Lib.hid ((F1.out.call hb).alloc (wdC (decide (Y < 0)) ay ky cy) 93)
  have HY := Lib.hid (hY.below ba)
  have HX := Lib.hid (HX.out.below (below_then hb ba))
  clear cd0 cd1 cd2 cd3 cg0 cg1 cg2 cg3
  have cd0 := F2.out.cell 4 0 rfl rfl
  have cd1 := F2.out.cell 4 1 rfl rfl
  have cd2 := F2.out.cell 4 2 rfl rfl
  have cd3 := F2.out.cell 4 3 rfl rfl
  have cg0 := F2.out.cell 3 0 rfl rfl
  have cg1 := F2.out.cell 3 1 rfl rfl
  have cg2 := F2.out.cell 3 2 rfl rfl
  have cg3 := F2.out.cell 3 3 rfl rfl
  clear hb ba hY M2 F1
  go_wp2_with fail
  refine (M3.out _ F2.out.below).mono ?_
  rintro e w3 ⟨V, rfl, hV, hb⟩
  obtain ⟨az, kz, cz, rfl, hZ, -⟩ := wideN_inv hV
  have ba := (Below.refl _ w3).alloc (Nat.le_refl _) (.cells (wdC false az kz cz).toArray 93)
  have F3 := Lib.hid ((F2.out.call hb).alloc (wdC false az kz cz) 93)
  have HZ := Lib.hid (hZ.below ba)
  rw [hZ.len] at hDp
  have HX := Lib.hid (HX.out.below (below_then hb ba))
  have HY := Lib.hid (HY.out.below (below_then hb ba))
  clear cd0 cd1 cd2 cd3 cg0 cg1 cg2 cg3
  have cx0 := F3.out.cell 2 0 rfl rfl
  have cx1 := F3.out.cell 2 1 rfl rfl
  have cy0 := F3.out.cell 1 0 rfl rfl
  have cy1 := F3.out.cell 1 1 rfl rfl
  clear hb ba hZ hV M3 F2
  go_wp2_with fail
  refine (AD.out _ _ _ (wideZ HX.out) (wideZ HY.out)).mono ?_
  rintro e w4 ⟨V, rfl, ⟨at', kt, ct, rfl, -, -⟩, hb⟩
  have hz4 := HZ.out.below hb
  have HZB := Lib.hid (fun b off (e : az = some ⟨b, off, none⟩) => (show b < w4.heap.size from by
    obtain ⟨b', off', e', hlt, -⟩ := hz4.row hDp
    rw [e] at e'
    cases e'
    exact hlt))
  have ba := (Below.refl _ w4).alloc (Nat.le_refl _) (.cells (wdC (decide (X + Y < 0)) at' kt ct).toArray 93)
  have F4 := Lib.hid ((F3.out.call hb).alloc (wdC (decide (X + Y < 0)) at' kt ct) 93)
  have HX := Lib.hid (HX.out.below (below_then hb ba))
  have HY := Lib.hid (HY.out.below (below_then hb ba))
  have HZ := Lib.hid (HZ.out.below (below_then hb ba))
  clear cx0 cx1 cy0 cy1
  have cx0 := F4.out.cell 3 0 rfl rfl
  have cx1 := F4.out.cell 3 1 rfl rfl
  have cy0 := F4.out.cell 2 0 rfl rfl
  have cy1 := F4.out.cell 2 1 rfl rfl
  clear hb ba AD F3 hz4 hDp
  generalize decide (X + Y < 0) = nt at *
  go_wp2_with fail
  refine (SB.out _ _ _ (wideZ HX.out) (wideZ HY.out)).mono ?_
  rintro e w5 ⟨V, rfl, ⟨au, ku, cu, rfl, hU, hg⟩, hb⟩
  have FA := F4.out.call hb
  clear cx0 cx1 cy0 cy1
  have ct0 := FA.cell 0 0 rfl rfl
  have ft0 := FA.fz 0 0 rfl rfl
  have ct1 := FA.cell 0 1 rfl rfl
  have ft1 := FA.fz 0 1 rfl rfl
  have F5 := Lib.hid (FA.put 0 rfl (wdC (decide (X - Y < 0)) au ku cu) rfl)
  have lo := (F4.out.least 0 rfl).2
  have HU := Lib.hid (hU.setCells (c := w4.heap.size) (fun b off e => by have := hg b off e; omega) 0 (wdC (decide (X - Y < 0)) au ku cu))
  have HZ := Lib.hid ((HZ.out.below hb).setCells (c := w4.heap.size) (fun b off e => by have := HZB.out b off e; omega) 0 (wdC (decide (X - Y < 0)) au ku cu))
  have cu0 : ((w5.setCell ⟨w4.heap.size, 0, none⟩ (.bool (decide (X - Y < 0)))).setCell ⟨w4.heap.size, 1, none⟩ (.slice au ku cu)).cell? ⟨w4.heap.size, 0, none⟩ = some (.bool (decide (X - Y < 0))) := F5.out.cell 0 0 rfl rfl
  have cu1 : ((w5.setCell ⟨w4.heap.size, 0, none⟩ (.bool (decide (X - Y < 0)))).setCell ⟨w4.heap.size, 1, none⟩ (.slice au ku cu)).cell? ⟨w4.heap.size, 1, none⟩ = some (.slice au ku cu) := F5.out.cell 0 1 rfl rfl
  have cz0 : ((w5.setCell ⟨w4.heap.size, 0, none⟩ (.bool (decide (X - Y < 0)))).setCell ⟨w4.heap.size, 1, none⟩ (.slice au ku cu)).cell? ⟨w3.heap.size, 0, none⟩ = some (.bool false) := F5.out.cell 1 0 rfl rfl
  have cz1 : ((w5.setCell ⟨w4.heap.size, 0, none⟩ (.bool (decide (X - Y < 0)))).setCell ⟨w4.heap.size, 1, none⟩ (.slice au ku cu)).cell? ⟨w3.heap.size, 1, none⟩ = some (.slice az kz cz) := F5.out.cell 1 1 rfl rfl
  clear hb hU hg SB F4 FA HX HY lo
  go_wp2_with fail
  refine (RD.out _ _ _ (wideZ HU.out) (wideN (B := 0) HZ.out (fun _ _ _ => Nat.zero_le _))).mono ?_
  rintro e w6 ⟨V, rfl, hV, hb⟩
  have F6 := F5.out.call hb
  have cr0 := F6.cell 4 0 rfl rfl
  have fr0 := F6.fz 4 0 rfl rfl
  have cr1 := F6.cell 4 1 rfl rfl
  have fr1 := F6.fz 4 1 rfl rfl
  have cr2 := F6.cell 4 2 rfl rfl
  have fr2 := F6.fz 4 2 rfl rfl
  have cr3 := F6.cell 4 3 rfl rfl
  have fr3 := F6.fz 4 3 rfl rfl
  have lo := (F5.out.least 4 rfl).2
  have lw := F5.out.below.size
  obtain ⟨a, k, c, a', k', c', rfl, m1, m2, m3, m4⟩ := hV
  have FF := F6.put 4 rfl (frC (decide (p < 0)) a k c a' k' c') rfl
  have R := Lib.hid (FracZ.sets ⟨a, k, c, a', k', c', rfl, m1, m2, m3, m4⟩ _ lo 0 (frC (decide (p < 0)) a k c a' k' c'))
  have R := Lib.hid (R.out.mono lw)
  have G := Lib.hid (FF.get 4 rfl)
  have B := Lib.hid FF.below
  clear hb m1 m2 m3 m4 F6 FF F5 lo lw RD HU HZ cu0 cu1 cz0 cz1 HZB
  go_wp2_with fail
  exact bodyPost_ret (ret_cell_tmp Tryz.results71 _ _ _ _ _ rfl G.out Tryz.underlying95 rfl infoFr) rfl ⟨_, _, _, rfl, IS.out, R.out, B.out⟩
end Wd
end Go.Proofs.YtjgcbeihgeaimaaGreatDoor
/-
  The reference's fractions: Sub and Cmp.
-/
namespace Go.Proofs.YtjgcbeihgeaimaaGreatDoor
namespace Wd
open Go.RowKit Lw Tw

set_option maxRecDepth 100000 in
set_option maxHeartbeats 4000000 in
theorem rfsub_any (V1 V2 : Value) (p1 p2 : Int) (q1 q2 : Nat) (w : World) (h1 : FracZ 0 w V1 p1 q1) (k1 : 0 < q1) (g1 : Nat.gcd p1.natAbs q1 = 1) (x1 : (canon p1.natAbs).length ≤ 900) (y1 : (canon q1).length ≤ 900) (h2 : FracZ 0 w V2 p2 q2) (k2 : 0 < q2) (g2 : Nat.gcd p2.natAbs q2 = 1) (x2 : (canon p2.natAbs).length ≤ 900) (y2 : (canon q2).length ≤ 900) :
    Calls Tryz.prog 46 #[V1, V2] w (FracPost w (p1 * (q2 : Int) - p2 * (q1 : Int)) (q1 * q2)) := by
  have BO := Lib.hid (fun w' (hb : Below w.heap.size w w') => rfboth_any V1 V2 p1 p2 q1 q2 w' (h1.below hb) k1 g1 x1 y1 (h2.below hb) k2 g2 x2 y2)
  obtain ⟨a1, i1, c1, a1', i1', c1', rfl, hA1, hA1', -, -⟩ := h1
  obtain ⟨a2, i2, c2, a2', i2', c2', rfl, hA2, hA2', -, -⟩ := h2
  have PR := Lib.hid (fun w' (hb : Below w.heap.size w w') => rfless_any _ _ p1 p2 q1 q2 w' (FracZ.below ⟨a1, i1, c1, a1', i1', c1', rfl, hA1, hA1', fun _ _ _ => Nat.zero_le _, fun _ _ _ => Nat.zero_le _⟩ hb) k1 g1 x1 y1 (FracZ.below ⟨a2, i2, c2, a2', i2', c2', rfl, hA2, hA2', fun _ _ _ => Nat.zero_le _, fun _ _ _ => Nat.zero_le _⟩ hb) k2 g2 x2 y2)
  have F0 := (((Fr.start w).alloc (frC (decide (p1 < 0)) a1 i1 c1 a1' i1' c1') 95).alloc (frC (decide (p2 < 0)) a2 i2 c2 a2' i2' c2') 95).alloc (frC false none 0 0 none 0 0) 95
  simp only [World.size_alloc] at F0
  have F0 := Lib.hid F0
  generalize decide (p1 < 0) = n1 at *
  generalize decide (p2 < 0) = n2 at *
  generalize p1 * (q2 : Int) - p2 * (q1 : Int) = N at *
  generalize hDD : q1 * q2 = D at *
  clear hDD hA1 hA1' hA2 hA2' k1 k2 g1 g2 x1 x2 y1 y2
  go_enter Tryz.func46, Tryz.ntmps46
  go_wp2_with fail
  refine (BO.out _ F0.out.below).mono ?_
  rintro e w1 ⟨rfl, hb⟩
  have F1 := F0.out.call hb
  have cd0 := F1.cell 2 0 rfl rfl
  have cd1 := F1.cell 2 1 rfl rfl
  have cd2 := F1.cell 2 2 rfl rfl
  have cd3 := F1.cell 2 3 rfl rfl
  have cg0 := F1.cell 1 0 rfl rfl
  have cg1 := F1.cell 1 1 rfl rfl
  have cg2 := F1.cell 1 2 rfl rfl
  have cg3 := F1.cell 1 3 rfl rfl
  have F1 := Lib.hid F1
  clear hb F0 BO
  go_wp2_with fail
  refine (PR.out _ F1.out.below).mono ?_
  rintro e w3 ⟨V, p, q, rfl, hI, hV, hb⟩
  have F3 := F1.out.call hb
  have cr0 := F3.cell 0 0 rfl rfl
  have fr0 := F3.fz 0 0 rfl rfl
  have cr1 := F3.cell 0 1 rfl rfl
  have fr1 := F3.fz 0 1 rfl rfl
  have cr2 := F3.cell 0 2 rfl rfl
  have fr2 := F3.fz 0 2 rfl rfl
  have cr3 := F3.cell 0 3 rfl rfl
  have fr3 := F3.fz 0 3 rfl rfl
  have lo := (F1.out.least 0 rfl).2
  have lw := F1.out.below.size
  obtain ⟨a, k, c, a', k', c', rfl, m1, m2, m3, m4⟩ := hV
  have FF := F3.put 0 rfl (frC (decide (p < 0)) a k c a' k' c') rfl
  have R := Lib.hid (FracZ.sets ⟨a, k, c, a', k', c', rfl, m1, m2, m3, m4⟩ _ lo 0 (frC (decide (p < 0)) a k c a' k' c'))
  have R := Lib.hid (R.out.mono lw)
  have G := Lib.hid (FF.get 0 rfl)
  have B := Lib.hid FF.below
  have IS := Lib.hid hI
  clear hb m1 m2 m3 m4 F3 FF F1 lo lw hI PR cd0 cd1 cd2 cd3 cg0 cg1 cg2 cg3
  go_wp2_with fail
  exact bodyPost_ret (ret_cell_tmp Tryz.results46 _ _ _ _ _ rfl G.out Tryz.underlying95 rfl infoFr) rfl ⟨_, _, _, rfl, IS.out, R.out, B.out⟩
set_option maxRecDepth 100000 in
set_option maxHeartbeats 4000000 in
theorem rfcmp_any (V1 V2 : Value) (p1 p2 : Int) (q1 q2 : Nat) (w : World) (h1 : FracZ 0 w V1 p1 q1) (k1 : 0 < q1) (g1 : Nat.gcd p1.natAbs q1 = 1) (x1 : (canon p1.natAbs).length ≤ 900) (y1 : (canon q1).length ≤ 900) (h2 : FracZ 0 w V2 p2 q2) (k2 : 0 < q2) (g2 : Nat.gcd p2.natAbs q2 = 1) (x2 : (canon p2.natAbs).length ≤ 900) (y2 : (canon q2).length ≤ 900) :
    Calls Tryz.prog 75 #[V1, V2] w fun e w' => e = .returned (.tuple #[.int .i64 (cmpI (p1 * (q2 : Int)) (p2 * (q1 : Int))), .int .i64 0]) ∧ Below w.heap.size w w' := by
  have BO := Lib.hid (fun w' (hb : Below w.heap.size w w') => rfboth_any V1 V2 p1 p2 q1 q2 w' (h1.below hb) k1 g1 x1 y1 (h2.below hb) k2 g2 x2 y2)
  obtain ⟨a1, i1, c1, a1', i1', c1', rfl, hA1, hA1', -, -⟩ := h1
  obtain ⟨a2, i2, c2, a2', i2', c2', rfl, hA2, hA2', -, -⟩ := h2
  have e1 := hA1.len
  have e1' := hA1'.len
  have e2 := hA2.len
  have e2' := hA2'.len
  have M1 := Lib.hid (fun w' (hb : Below w.heap.size w w') => rmul_walk _ _ p1 (q2 : Int) w' (wideZ (hA1.below hb)) (wideN (B := 0) (hA2'.below hb) (fun _ _ _ => Nat.zero_le _)) (by rw [Int.natAbs_natCast]; omega))
  have M2 := Lib.hid (fun w' (hb : Below w.heap.size w w') => rmul_walk _ _ p2 (q1 : Int) w' (wideZ (hA2.below hb)) (wideN (B := 0) (hA1'.below hb) (fun _ _ _ => Nat.zero_le _)) (by rw [Int.natAbs_natCast]; omega))
  have F0 := ((Fr.start w).alloc (frC (decide (p1 < 0)) a1 i1 c1 a1' i1' c1') 95).alloc (frC (decide (p2 < 0)) a2 i2 c2 a2' i2' c2') 95
  simp only [World.size_alloc] at F0
  have F0 := Lib.hid F0
  generalize decide (p1 < 0) = n1 at *
  generalize decide (p2 < 0) = n2 at *
  generalize p1 * (q2 : Int) = X at *
  generalize p2 * (q1 : Int) = Y at *
  clear hA1 hA1' hA2 hA2' k1 k2 g1 g2 x1 x2 y1 y2 e1 e1' e2 e2'
  go_enter Tryz.func75, Tryz.ntmps75
  go_wp2_with fail
  refine (BO.out _ F0.out.below).mono ?_
  rintro e w1 ⟨rfl, hb⟩
  have F1 := F0.out.call hb
  have cd0 := F1.cell 1 0 rfl rfl
  have cd1 := F1.cell 1 1 rfl rfl
  have cd2 := F1.cell 1 2 rfl rfl
  have cd3 := F1.cell 1 3 rfl rfl
  have cg0 := F1.cell 0 0 rfl rfl
  have cg1 := F1.cell 0 1 rfl rfl
  have cg2 := F1.cell 0 2 rfl rfl
  have cg3 := F1.cell 0 3 rfl rfl
  have F1 := Lib.hid F1
  clear hb F0 BO
  go_wp2_with fail
  refine (M1.out _ F1.out.below).mono ?_
  rintro e w2 ⟨V, rfl, ⟨ax, kx, cx, rfl, hX, -⟩, hb⟩
  have ba := (Below.refl _ w2).alloc (Nat.le_refl _) (.cells (wdC (decide (X < 0)) ax kx cx).toArray 93)
  have F2 := Lib.hid ((F1.out.call hb).alloc (wdC (decide (X < 0)) ax kx cx) 93)
  have HX := Lib.hid (hX.below ba)
  clear cd0 cd1 cd2 cd3 cg0 cg1 cg2 cg3
  have cd0 := F2.out.cell 2 0 rfl rfl
  have cd1 := F2.out.cell 2 1 rfl rfl
  have cd2 := F2.out.cell 2 2 rfl rfl
  have cd3 := F2.out.cell 2 3 rfl rfl
  have cg0 := F2.out.cell 1 0 rfl rfl
  have cg1 := F2.out.cell 1 1 rfl rfl
  have cg2 := F2.out.cell 1 2 rfl rfl
  have cg3 := F2.out.cell 1 3 rfl rfl
  clear hb ba hX M1 F1
  go_wp2_with fail
  refine (M2.out _ F2.out.below).mono ?_
  rintro e w3 ⟨V, rfl, ⟨ay, ky, cy, rfl, hY, -⟩, hb⟩
  have ba := (Below.refl _ w3).alloc (Nat.le_refl _) (.cells (wdC (decide (Y < 0)) ay ky cy).toArray 93)
  have F3 := Lib.hid ((F2.out.call hb).alloc (wdC (decide (Y < 0)) ay ky cy) 93)
  have HY := Lib.hid (hY.below ba)
  have HX := Lib.hid (HX.out.below (below_then hb ba))
  clear cd0 cd1 cd2 cd3 cg0 cg1 cg2 cg3
  have cx0 := F3.out.cell 1 0 rfl rfl
  have cx1 := F3.out.cell 1 1 rfl rfl
  have cy0 := F3.out.cell 0 0 rfl rfl
  have cy1 := F3.out.cell 0 1 rfl rfl
  clear hb ba hY M2 F2
  have CP := rcompared_all _ _ X Y _ (wideZ HX.out) (wideZ HY.out)
  clear HX HY
  generalize decide (X < 0) = nx at *
  generalize decide (Y < 0) = ny at *
  go_wp2_with fail
  refine CP.mono ?_
  rintro e w4 ⟨rfl, hb⟩
  have F4 := Lib.hid (F3.out.call hb)
  clear hb F3 CP cx0 cx1 cy0 cy1
  go_wp2_with fail
  exact bodyPost_ret (results_tmp2 rfl _ _ _) rfl ⟨rfl, F4.out.below⟩
end Wd
end Go.Proofs.YtjgcbeihgeaimaaGreatDoor
/-
  The reference's tracklets: whole, over, most.
-/
namespace Go.Proofs.YtjgcbeihgeaimaaGreatDoor
namespace Wd
open Go.RowKit Lw Tw

set_option maxRecDepth 100000 in
set_option maxHeartbeats 4000000 in
theorem whole_any (t : Int) (w : World) (h0 : -9223372036854775808 ≤ t) (h1 : t < 9223372036854775808) :
    Calls Tryz.prog 47 #[.int .i64 t] w fun e w' => ∃ V, e = .returned V ∧ FracZ w.heap.size w' V t 1 ∧ Below w.heap.size w w' := by
  have F0 := Lib.hid ((Fr.start w).alloc (frC false none 0 0 none 0 0) 95)
  go_enter Tryz.func47, Tryz.ntmps47
  go_wp2_with fail
  refine (rwhole_any t _ h0 h1).mono ?_
  rintro e w2 ⟨V, rfl, hV, hb⟩
  have F2 := F0.out.call hb
  obtain ⟨a, k, c, a', k', c', rfl, m1, m2, m3, m4⟩ := hV
  have cr0 := F2.cell 0 0 rfl rfl
  have fr0 := F2.fz 0 0 rfl rfl
  have cr1 := F2.cell 0 1 rfl rfl
  have fr1 := F2.fz 0 1 rfl rfl
  have cr2 := F2.cell 0 2 rfl rfl
  have fr2 := F2.fz 0 2 rfl rfl
  have cr3 := F2.cell 0 3 rfl rfl
  have fr3 := F2.fz 0 3 rfl rfl
  have lo := (F0.out.least 0 rfl).2
  have lw := F0.out.below.size
  have FF := F2.put 0 rfl (frC (decide (t < 0)) a k c a' k' c') rfl
  have R := Lib.hid (FracZ.sets ⟨a, k, c, a', k', c', rfl, m1, m2, m3, m4⟩ _ lo 0 (frC (decide (t < 0)) a k c a' k' c'))
  have R := Lib.hid (R.out.mono lw)
  have G := Lib.hid (FF.get 0 rfl)
  have B := Lib.hid FF.below
  clear hb m1 m2 m3 m4 F2 FF F0 lo lw
  go_wp2_with fail
  exact bodyPost_ret (ret_cell Tryz.results47 _ _ w.heap.size _ _ rfl G.out Tryz.underlying95 rfl infoFr) rfl ⟨_, rfl, R.out, B.out⟩
theorem one_len : (canon 1).length ≤ 900 := Nat.le_trans (canon_len 1 1 (by decide)) (by decide)
theorem abs_len {t : Int} (h0 : -9223372036854775808 ≤ t) (h1 : t < 9223372036854775808) : (canon t.natAbs).length ≤ 2 := canon_len 2 _ (by omega)
set_option maxRecDepth 100000 in
set_option maxHeartbeats 4000000 in
theorem over_any (a b : Int) (c : Nat) (w : World) (a0 : -9223372036854775808 ≤ a) (a1 : a < 9223372036854775808) (b0 : -9223372036854775808 ≤ b) (b1 : b < 9223372036854775808) (c0 : 0 < c) (c1 : c < 9223372036854775808) :
    Calls Tryz.prog 48 #[.int .i64 a, .int .i64 b, .int .i64 c] w fun e w' => ∃ V p q, e = .returned V ∧ IsFrac (a * b) c p q ∧ FracZ w.heap.size w' V p q ∧ Below w.heap.size w w' := by
  have F0 := Lib.hid ((Fr.start w).alloc (frC false none 0 0 none 0 0) 95)
  have MU := Lib.hid (fun V1 V2 w' (h1 : FracZ 0 w' V1 a 1) (h2 : FracZ 0 w' V2 b 1) => rfmul_any V1 V2 a b 1 1 w' h1 (by decide) (by simp) (Nat.le_trans (abs_len a0 a1) (by decide)) one_len h2 (by decide) (by simp) (Nat.le_trans (abs_len b0 b1) (by decide)) one_len)
  have ll : (canon (a * b).natAbs).length ≤ 4 := by
    have := canon_mul_len a.natAbs b.natAbs
    have := abs_len a0 a1
    have := abs_len b0 b1
    rw [Int.natAbs_mul]; omega
  have DI := Lib.hid (fun V1 V2 p q w' (hI : IsFrac (a * b) (1 * 1) p q) (h1 : FracZ 0 w' V1 p q) (h2 : FracZ 0 w' V2 (c : Int) 1) => rfdiv_any V1 V2 p (c : Int) q 1 w' h1 hI.pos hI.cop (Nat.le_trans (Nat.le_trans (canon_mono hI.pn) ll) (by decide)) (Nat.le_trans (canon_mono hI.qd) one_len) h2 (by decide) (by simp) (by rw [Int.natAbs_natCast]; exact Nat.le_trans (canon_len 2 c (by omega)) (by decide)) one_len c rfl c0)
  have IS := Lib.hid (fun p q p2 q2 (hI : IsFrac (a * b) (1 * 1) p q) (hJ : IsFrac (p * ((1 : Nat) : Int)) (q * c) p2 q2) => (show IsFrac (a * b) c p2 q2 from by
    have e1 : q = 1 := by have := hI.qd; have := hI.pos; omega
    subst e1
    have e2 : p = a * b := by have := hI.eq; simpa using this
    subst e2
    simpa using hJ))
  clear ll
  go_enter Tryz.func48, Tryz.ntmps48
  go_wp2_with fail
  refine (whole_any a _ a0 a1).mono ?_
  rintro e w1 ⟨VA, rfl, hV, hb⟩
  have F1 := Lib.hid (F0.out.call hb)
  have HA := Lib.hid (hV.mono (Nat.zero_le _))
  clear hb hV F0
  go_wp2_with fail
  refine (whole_any b _ b0 b1).mono ?_
  rintro e w2 ⟨VB, rfl, hV, hb⟩
  have F2 := Lib.hid (F1.out.call hb)
  have HB := Lib.hid (hV.mono (Nat.zero_le _))
  have HA := Lib.hid (HA.out.below hb)
  clear hb hV F1
  go_wp2_with fail
  refine (MU.out _ _ _ HA.out HB.out).mono ?_
  rintro e w3 ⟨V, p, q, rfl, hI, hV, hb⟩
  have HI := Lib.hid hI
  obtain ⟨x, k, c', x', k', c'', rfl, m1, m2, m3, m4⟩ := hV
  have ba := (Below.refl _ w3).alloc (Nat.le_refl _) (.cells (frC (decide (p < 0)) x k c' x' k' c'').toArray 95)
  have HP := Lib.hid (FracZ.below (B := 0) ⟨x, k, c', x', k', c'', rfl, m1, m2, fun _ _ _ => Nat.zero_le _, fun _ _ _ => Nat.zero_le _⟩ ba)
  have F3 := Lib.hid ((F2.out.call hb).alloc (frC (decide (p < 0)) x k c' x' k' c'') 95)
  clear hb hI m1 m2 m3 m4 ba HA HB MU F2
  go_wp2_with fail
  have FQ := Lib.hid F3.out.two
  clear F3
  generalize hW : w3.alloc (.cells (frC (decide (p < 0)) x k c' x' k' c'').toArray 95) = W at *
  have KS := fun w' (h : Fr w [(w3.heap.size, frC (decide (p < 0)) x k c' x' k' c''), (w.heap.size, frC false none 0 0 none 0 0)] w') => (show w'.cell? ⟨w3.heap.size, 0, none⟩ = some (.bool (decide (p < 0))) ∧ w'.cell? ⟨w3.heap.size, 1, none⟩ = some (.slice x k c') ∧ w'.cell? ⟨w3.heap.size, 2, none⟩ = some (.bool false) ∧ w'.cell? ⟨w3.heap.size, 3, none⟩ = some (.slice x' k' c'') from ⟨h.cell 0 0 rfl rfl, h.cell 0 1 rfl rfl, h.cell 0 2 rfl rfl, h.cell 0 3 rfl rfl⟩)
  refine wp_region_held_drew (S := fun w' => w'.cell? ⟨w3.heap.size, 0, none⟩ = some (.bool (decide (p < 0))) ∧ w'.cell? ⟨w3.heap.size, 1, none⟩ = some (.slice x k c') ∧ w'.cell? ⟨w3.heap.size, 2, none⟩ = some (.bool false) ∧ w'.cell? ⟨w3.heap.size, 3, none⟩ = some (.slice x' k' c'')) (by kernel_rfl) (KS _ FQ.out.drew.1) (fun hHeld => ?_)
  have FQ := Lib.hid FQ.out.drew
  generalize W.drew = wd at *
  refine wpAnyH_take (i := 0) (oi := ?oi0x1) (v := ?v0x1) ?hi0x1 (by kernel_rfl) (by kernel_rfl) (by kernel_rfl) ?hq0x1 ?hy0x1 hHeld ?rest0x1
  case hi0x1 => ((try simp only [List.getElem?_toArray, List.getElem?_cons_succ, List.getElem?_cons_zero]); (try rfl))
  case hq0x1 => exact fun _ _ _ h => h
  case hy0x1 => exact Or.inl ⟨by rfl, by intro w hSw; obtain ⟨s0, s1, s2, s3⟩ := hSw; go_simp; try with_reducible rfl⟩
  try simp only [Act.put, List.setIfInBounds_toArray, List.set_cons_zero, List.set_cons_succ]
  refine wpAnyH_take (i := 1) (oi := ?oi1x2) (v := ?v1x2) ?hi1x2 (by kernel_rfl) (by kernel_rfl) (by kernel_rfl) ?hq1x2 ?hy1x2 hHeld ?rest1x2
  case hi1x2 => ((try simp only [List.getElem?_toArray, List.getElem?_cons_succ, List.getElem?_cons_zero]); (try rfl))
  case hq1x2 => exact fun _ _ _ h => h
  case hy1x2 => exact Or.inl ⟨by rfl, by intro w hSw; clear hSw; go_simp; try with_reducible rfl⟩
  try simp only [Act.put, List.setIfInBounds_toArray, List.set_cons_zero, List.set_cons_succ]
  refine wpAnyH_ready (rs := [2, 7]) (by kernel_rfl) (by simp) ?_
  refine AllReadyH.cons rfl (fun K' hK => ?_) (AllReadyH.cons rfl (fun K' hK => ?_) AllReadyH.nil)
  ·
    clear hHeld
    go_simp
    refine (whole_any (c : Int) _ (by omega) (by omega)).mono ?_
    rintro e w4 ⟨VC, rfl, hV, hb⟩
    have HC := Lib.hid (hV.mono (Nat.zero_le _))
    have FQ := Lib.hid (FQ.out.call hb)
    clear hb hV
    refine hK.out _ _ (KS _ FQ.out.1) (fun hHeld => ?_)
    clear hK
    try simp only [Act.put, List.setIfInBounds_toArray, List.set_cons_zero, List.set_cons_succ]
    refine wpAnyH_ready (rs := [3, 7]) (by kernel_rfl) (by simp) ?_
    refine AllReadyH.cons rfl (fun K' hK => ?_) (AllReadyH.cons rfl (fun K' hK => ?_) AllReadyH.nil)
    ·
      clear hHeld
      go_simp
      refine (DI.out _ _ p q _ HI.out (HP.out.below FQ.out.2) HC.out).mono ?_
      rintro e w5 ⟨V, p2, q2, rfl, hJ, hV, hb⟩
      have FQ0 := FQ
      have FQ := Lib.hid (FQ.out.call hb)
      obtain ⟨y, l, d, y', l', d', rfl, m1, m2, m3, m4⟩ := hV
      have HR := Lib.hid (show FracZ _ w5 (.agg (frC (decide (p2 < 0)) y l d y' l' d').toArray) p2 q2 from ⟨y, l, d, y', l', d', rfl, m1, m2, m3, m4⟩)
      have LO := Lib.hid (FQ0.out.1.least 1 rfl).2
      have IJ := Lib.hid (IS.out p q p2 q2 HI.out hJ)
      clear hb hJ HC m1 m2 m3 m4
      refine hK.out _ _ (KS _ FQ.out.1) (fun hHeld => ?_)
      clear hK
      try simp only [Act.put, List.setIfInBounds_toArray, List.set_cons_zero, List.set_cons_succ]
      refine wpAnyH_take (i := 4) (oi := ?oi4x3) (v := ?v4x3) ?hi4x3 (by kernel_rfl) (by kernel_rfl) (by kernel_rfl) ?hq4x3 ?hy4x3 hHeld ?rest4x3
      case hi4x3 => ((try simp only [List.getElem?_toArray, List.getElem?_cons_succ, List.getElem?_cons_zero]); (try rfl))
      case hq4x3 => exact fun _ _ _ h => h
      case hy4x3 => exact Or.inl ⟨by rfl, by intro w hSw; clear hSw; go_simp; try with_reducible rfl⟩
      try simp only [Act.put, List.setIfInBounds_toArray, List.set_cons_zero, List.set_cons_succ]
      refine wpAnyH_take (i := 5) (oi := ?oi5x4) (v := ?v5x4) ?hi5x4 (by kernel_rfl) (by kernel_rfl) (by kernel_rfl) ?hq5x4 ?hy5x4 hHeld ?rest5x4
      case hi5x4 => ((try simp only [List.getElem?_toArray, List.getElem?_cons_succ, List.getElem?_cons_zero]); (try rfl))
      case hq5x4 => exact fun _ _ _ h => h
      case hy5x4 => exact Or.inl ⟨by rfl, by intro w hSw; clear hSw; go_simp; try with_reducible rfl⟩
      try simp only [Act.put, List.setIfInBounds_toArray, List.set_cons_zero, List.set_cons_succ]
      refine wpAnyH_take (i := 6) (oi := ?oi6x5) (v := ?v6x5) ?hi6x5 (by kernel_rfl) (by kernel_rfl) (by kernel_rfl) ?hq6x5 ?hy6x5 hHeld ?rest6x5
      case hi6x5 => ((try simp only [List.getElem?_toArray, List.getElem?_cons_succ, List.getElem?_cons_zero]); (try rfl))
      case hq6x5 => exact fun _ _ _ h => h
      case hy6x5 => exact Or.inl ⟨by rfl, by intro w hSw; clear hSw; go_simp; try with_reducible rfl⟩
      try simp only [Act.put, List.setIfInBounds_toArray, List.set_cons_zero, List.set_cons_succ]
      refine wpAnyH_ready (rs := [7]) (by kernel_rfl) (by simp) ?_
      refine AllReadyH.cons rfl (fun K' hK => ?_) AllReadyH.nil
      have FP := FQ
      clear hHeld
      go_simp
      have FN := Lib.hid (FQ.out.alloc (frC false none 0 0 none 0 0) 95)
      have FQ := Lib.hid FN.out.tail
      refine hK.out _ _ (KS _ FQ.out.1) (fun hHeld => ?_)
      clear hK
      try simp only [Act.put, List.setIfInBounds_toArray, List.set_cons_zero, List.set_cons_succ]
      refine wpAnyH_ready (rs := [8]) (by kernel_rfl) (by simp) ?_
      refine AllReadyH.cons rfl (fun K' hK => ?_) AllReadyH.nil
      clear hHeld FN
      go_simp
      have FT : Hid (Fr w [(w5.heap.size, frC (decide (p2 < 0)) y l d y' l' d'), (w3.heap.size, frC (decide (p < 0)) x k c' x' k' c''), (w.heap.size, frC false none 0 0 none 0 0)] (w5.alloc (.cells #[.bool (decide (p2 < 0)), .slice y l d, .bool false, .slice y' l' d'] 95))) := Lib.hid (FP.out.1.alloc (frC (decide (p2 < 0)) y l d y' l' d') 95)
      have HT : Hid (FracZ (w.heap.size + 1) (w5.alloc (.cells #[.bool (decide (p2 < 0)), .slice y l d, .bool false, .slice y' l' d'] 95)) (.agg (frC (decide (p2 < 0)) y l d y' l' d').toArray) p2 q2) := Lib.hid ((HR.out.mono (Nat.succ_le_of_lt LO.out)).below ((Below.refl _ w5).alloc (Nat.le_refl _) _))
      refine hK.out _ _ (KS _ FT.out.tail) (fun hHeld => ?_)
      clear hK
      try simp only [Act.put, List.setIfInBounds_toArray, List.set_cons_zero, List.set_cons_succ]
      generalize (w5.alloc (.cells #[.bool (decide (p2 < 0)), .slice y l d, .bool false, .slice y' l' d'] 95)) = wz at *
      have ct0 := FT.out.cell 0 0 rfl rfl
      have ct1 := FT.out.cell 0 1 rfl rfl
      have ct2 := FT.out.cell 0 2 rfl rfl
      have ct3 := FT.out.cell 0 3 rfl rfl
      have cr0 := FT.out.cell 2 0 rfl rfl
      have fr0 := FT.out.fz 2 0 rfl rfl
      have cr1 := FT.out.cell 2 1 rfl rfl
      have fr1 := FT.out.fz 2 1 rfl rfl
      have cr2 := FT.out.cell 2 2 rfl rfl
      have fr2 := FT.out.fz 2 2 rfl rfl
      have cr3 := FT.out.cell 2 3 rfl rfl
      have fr3 := FT.out.fz 2 3 rfl rfl
      refine wpAnyH_take (i := 9) (oi := ?oi9x6) (v := ?v9x6) ?hi9x6 (by kernel_rfl) (by kernel_rfl) (by kernel_rfl) ?hq9x6 ?hy9x6 hHeld ?rest9x6
      case hi9x6 => ((try simp only [List.getElem?_toArray, List.getElem?_cons_succ, List.getElem?_cons_zero]); (try rfl))
      case hq9x6 => exact fun _ _ _ h => h
      case hy9x6 => exact Or.inl ⟨by rfl, by intro w hSw; clear hSw; go_simp; try with_reducible rfl⟩
      try simp only [Act.put, List.setIfInBounds_toArray, List.set_cons_zero, List.set_cons_succ]
      refine wpAnyH_done (by kernel_rfl) ?_ _
      clear hHeld
      clear KS FQ HR LO FP
      go_wp2_with fail
      have FF := FT.out.put 2 rfl (frC (decide (p2 < 0)) y l d y' l' d') rfl
      exact bodyPost_ret (ret_cell Tryz.results48 _ _ w.heap.size _ _ rfl (FF.get 2 rfl) Tryz.underlying95 rfl infoFr) rfl ⟨_, p2, q2, rfl, IJ.out, (HT.out.sets w.heap.size (Nat.lt_succ_self _) 0 (frC (decide (p2 < 0)) y l d y' l' d')).mono (Nat.le_succ _), FF.below⟩
    ·
      have HC := Lib.hid (HC.out.below ((Below.refl _ w4).alloc (Nat.le_refl _) (.cells (frC false none 0 0 none 0 0).toArray 95)))
      clear hHeld
      go_simp
      have FN := Lib.hid (FQ.out.alloc (frC false none 0 0 none 0 0) 95)
      have FQ := Lib.hid FN.out.tail
      refine hK.out _ _ (KS _ FQ.out.1) (fun hHeld => ?_)
      clear hK
      try simp only [Act.put, List.setIfInBounds_toArray, List.set_cons_zero, List.set_cons_succ]
      refine wpAnyH_ready (rs := [3]) (by kernel_rfl) (by simp) ?_
      refine AllReadyH.cons rfl (fun K' hK => ?_) AllReadyH.nil
      clear hHeld
      go_simp
      refine (DI.out _ _ p q _ HI.out (HP.out.below FQ.out.2) HC.out).mono ?_
      rintro e w5 ⟨V, p2, q2, rfl, hJ, hV, hb⟩
      have FN0 := FN
      have FQ0 := FQ
      have FN := Lib.hid (FN.out.call hb)
      have FQ := Lib.hid FN.out.tail
      obtain ⟨y, l, d, y', l', d', rfl, m1, m2, m3, m4⟩ := hV
      have HR := Lib.hid (show FracZ _ w5 (.agg (frC (decide (p2 < 0)) y l d y' l' d').toArray) p2 q2 from ⟨y, l, d, y', l', d', rfl, m1, m2, m3, m4⟩)
      have LO := Lib.hid (FQ0.out.1.least 1 rfl).2
      have IJ := Lib.hid (IS.out p q p2 q2 HI.out hJ)
      clear hb hJ HC m1 m2 m3 m4
      refine hK.out _ _ (KS _ FQ.out.1) (fun hHeld => ?_)
      clear hK
      try simp only [Act.put, List.setIfInBounds_toArray, List.set_cons_zero, List.set_cons_succ]
      refine wpAnyH_take (i := 4) (oi := ?oi4x7) (v := ?v4x7) ?hi4x7 (by kernel_rfl) (by kernel_rfl) (by kernel_rfl) ?hq4x7 ?hy4x7 hHeld ?rest4x7
      case hi4x7 => ((try simp only [List.getElem?_toArray, List.getElem?_cons_succ, List.getElem?_cons_zero]); (try rfl))
      case hq4x7 => exact fun _ _ _ h => h
      case hy4x7 => exact Or.inl ⟨by rfl, by intro w hSw; clear hSw; go_simp; try with_reducible rfl⟩
      try simp only [Act.put, List.setIfInBounds_toArray, List.set_cons_zero, List.set_cons_succ]
      refine wpAnyH_take (i := 5) (oi := ?oi5x8) (v := ?v5x8) ?hi5x8 (by kernel_rfl) (by kernel_rfl) (by kernel_rfl) ?hq5x8 ?hy5x8 hHeld ?rest5x8
      case hi5x8 => ((try simp only [List.getElem?_toArray, List.getElem?_cons_succ, List.getElem?_cons_zero]); (try rfl))
      case hq5x8 => exact fun _ _ _ h => h
      case hy5x8 => exact Or.inl ⟨by rfl, by intro w hSw; clear hSw; go_simp; try with_reducible rfl⟩
      try simp only [Act.put, List.setIfInBounds_toArray, List.set_cons_zero, List.set_cons_succ]
      refine wpAnyH_take (i := 6) (oi := ?oi6x9) (v := ?v6x9) ?hi6x9 (by kernel_rfl) (by kernel_rfl) (by kernel_rfl) ?hq6x9 ?hy6x9 hHeld ?rest6x9
      case hi6x9 => ((try simp only [List.getElem?_toArray, List.getElem?_cons_succ, List.getElem?_cons_zero]); (try rfl))
      case hq6x9 => exact fun _ _ _ h => h
      case hy6x9 => exact Or.inl ⟨by rfl, by intro w hSw; clear hSw; go_simp; try with_reducible rfl⟩
      try simp only [Act.put, List.setIfInBounds_toArray, List.set_cons_zero, List.set_cons_succ]
      refine wpAnyH_ready (rs := [8]) (by kernel_rfl) (by simp) ?_
      refine AllReadyH.cons rfl (fun K' hK => ?_) AllReadyH.nil
      have n0 := FN.out.1.cell 0 0 rfl rfl
      have z0 := FN.out.1.fz 0 0 rfl rfl
      have n1 := FN.out.1.cell 0 1 rfl rfl
      have z1 := FN.out.1.fz 0 1 rfl rfl
      have n2 := FN.out.1.cell 0 2 rfl rfl
      have z2 := FN.out.1.fz 0 2 rfl rfl
      have n3 := FN.out.1.cell 0 3 rfl rfl
      have z3 := FN.out.1.fz 0 3 rfl rfl
      clear hHeld
      go_simp
      clear n0 n1 n2 n3 z0 z1 z2 z3
      have FT : Hid (Fr w [(w4.heap.size, frC (decide (p2 < 0)) y l d y' l' d'), (w3.heap.size, frC (decide (p < 0)) x k c' x' k' c''), (w.heap.size, frC false none 0 0 none 0 0)] ((((w5.setCell ⟨w4.heap.size, 0, none⟩ (.bool (decide (p2 < 0)))).setCell ⟨w4.heap.size, 1, none⟩ (.slice y l d)).setCell ⟨w4.heap.size, 2, none⟩ (.bool false)).setCell ⟨w4.heap.size, 3, none⟩ (.slice y' l' d'))) := Lib.hid (FN.out.1.put 0 rfl (frC (decide (p2 < 0)) y l d y' l' d') rfl)
      have HT : Hid (FracZ (w.heap.size + 1) ((((w5.setCell ⟨w4.heap.size, 0, none⟩ (.bool (decide (p2 < 0)))).setCell ⟨w4.heap.size, 1, none⟩ (.slice y l d)).setCell ⟨w4.heap.size, 2, none⟩ (.bool false)).setCell ⟨w4.heap.size, 3, none⟩ (.slice y' l' d')) (.agg (frC (decide (p2 < 0)) y l d y' l' d').toArray) p2 q2) := Lib.hid ((HR.out.sets w4.heap.size (FN0.out.1.least 0 rfl).2 0 (frC (decide (p2 < 0)) y l d y' l' d')).mono (Nat.succ_le_of_lt LO.out))
      refine hK.out _ _ (KS _ FT.out.tail) (fun hHeld => ?_)
      clear hK
      try simp only [Act.put, List.setIfInBounds_toArray, List.set_cons_zero, List.set_cons_succ]
      generalize ((((w5.setCell ⟨w4.heap.size, 0, none⟩ (.bool (decide (p2 < 0)))).setCell ⟨w4.heap.size, 1, none⟩ (.slice y l d)).setCell ⟨w4.heap.size, 2, none⟩ (.bool false)).setCell ⟨w4.heap.size, 3, none⟩ (.slice y' l' d')) = wz at *
      have ct0 := FT.out.cell 0 0 rfl rfl
      have ct1 := FT.out.cell 0 1 rfl rfl
      have ct2 := FT.out.cell 0 2 rfl rfl
      have ct3 := FT.out.cell 0 3 rfl rfl
      have cr0 := FT.out.cell 2 0 rfl rfl
      have fr0 := FT.out.fz 2 0 rfl rfl
      have cr1 := FT.out.cell 2 1 rfl rfl
      have fr1 := FT.out.fz 2 1 rfl rfl
      have cr2 := FT.out.cell 2 2 rfl rfl
      have fr2 := FT.out.fz 2 2 rfl rfl
      have cr3 := FT.out.cell 2 3 rfl rfl
      have fr3 := FT.out.fz 2 3 rfl rfl
      refine wpAnyH_take (i := 9) (oi := ?oi9x10) (v := ?v9x10) ?hi9x10 (by kernel_rfl) (by kernel_rfl) (by kernel_rfl) ?hq9x10 ?hy9x10 hHeld ?rest9x10
      case hi9x10 => ((try simp only [List.getElem?_toArray, List.getElem?_cons_succ, List.getElem?_cons_zero]); (try rfl))
      case hq9x10 => exact fun _ _ _ h => h
      case hy9x10 => exact Or.inl ⟨by rfl, by intro w hSw; clear hSw; go_simp; try with_reducible rfl⟩
      try simp only [Act.put, List.setIfInBounds_toArray, List.set_cons_zero, List.set_cons_succ]
      refine wpAnyH_done (by kernel_rfl) ?_ _
      clear hHeld
      clear KS FQ HR LO FN FN0 FQ0
      go_wp2_with fail
      have FF := FT.out.put 2 rfl (frC (decide (p2 < 0)) y l d y' l' d') rfl
      exact bodyPost_ret (ret_cell Tryz.results48 _ _ w.heap.size _ _ rfl (FF.get 2 rfl) Tryz.underlying95 rfl infoFr) rfl ⟨_, p2, q2, rfl, IJ.out, (HT.out.sets w.heap.size (Nat.lt_succ_self _) 0 (frC (decide (p2 < 0)) y l d y' l' d')).mono (Nat.le_succ _), FF.below⟩
  ·
    clear hHeld
    go_simp
    have FN := Lib.hid (FQ.out.alloc (frC false none 0 0 none 0 0) 95)
    have FQ := Lib.hid FN.out.tail
    refine hK.out _ _ (KS _ FQ.out.1) (fun hHeld => ?_)
    clear hK
    try simp only [Act.put, List.setIfInBounds_toArray, List.set_cons_zero, List.set_cons_succ]
    refine wpAnyH_ready (rs := [2]) (by kernel_rfl) (by simp) ?_
    refine AllReadyH.cons rfl (fun K' hK => ?_) AllReadyH.nil
    clear hHeld
    go_simp
    refine (whole_any (c : Int) _ (by omega) (by omega)).mono ?_
    rintro e w4 ⟨VC, rfl, hV, hb⟩
    have HC := Lib.hid (hV.mono (Nat.zero_le _))
    have FN := Lib.hid (FN.out.call hb)
    have FQ := Lib.hid FN.out.tail
    clear hb hV
    refine hK.out _ _ (KS _ FQ.out.1) (fun hHeld => ?_)
    clear hK
    try simp only [Act.put, List.setIfInBounds_toArray, List.set_cons_zero, List.set_cons_succ]
    refine wpAnyH_ready (rs := [3]) (by kernel_rfl) (by simp) ?_
    refine AllReadyH.cons rfl (fun K' hK => ?_) AllReadyH.nil
    clear hHeld
    go_simp
    refine (DI.out _ _ p q _ HI.out (HP.out.below FQ.out.2) HC.out).mono ?_
    rintro e w5 ⟨V, p2, q2, rfl, hJ, hV, hb⟩
    have FN0 := FN
    have FQ0 := FQ
    have FN := Lib.hid (FN.out.call hb)
    have FQ := Lib.hid FN.out.tail
    obtain ⟨y, l, d, y', l', d', rfl, m1, m2, m3, m4⟩ := hV
    have HR := Lib.hid (show FracZ _ w5 (.agg (frC (decide (p2 < 0)) y l d y' l' d').toArray) p2 q2 from ⟨y, l, d, y', l', d', rfl, m1, m2, m3, m4⟩)
    have LO := Lib.hid (FQ0.out.1.least 1 rfl).2
    have IJ := Lib.hid (IS.out p q p2 q2 HI.out hJ)
    clear hb hJ HC m1 m2 m3 m4
    refine hK.out _ _ (KS _ FQ.out.1) (fun hHeld => ?_)
    clear hK
    try simp only [Act.put, List.setIfInBounds_toArray, List.set_cons_zero, List.set_cons_succ]
    refine wpAnyH_take (i := 4) (oi := ?oi4x11) (v := ?v4x11) ?hi4x11 (by kernel_rfl) (by kernel_rfl) (by kernel_rfl) ?hq4x11 ?hy4x11 hHeld ?rest4x11
    case hi4x11 => ((try simp only [List.getElem?_toArray, List.getElem?_cons_succ, List.getElem?_cons_zero]); (try rfl))
    case hq4x11 => exact fun _ _ _ h => h
    case hy4x11 => exact Or.inl ⟨by rfl, by intro w hSw; clear hSw; go_simp; try with_reducible rfl⟩
    try simp only [Act.put, List.setIfInBounds_toArray, List.set_cons_zero, List.set_cons_succ]
    refine wpAnyH_take (i := 5) (oi := ?oi5x12) (v := ?v5x12) ?hi5x12 (by kernel_rfl) (by kernel_rfl) (by kernel_rfl) ?hq5x12 ?hy5x12 hHeld ?rest5x12
    case hi5x12 => ((try simp only [List.getElem?_toArray, List.getElem?_cons_succ, List.getElem?_cons_zero]); (try rfl))
    case hq5x12 => exact fun _ _ _ h => h
    case hy5x12 => exact Or.inl ⟨by rfl, by intro w hSw; clear hSw; go_simp; try with_reducible rfl⟩
    try simp only [Act.put, List.setIfInBounds_toArray, List.set_cons_zero, List.set_cons_succ]
    refine wpAnyH_take (i := 6) (oi := ?oi6x13) (v := ?v6x13) ?hi6x13 (by kernel_rfl) (by kernel_rfl) (by kernel_rfl) ?hq6x13 ?hy6x13 hHeld ?rest6x13
    case hi6x13 => ((try simp only [List.getElem?_toArray, List.getElem?_cons_succ, List.getElem?_cons_zero]); (try rfl))
    case hq6x13 => exact fun _ _ _ h => h
    case hy6x13 => exact Or.inl ⟨by rfl, by intro w hSw; clear hSw; go_simp; try with_reducible rfl⟩
    try simp only [Act.put, List.setIfInBounds_toArray, List.set_cons_zero, List.set_cons_succ]
    refine wpAnyH_ready (rs := [8]) (by kernel_rfl) (by simp) ?_
    refine AllReadyH.cons rfl (fun K' hK => ?_) AllReadyH.nil
    have n0 := FN.out.1.cell 0 0 rfl rfl
    have z0 := FN.out.1.fz 0 0 rfl rfl
    have n1 := FN.out.1.cell 0 1 rfl rfl
    have z1 := FN.out.1.fz 0 1 rfl rfl
    have n2 := FN.out.1.cell 0 2 rfl rfl
    have z2 := FN.out.1.fz 0 2 rfl rfl
    have n3 := FN.out.1.cell 0 3 rfl rfl
    have z3 := FN.out.1.fz 0 3 rfl rfl
    clear hHeld
    go_simp
    clear n0 n1 n2 n3 z0 z1 z2 z3
    have FT : Hid (Fr w [(wd.heap.size, frC (decide (p2 < 0)) y l d y' l' d'), (w3.heap.size, frC (decide (p < 0)) x k c' x' k' c''), (w.heap.size, frC false none 0 0 none 0 0)] ((((w5.setCell ⟨wd.heap.size, 0, none⟩ (.bool (decide (p2 < 0)))).setCell ⟨wd.heap.size, 1, none⟩ (.slice y l d)).setCell ⟨wd.heap.size, 2, none⟩ (.bool false)).setCell ⟨wd.heap.size, 3, none⟩ (.slice y' l' d'))) := Lib.hid (FN.out.1.put 0 rfl (frC (decide (p2 < 0)) y l d y' l' d') rfl)
    have HT : Hid (FracZ (w.heap.size + 1) ((((w5.setCell ⟨wd.heap.size, 0, none⟩ (.bool (decide (p2 < 0)))).setCell ⟨wd.heap.size, 1, none⟩ (.slice y l d)).setCell ⟨wd.heap.size, 2, none⟩ (.bool false)).setCell ⟨wd.heap.size, 3, none⟩ (.slice y' l' d')) (.agg (frC (decide (p2 < 0)) y l d y' l' d').toArray) p2 q2) := Lib.hid ((HR.out.sets wd.heap.size (FN0.out.1.least 0 rfl).2 0 (frC (decide (p2 < 0)) y l d y' l' d')).mono (Nat.succ_le_of_lt LO.out))
    refine hK.out _ _ (KS _ FT.out.tail) (fun hHeld => ?_)
    clear hK
    try simp only [Act.put, List.setIfInBounds_toArray, List.set_cons_zero, List.set_cons_succ]
    generalize ((((w5.setCell ⟨wd.heap.size, 0, none⟩ (.bool (decide (p2 < 0)))).setCell ⟨wd.heap.size, 1, none⟩ (.slice y l d)).setCell ⟨wd.heap.size, 2, none⟩ (.bool false)).setCell ⟨wd.heap.size, 3, none⟩ (.slice y' l' d')) = wz at *
    have ct0 := FT.out.cell 0 0 rfl rfl
    have ct1 := FT.out.cell 0 1 rfl rfl
    have ct2 := FT.out.cell 0 2 rfl rfl
    have ct3 := FT.out.cell 0 3 rfl rfl
    have cr0 := FT.out.cell 2 0 rfl rfl
    have fr0 := FT.out.fz 2 0 rfl rfl
    have cr1 := FT.out.cell 2 1 rfl rfl
    have fr1 := FT.out.fz 2 1 rfl rfl
    have cr2 := FT.out.cell 2 2 rfl rfl
    have fr2 := FT.out.fz 2 2 rfl rfl
    have cr3 := FT.out.cell 2 3 rfl rfl
    have fr3 := FT.out.fz 2 3 rfl rfl
    refine wpAnyH_take (i := 9) (oi := ?oi9x14) (v := ?v9x14) ?hi9x14 (by kernel_rfl) (by kernel_rfl) (by kernel_rfl) ?hq9x14 ?hy9x14 hHeld ?rest9x14
    case hi9x14 => ((try simp only [List.getElem?_toArray, List.getElem?_cons_succ, List.getElem?_cons_zero]); (try rfl))
    case hq9x14 => exact fun _ _ _ h => h
    case hy9x14 => exact Or.inl ⟨by rfl, by intro w hSw; clear hSw; go_simp; try with_reducible rfl⟩
    try simp only [Act.put, List.setIfInBounds_toArray, List.set_cons_zero, List.set_cons_succ]
    refine wpAnyH_done (by kernel_rfl) ?_ _
    clear hHeld
    clear KS FQ HR LO FN FN0 FQ0
    go_wp2_with fail
    have FF := FT.out.put 2 rfl (frC (decide (p2 < 0)) y l d y' l' d') rfl
    exact bodyPost_ret (ret_cell Tryz.results48 _ _ w.heap.size _ _ rfl (FF.get 2 rfl) Tryz.underlying95 rfl infoFr) rfl ⟨_, p2, q2, rfl, IJ.out, (HT.out.sets w.heap.size (Nat.lt_succ_self _) 0 (frC (decide (p2 < 0)) y l d y' l' d')).mono (Nat.le_succ _), FF.below⟩
end Wd
end Go.Proofs.YtjgcbeihgeaimaaGreatDoor
/-
  The reference's tracklets: most.
-/
namespace Go.Proofs.YtjgcbeihgeaimaaGreatDoor
namespace Wd
open Go.RowKit Lw Tw

theorem cmp_most (X Y : Int) : decide (cmpI X Y ≤ 0) = decide (X ≤ Y) := by
  refine decide_eq_decide.2 ?_
  unfold cmpI
  split
  · omega
  · split <;> omega
set_option maxRecDepth 100000 in
set_option maxHeartbeats 4000000 in
theorem most_any (V : Value) (p : Int) (q : Nat) (n : Int) (w : World) (h : FracZ 0 w V p q) (hq : 0 < q) (hc : Nat.gcd p.natAbs q = 1) (lp : (canon p.natAbs).length ≤ 900) (lq : (canon q).length ≤ 900) (n0 : 0 ≤ n) (n1 : n < 9223372036854775808) :
    Calls Tryz.prog 49 #[V, .int .i64 n] w fun e w' => e = .returned (.bool (decide ((p.natAbs : Int) ≤ n * (q : Int)))) ∧ Below w.heap.size w w' := by
  have NL := Nat.le_trans (abs_len (t := n) (by omega) n1) (show 2 ≤ 900 by decide)
  obtain ⟨a, k, c, a', k', c', rfl, hA, hA', -, -⟩ := h
  have CM := Lib.hid (fun V2 w' (hb : Below w.heap.size w w') (h2 : FracZ 0 w' V2 n 1) => rfcmp_any (.agg #[.bool false, .slice a k c, .bool false, .slice a' k' c']) V2 (p.natAbs : Int) n q 1 w' ⟨a, k, c, a', k', c', by rw [decide_eq_false (by omega)], by rw [Int.natAbs_natCast]; exact hA.below hb, hA'.below hb, fun _ _ _ => Nat.zero_le _, fun _ _ _ => Nat.zero_le _⟩ hq (by rw [Int.natAbs_natCast]; exact hc) (by rw [Int.natAbs_natCast]; exact lp) lq h2 (by decide) (by simp) NL one_len)
  have E := Lib.hid (cmp_most ((p.natAbs : Int) * ((1 : Nat) : Int)) (n * (q : Int)))
  have E2 : Hid (decide ((p.natAbs : Int) * ((1 : Nat) : Int) ≤ n * (q : Int)) = decide ((p.natAbs : Int) ≤ n * (q : Int))) := Lib.hid (by simp)
  generalize cmpI ((p.natAbs : Int) * ((1 : Nat) : Int)) (n * (q : Int)) = cc at *
  have F0 := Lib.hid ((Fr.start w).alloc (frC false a k c a' k' c') 95)
  clear hA hA' hq hc lp lq NL
  go_enter Tryz.func49, Tryz.ntmps49
  go_wp2_with fail
  have KS := fun w' (h : Fr w [(w.heap.size, frC false a k c a' k' c')] w') => (show w'.cell? ⟨w.heap.size, 0, none⟩ = some (.bool false) ∧ w'.cell? ⟨w.heap.size, 1, none⟩ = some (.slice a k c) ∧ w'.cell? ⟨w.heap.size, 2, none⟩ = some (.bool false) ∧ w'.cell? ⟨w.heap.size, 3, none⟩ = some (.slice a' k' c') from ⟨h.cell 0 0 rfl rfl, h.cell 0 1 rfl rfl, h.cell 0 2 rfl rfl, h.cell 0 3 rfl rfl⟩)
  refine wp_region_held_drew (S := fun w' => w'.cell? ⟨w.heap.size, 0, none⟩ = some (.bool false) ∧ w'.cell? ⟨w.heap.size, 1, none⟩ = some (.slice a k c) ∧ w'.cell? ⟨w.heap.size, 2, none⟩ = some (.bool false) ∧ w'.cell? ⟨w.heap.size, 3, none⟩ = some (.slice a' k' c')) (by kernel_rfl) (KS _ F0.out.drew) (fun hHeld => ?_)
  have FQ := Lib.hid F0.out.drew
  clear F0
  refine wpAnyH_take (i := 0) (oi := ?oi0x15) (v := ?v0x15) ?hi0x15 (by kernel_rfl) (by kernel_rfl) (by kernel_rfl) ?hq0x15 ?hy0x15 hHeld ?rest0x15
  case hi0x15 => ((try simp only [List.getElem?_toArray, List.getElem?_cons_succ, List.getElem?_cons_zero]); (try rfl))
  case hq0x15 => exact fun _ _ _ h => h
  case hy0x15 => exact Or.inl ⟨by rfl, by intro w hSw; obtain ⟨s0, s1, s2, s3⟩ := hSw; go_simp; try with_reducible rfl⟩
  try simp only [Act.put, List.setIfInBounds_toArray, List.set_cons_zero, List.set_cons_succ]
  refine wpAnyH_take (i := 1) (oi := ?oi1x16) (v := ?v1x16) ?hi1x16 (by kernel_rfl) (by kernel_rfl) (by kernel_rfl) ?hq1x16 ?hy1x16 hHeld ?rest1x16
  case hi1x16 => ((try simp only [List.getElem?_toArray, List.getElem?_cons_succ, List.getElem?_cons_zero]); (try rfl))
  case hq1x16 => exact fun _ _ _ h => h
  case hy1x16 => exact Or.inl ⟨by rfl, by intro w hSw; clear hSw; go_simp; try with_reducible rfl⟩
  try simp only [Act.put, List.setIfInBounds_toArray, List.set_cons_zero, List.set_cons_succ]
  refine wpAnyH_ready (rs := [2]) (by kernel_rfl) (by simp) ?_
  refine AllReadyH.cons rfl (fun K' hK => ?_) AllReadyH.nil
  clear hHeld
  go_simp
  refine (whole_any n _ (by omega) n1).mono ?_
  rintro e w4 ⟨VC, rfl, hV, hb⟩
  have HC := Lib.hid (hV.mono (Nat.zero_le _))
  have FQ := Lib.hid (FQ.out.call hb)
  clear hb hV
  refine hK.out _ _ (KS _ FQ.out) (fun hHeld => ?_)
  clear hK
  try simp only [Act.put, List.setIfInBounds_toArray, List.set_cons_zero, List.set_cons_succ]
  refine wpAnyH_ready (rs := [3]) (by kernel_rfl) (by simp) ?_
  refine AllReadyH.cons rfl (fun K' hK => ?_) AllReadyH.nil
  clear hHeld
  go_simp
  refine (CM.out _ _ FQ.out.below HC.out).mono ?_
  rintro e w5 ⟨rfl, hb⟩
  have FQ := Lib.hid (FQ.out.call hb)
  clear hb HC CM
  refine hK.out _ _ (KS _ FQ.out) (fun hHeld => ?_)
  clear hK
  try simp only [Act.put, List.setIfInBounds_toArray, List.set_cons_zero, List.set_cons_succ]
  refine wpAnyH_take (i := 4) (oi := ?oi4x17) (v := ?v4x17) ?hi4x17 (by kernel_rfl) (by kernel_rfl) (by kernel_rfl) ?hq4x17 ?hy4x17 hHeld ?rest4x17
  case hi4x17 => ((try simp only [List.getElem?_toArray, List.getElem?_cons_succ, List.getElem?_cons_zero]); (try rfl))
  case hq4x17 => exact fun _ _ _ h => h
  case hy4x17 => exact Or.inl ⟨by rfl, by intro w hSw; clear hSw; go_simp; try with_reducible rfl⟩
  try simp only [Act.put, List.setIfInBounds_toArray, List.set_cons_zero, List.set_cons_succ]
  refine wpAnyH_take (i := 5) (oi := ?oi5x18) (v := ?v5x18) ?hi5x18 (by kernel_rfl) (by kernel_rfl) (by kernel_rfl) ?hq5x18 ?hy5x18 hHeld ?rest5x18
  case hi5x18 => ((try simp only [List.getElem?_toArray, List.getElem?_cons_succ, List.getElem?_cons_zero]); (try rfl))
  case hq5x18 => exact fun _ _ _ h => h
  case hy5x18 => exact Or.inl ⟨by rfl, by intro w hSw; clear hSw; go_simp; try with_reducible rfl⟩
  try simp only [Act.put, List.setIfInBounds_toArray, List.set_cons_zero, List.set_cons_succ]
  refine wpAnyH_take (i := 6) (oi := ?oi6x19) (v := ?v6x19) ?hi6x19 (by kernel_rfl) (by kernel_rfl) (by kernel_rfl) ?hq6x19 ?hy6x19 hHeld ?rest6x19
  case hi6x19 => ((try simp only [List.getElem?_toArray, List.getElem?_cons_succ, List.getElem?_cons_zero]); (try rfl))
  case hq6x19 => exact fun _ _ _ h => h
  case hy6x19 => exact Or.inl ⟨by rfl, by intro w hSw; clear hSw; go_simp; try with_reducible rfl⟩
  try simp only [Act.put, List.setIfInBounds_toArray, List.set_cons_zero, List.set_cons_succ]
  refine wpAnyH_take (i := 7) (oi := ?oi7x20) (v := ?v7x20) ?hi7x20 (by kernel_rfl) (by kernel_rfl) (by kernel_rfl) ?hq7x20 ?hy7x20 hHeld ?rest7x20
  case hi7x20 => ((try simp only [List.getElem?_toArray, List.getElem?_cons_succ, List.getElem?_cons_zero]); (try rfl))
  case hq7x20 => exact fun _ _ _ h => h
  case hy7x20 => exact Or.inl ⟨by rfl, by intro w hSw; clear hSw; go_simp; try with_reducible rfl⟩
  try simp only [Act.put, List.setIfInBounds_toArray, List.set_cons_zero, List.set_cons_succ]
  refine wpAnyH_take (i := 8) (oi := ?oi8x21) (v := ?v8x21) ?hi8x21 (by kernel_rfl) (by kernel_rfl) (by kernel_rfl) ?hq8x21 ?hy8x21 hHeld ?rest8x21
  case hi8x21 => ((try simp only [List.getElem?_toArray, List.getElem?_cons_succ, List.getElem?_cons_zero]); (try rfl))
  case hq8x21 => exact fun _ _ _ h => h
  case hy8x21 => exact Or.inl ⟨by rfl, by intro w hSw; clear hSw; go_simp; try with_reducible rfl⟩
  try simp only [Act.put, List.setIfInBounds_toArray, List.set_cons_zero, List.set_cons_succ]
  refine wpAnyH_done (by kernel_rfl) ?_ _
  clear hHeld KS
  go_wp2_with fail
  refine bodyPost_ret (results_tmp rfl _ _ _) rfl ⟨?_, FQ.out.below⟩
  exact congrArg (fun b => Ending.returned (.bool b)) (E.out.trans E2.out)
end Wd
end Go.Proofs.YtjgcbeihgeaimaaGreatDoor
/-
  Plain law of tracklets: bounds by fractions are bounds by products.
-/
namespace Go.Proofs.YtjgcbeihgeaimaaGreatDoor
namespace Tk
open Wd

theorem most_iff {N p n : Int} {D q : Nat} (h : IsFrac N D p q) (hD : 0 < D) (hn : 0 ≤ n) : ((p.natAbs : Int) ≤ n * (q : Int)) ↔ N.natAbs ≤ n.natAbs * D := by
  have e : p.natAbs * D = N.natAbs * q := by
    have := congrArg Int.natAbs h.eq
    rwa [Int.natAbs_mul, Int.natAbs_mul, Int.natAbs_natCast, Int.natAbs_natCast] at this
  obtain ⟨m, rfl⟩ : ∃ m : Nat, n = (m : Int) := ⟨n.natAbs, by omega⟩
  rw [Int.natAbs_natCast]
  have a : ((p.natAbs : Int) ≤ (m : Int) * (q : Int)) ↔ p.natAbs ≤ m * q := by rw [← Int.natCast_mul]; omega
  rw [a]
  constructor
  · intro g
    have g2 : p.natAbs * D ≤ m * q * D := Nat.mul_le_mul_right _ g
    rw [e, Nat.mul_assoc, Nat.mul_comm q D, ← Nat.mul_assoc] at g2
    exact Nat.le_of_mul_le_mul_right g2 h.pos
  · intro g
    have g2 : N.natAbs * q ≤ m * D * q := Nat.mul_le_mul_right _ g
    rw [← e, Nat.mul_assoc, Nat.mul_comm D q, ← Nat.mul_assoc] at g2
    exact Nat.le_of_mul_le_mul_right g2 hD
theorem allow_iff {x s p : Int} {T q : Nat} (h : IsFrac (x * 86400000000) T p q) (hT : 0 < T) (hs : 0 ≤ s) : ((p.natAbs : Int) ≤ s * (q : Int)) ↔ mag x 86400000000 ≤ mag s (T : Int) := by
  rw [most_iff h hT hs]
  unfold mag
  rw [Int.natAbs_mul, Int.natAbs_natCast]
theorem near_iff {e x s o p1 p2 : Int} {T q1 q2 : Nat} (h1 : IsFrac (x * s) T p1 q1) (h2 : IsFrac (e * (q1 : Int) - p1 * ((1 : Nat) : Int)) (1 * q1) p2 q2) (hT : 0 < T) (ho : 0 ≤ o) :
    ((p2.natAbs : Int) ≤ o * (q2 : Int)) ↔ (e * (T : Int) - x * s).natAbs ≤ mag o (T : Int) := by
  have hq := h1.pos
  rw [most_iff h2 (by omega) ho]
  unfold mag
  rw [Int.natAbs_natCast, Nat.one_mul]
  have e1 : (e * (q1 : Int) - p1 * ((1 : Nat) : Int)) * (T : Int) = (e * (T : Int) - x * s) * (q1 : Int) := by
    rw [Int.sub_mul, Int.sub_mul, ← h1.eq]
    rw [show ((1 : Nat) : Int) = 1 from rfl, Int.mul_one, Int.mul_assoc, Int.mul_assoc, Int.mul_comm (q1 : Int) (T : Int)]
  have e2 : (e * (q1 : Int) - p1 * ((1 : Nat) : Int)).natAbs * T = (e * (T : Int) - x * s).natAbs * q1 := by
    have := congrArg Int.natAbs e1
    rwa [Int.natAbs_mul, Int.natAbs_mul, Int.natAbs_natCast, Int.natAbs_natCast] at this
  generalize (e * (q1 : Int) - p1 * ((1 : Nat) : Int)).natAbs = A at *
  generalize (e * (T : Int) - x * s).natAbs = B at *
  generalize o.natAbs = m
  constructor
  · intro g
    have g2 : A * T ≤ m * q1 * T := Nat.mul_le_mul_right _ g
    rw [e2, Nat.mul_assoc, Nat.mul_comm q1 T, ← Nat.mul_assoc] at g2
    exact Nat.le_of_mul_le_mul_right g2 hq
  · intro g
    have g2 : B * q1 ≤ m * T * q1 := Nat.mul_le_mul_right _ g
    rw [← e2, Nat.mul_assoc, Nat.mul_comm T q1, ← Nat.mul_assoc] at g2
    exact Nat.le_of_mul_le_mul_right g2 hT
end Tk
end Go.Proofs.YtjgcbeihgeaimaaGreatDoor
/-
  The reference's Diff.
-/
namespace Go.Proofs.YtjgcbeihgeaimaaGreatDoor
namespace Turns
open Go.RowKit
open Pl
set_option maxHeartbeats 400000 in
theorem rdiff_any (a b : Int) (w : World) (h0 : -9223372036854775808 ≤ a) (h1 : a ≤ 9223372036854775807) (h2 : -9223372036854775808 ≤ b) (h3 : b ≤ 9223372036854775807) :
    Calls Tryz.prog 69 #[.int .i64 a, .int .i64 b] w fun e w' => e = .returned (.int .i64 (dif a b)) ∧ w = w' := by
  have g := sub_nrm a b
  have Hg := Lib.hid g
  clear g
  go_enter Tryz.func69, Tryz.ntmps69
  go_wp2_with (go_at_call 90; refine (rnorm_any _ _ (by omega) (by omega)).mono ?_; rintro e w' ⟨rfl, rfl⟩)
  all_goals
    go_ret
    refine ⟨ret_int ?_, rfl⟩
    rw [Hg.out] at *
    unfold dif
    first | rw [if_pos (by omega)] | rw [if_neg (by omega)]


end Turns
end Go.Proofs.YtjgcbeihgeaimaaGreatDoor
/-
  The reference's tracklets: away, Allowed.
-/
namespace Go.Proofs.YtjgcbeihgeaimaaGreatDoor
namespace Tw
open Go.RowKit Lw Tk _root_.Go.Proofs.YtjgcbeihgeaimaaGreatDoor.Op Ow Wd

set_option maxRecDepth 100000 in
set_option maxHeartbeats 4000000 in
theorem raway_any (a b : Ob) (w : World) (ha : okO a) (hb : okO b) :
    Calls Tryz.prog 45 #[obsV a, obsV b] w fun e w' => e = .returned (.tuple #[.int .i64 (dX a b), .int .i64 (dY a b)]) ∧ Below w.heap.size w w' := by
  have hd := dif_of ha hb
  have y0 := hd.y0
  have y1 := hd.y1
  unfold dY at y0 y1
  obtain ⟨-, -, -, -, a0, a1, -⟩ := ha
  obtain ⟨-, -, -, -, b0, b1, -⟩ := hb
  have DF := fun w' => Turns.rdiff_any b.ra a.ra w' (by omega) (by omega) (by omega) (by omega)
  have F0 := ((Fr.start w).alloc (obsC a) 44).alloc (obsC b) 44
  simp only [World.size_alloc] at F0
  have F0 := Lib.hid F0
  have z0 : -9223372036854775808 ≤ b.dec - a.dec := by omega
  have z1 : b.dec - a.dec < 9223372036854775808 := by omega
  clear hd a0 a1 b0 b1 y0 y1
  go_enter Tryz.func45, Tryz.ntmps45
  go_wp2_with fail
  have ca3 := F0.out.cell 1 3 rfl rfl
  have ca4 := F0.out.cell 1 4 rfl rfl
  have cb3 := F0.out.cell 0 3 rfl rfl
  have cb4 := F0.out.cell 0 4 rfl rfl
  go_quiet ((go_at_call 69; first | exact quiet_left (DF _) | exact quiet_add_left (DF _)))
  go_wp2_with fail
  exact bodyPost_ret (results_tmp2 rfl _ _ _) rfl ⟨rfl, drewN_below2 F0.out.below _⟩
end Tw
end Go.Proofs.YtjgcbeihgeaimaaGreatDoor
/-
  The reference's tracklets: Allowed.
-/
namespace Go.Proofs.YtjgcbeihgeaimaaGreatDoor
namespace Tw
open Go.RowKit Lw Tk _root_.Go.Proofs.YtjgcbeihgeaimaaGreatDoor.Op Ow Wd

theorem over_pair (x s : Int) (T : Nat) (w : World) (hx : x.natAbs ≤ 648000000000) (hs : -9223372036854775808 ≤ s ∧ s < 9223372036854775808) (h0 : 0 < T) (h1 : T < 9223372036854775808) :
    Calls Tryz.prog 48 #[.int .i64 x, .int .i64 s, .int .i64 (T : Int)] w fun e w' => ∃ V p q, e = .returned V ∧ IsFrac (x * s) T p q ∧ FracZ 0 w' V p q ∧ (canon p.natAbs).length ≤ 4 ∧ (canon q).length ≤ 2 ∧ Below w.heap.size w w' := by
  refine (over_any x s T w (by omega) (by omega) hs.1 hs.2 h0 h1).mono ?_
  rintro e w' ⟨V, p, q, rfl, hI, hV, hb⟩
  refine ⟨V, p, q, rfl, hI, hV.mono (Nat.zero_le _), Nat.le_trans (canon_mono hI.pn) ?_, Nat.le_trans (canon_mono hI.qd) (canon_len 2 T (by omega)), hb⟩
  have := canon_mul_len x.natAbs s.natAbs
  have := canon_len 2 x.natAbs (by omega)
  have := canon_len 2 s.natAbs (by omega)
  rw [Int.natAbs_mul]; omega
set_option maxRecDepth 100000 in
set_option maxHeartbeats 8000000 in
theorem rallowed_any (n c i j B off : Nat) (u : Rl) (a b : Ob) (w : World) (h : PairAt w B off n i j a b) (hu : okR u) :
    Calls Tryz.prog 33 #[.slice (some ⟨B, off, none⟩) n c, rlV u, .int .i64 i, .int .i64 j] w fun e w' => e = .returned (.bool (decide (alw u a b))) ∧ Below w.heap.size w w' := by
  have AW := Lib.hid (fun w' => raway_any a b w' h.ok h.kb)
  have RA := Lib.hid (fun w' (hb : Below w.heap.size w w') => (h.below hb).ra)
  have RB := Lib.hid (fun w' (hb : Below w.heap.size w w') => (h.below hb).rb)
  have SA := Lib.hid (fun w' (hb : Below w.heap.size w w') => (h.below hb).siteA)
  have SB := Lib.hid (fun w' (hb : Below w.heap.size w w') => (h.below hb).siteB)
  have TA := Lib.hid (fun w' (hb : Below w.heap.size w w') => (h.below hb).timeA)
  have TB := Lib.hid (fun w' (hb : Below w.heap.size w w') => (h.below hb).timeB)
  have hd := h.dif
  have F0 := Lib.hid ((Fr.start w).alloc (rlC u) 24)
  have i0 : (0 : Int) ≤ (i : Int) := by omega
  have i1 : (i : Int) < (n : Int) := by have := h.hi; omega
  have j0 : (0 : Int) ≤ (j : Int) := by omega
  have j1 : (j : Int) < (n : Int) := by have := h.hj; omega
  have hu1 : 1 ≤ u.least := hu.1.1
  have hu2 := hu.2.1
  have OX := Lib.hid (fun (T : Nat) w' (h0 : 0 < T) (h1 : T < 9223372036854775808) => over_pair (dX a b) 86400000000 T w' (by have := hd.x0; have := hd.x1; omega) (by omega) h0 h1)
  have OY := Lib.hid (fun (T : Nat) w' (h0 : 0 < T) (h1 : T < 9223372036854775808) => over_pair (dY a b) 86400000000 T w' (by have := hd.y0; have := hd.y1; omega) (by omega) h0 h1)
  have MS := Lib.hid (fun V p q w' (hI : 0 < q ∧ Nat.gcd p.natAbs q = 1) (hV : FracZ 0 w' V p q) (lp : (canon p.natAbs).length ≤ 4) (lq : (canon q).length ≤ 2) => most_any V p q u.speed w' hV hI.1 hI.2 (by omega) (by omega) (by omega) (by omega))
  have t0 : -9223372036854775808 ≤ dT a b := by have := hd.t0; omega
  have t1 : dT a b < 9223372036854775808 := by have := hd.t1; omega
  have YES : Hid (a.site = b.site → u.least ≤ dT a b → dT a b ≤ u.most → mag (dX a b) 86400000000 ≤ mag u.speed (dT a b) → decide (alw u a b) = decide (mag (dY a b) 86400000000 ≤ mag u.speed (dT a b))) := Lib.hid (fun h1 h2 h3 h4 => decide_eq_decide.2 ⟨fun h => h.2.2.2.2, fun h => ⟨h1, h2, h3, h4, h⟩⟩)
  have NOX : Hid (¬ mag (dX a b) 86400000000 ≤ mag u.speed (dT a b) → decide (alw u a b) = false) := Lib.hid (fun h1 => decide_eq_false (fun h => h1 h.2.2.2.1))
  have NOS : Hid (¬ (a.site = b.site ∧ u.least ≤ dT a b ∧ dT a b ≤ u.most) → decide (alw u a b) = false) := Lib.hid (fun h1 => decide_eq_false (fun h => h1 ⟨h.1, h.2.1, h.2.2.1⟩))
  generalize decide (alw u a b) = R at *
  have DT : Hid (b.t - a.t = dT a b) := Lib.hid rfl
  have z0 : -9223372036854775808 ≤ b.t - a.t := t0
  have z1 : b.t - a.t < 9223372036854775808 := t1
  generalize dX a b = dx at *
  generalize dY a b = dy at *
  generalize dT a b = dt at *
  clear h hu hd
  go_enter Tryz.func33, Tryz.ntmps33
  go_wp2_with fail
  have at1 := SA.out _ F0.out.below
  have at2 := TA.out _ F0.out.below
  have bt1 := SB.out _ F0.out.below
  have bt2 := TB.out _ F0.out.below
  go_quiet (fail)
  generalize nq = n1 at *
  go_wp2_with fail
  rw [DT.out]
  by_cases hs : a.site = b.site
  rotate_left
  · have es := site_ne hs
    obtain rfl := NOS.out (fun h => hs h.1)
    clear YES NOX NOS OX OY MS RA RB AW SA SB TA TB
    go_quiet (fail)
    go_wp2_with fail
    first | exact bodyPost_ret (results_tmp rfl _ _ _) rfl ⟨rfl, drewN_below2 F0.out.below _⟩ | exact bodyPost_ret (results_tmp rfl _ _ _) rfl ⟨rfl, drewN_below2 (drewN_below2 F0.out.below _) _⟩
  have es := site_eq hs
  by_cases h1 : dt < u.least
  · obtain rfl := NOS.out (fun h => by omega)
    clear YES NOX NOS OX OY MS RA RB AW SA SB TA TB
    go_quiet (fail)
    go_wp2_with fail
    first | exact bodyPost_ret (results_tmp rfl _ _ _) rfl ⟨rfl, drewN_below2 F0.out.below _⟩ | exact bodyPost_ret (results_tmp rfl _ _ _) rfl ⟨rfl, drewN_below2 (drewN_below2 F0.out.below _) _⟩
  by_cases h2 : u.most < dt
  · obtain rfl := NOS.out (fun h => by omega)
    clear YES NOX NOS OX OY MS RA RB AW SA SB TA TB
    go_quiet (fail)
    go_wp2_with fail
    first | exact bodyPost_ret (results_tmp rfl _ _ _) rfl ⟨rfl, drewN_below2 F0.out.below _⟩ | exact bodyPost_ret (results_tmp rfl _ _ _) rfl ⟨rfl, drewN_below2 (drewN_below2 F0.out.below _) _⟩
  have YES2 := Lib.hid (YES.out hs (by omega) (by omega))
  clear NOS YES SA SB TA TB
  go_quiet (fail)
  have F2 := Lib.hid (F0.out.drewN (n1 + nq))
  clear F0 at1 at2 bt1 bt2 es z0 z1 DT
  obtain ⟨T, rfl⟩ : ∃ T : Nat, dt = (T : Int) := ⟨dt.toNat, by omega⟩
  have T0 : 0 < T := by omega
  have T1 : T < 9223372036854775808 := by omega
  go_wp2_with fail
  generalize (w.alloc (.cells (rlC u).toArray 24)).drewN (n1 + nq) = wz at *
  have KR := fun w' (h : Fr w [(w.heap.size, rlC u)] w') => (show w'.rangeAt B (off + i * 8) (obsC a) ∧ w'.rangeAt B (off + j * 8) (obsC b) from ⟨RA.out _ h.below, RB.out _ h.below⟩)
  refine wp_region_held_drew (S := fun w' => w'.rangeAt B (off + i * 8) (obsC a) ∧ w'.rangeAt B (off + j * 8) (obsC b)) (by kernel_rfl) (KR _ F2.out.drew) (fun hHeld => ?_)
  have FQ := Lib.hid F2.out.drew
  clear F2
  refine wpAnyH_take (i := 0) (oi := ?oi0x1) (v := ?v0x1) ?hi0x1 (by kernel_rfl) (by kernel_rfl) (by kernel_rfl) ?hq0x1 ?hy0x1 hHeld ?rest0x1
  case hi0x1 => ((try simp only [List.getElem?_toArray, List.getElem?_cons_succ, List.getElem?_cons_zero]); (try rfl))
  case hq0x1 => exact fun _ _ _ h => h
  case hy0x1 => exact Or.inl ⟨by rfl, by intro w hSw; clear hSw; go_simp; try with_reducible rfl⟩
  try simp only [Act.put, List.setIfInBounds_toArray, List.set_cons_zero, List.set_cons_succ]
  refine wpAnyH_take (i := 1) (oi := ?oi1x2) (v := ?v1x2) ?hi1x2 (by kernel_rfl) (by kernel_rfl) (by kernel_rfl) ?hq1x2 ?hy1x2 hHeld ?rest1x2
  case hi1x2 => ((try simp only [List.getElem?_toArray, List.getElem?_cons_succ, List.getElem?_cons_zero]); (try rfl))
  case hq1x2 => exact fun _ _ _ h => h
  case hy1x2 => exact Or.inl ⟨by rfl, by intro w hSw; clear hSw; go_simp; try with_reducible rfl⟩
  try simp only [Act.put, List.setIfInBounds_toArray, List.set_cons_zero, List.set_cons_succ]
  refine wpAnyH_take (i := 2) (oi := ?oi2x3) (v := ?v2x3) ?hi2x3 (by kernel_rfl) (by kernel_rfl) (by kernel_rfl) ?hq2x3 ?hy2x3 hHeld ?rest2x3
  case hi2x3 => ((try simp only [List.getElem?_toArray, List.getElem?_cons_succ, List.getElem?_cons_zero]); (try rfl))
  case hq2x3 => exact fun _ _ _ h => h
  case hy2x3 => exact Or.inl ⟨by rfl, by intro w hSw; clear hSw; go_simp; try with_reducible rfl⟩
  try simp only [Act.put, List.setIfInBounds_toArray, List.set_cons_zero, List.set_cons_succ]
  refine wpAnyH_take (i := 3) (oi := ?oi3x4) (v := ?v3x4) ?hi3x4 (by kernel_rfl) (by kernel_rfl) (by kernel_rfl) ?hq3x4 ?hy3x4 hHeld ?rest3x4
  case hi3x4 => ((try simp only [List.getElem?_toArray, List.getElem?_cons_succ, List.getElem?_cons_zero]); (try rfl))
  case hq3x4 => exact fun _ _ _ h => h
  case hy3x4 =>
    refine' yieldsIf_load_mid ?_ 44 (.tmp 49) ?_ B (off + i * 8) ?_ (obsC a) _ ?_ Tryz.underlying44 ?_ info8
    · rfl
    · rfl
    · rfl
    · exact fun _ h => h.1
    · rfl
  try simp only [Act.put, List.setIfInBounds_toArray, List.set_cons_zero, List.set_cons_succ]
  refine wpAnyH_take (i := 4) (oi := ?oi4x5) (v := ?v4x5) ?hi4x5 (by kernel_rfl) (by kernel_rfl) (by kernel_rfl) ?hq4x5 ?hy4x5 hHeld ?rest4x5
  case hi4x5 => ((try simp only [List.getElem?_toArray, List.getElem?_cons_succ, List.getElem?_cons_zero]); (try rfl))
  case hq4x5 => exact fun _ _ _ h => h
  case hy4x5 => exact Or.inl ⟨by rfl, by intro w hSw; clear hSw; go_simp; try with_reducible rfl⟩
  try simp only [Act.put, List.setIfInBounds_toArray, List.set_cons_zero, List.set_cons_succ]
  refine wpAnyH_take (i := 5) (oi := ?oi5x6) (v := ?v5x6) ?hi5x6 (by kernel_rfl) (by kernel_rfl) (by kernel_rfl) ?hq5x6 ?hy5x6 hHeld ?rest5x6
  case hi5x6 => ((try simp only [List.getElem?_toArray, List.getElem?_cons_succ, List.getElem?_cons_zero]); (try rfl))
  case hq5x6 => exact fun _ _ _ h => h
  case hy5x6 => exact Or.inl ⟨by rfl, by intro w hSw; clear hSw; go_simp; try with_reducible rfl⟩
  try simp only [Act.put, List.setIfInBounds_toArray, List.set_cons_zero, List.set_cons_succ]
  refine wpAnyH_take (i := 6) (oi := ?oi6x7) (v := ?v6x7) ?hi6x7 (by kernel_rfl) (by kernel_rfl) (by kernel_rfl) ?hq6x7 ?hy6x7 hHeld ?rest6x7
  case hi6x7 => ((try simp only [List.getElem?_toArray, List.getElem?_cons_succ, List.getElem?_cons_zero]); (try rfl))
  case hq6x7 => exact fun _ _ _ h => h
  case hy6x7 => exact Or.inl ⟨by rfl, by intro w hSw; clear hSw; go_simp; try with_reducible rfl⟩
  try simp only [Act.put, List.setIfInBounds_toArray, List.set_cons_zero, List.set_cons_succ]
  refine wpAnyH_take (i := 7) (oi := ?oi7x8) (v := ?v7x8) ?hi7x8 (by kernel_rfl) (by kernel_rfl) (by kernel_rfl) ?hq7x8 ?hy7x8 hHeld ?rest7x8
  case hi7x8 => ((try simp only [List.getElem?_toArray, List.getElem?_cons_succ, List.getElem?_cons_zero]); (try rfl))
  case hq7x8 => exact fun _ _ _ h => h
  case hy7x8 =>
    refine' yieldsIf_load_mid ?_ 44 (.tmp 53) ?_ B (off + j * 8) ?_ (obsC b) _ ?_ Tryz.underlying44 ?_ info8
    · rfl
    · rfl
    · rfl
    · exact fun _ h => h.2
    · rfl
  try simp only [Act.put, List.setIfInBounds_toArray, List.set_cons_zero, List.set_cons_succ]
  refine wpAnyH_ready (rs := [8]) (by kernel_rfl) (by simp) ?_
  refine AllReadyH.cons rfl (fun K' hK => ?_) AllReadyH.nil
  clear hHeld
  go_simp
  refine (AW.out _).mono ?_
  rintro e w4 ⟨rfl, hb⟩
  have FQ := Lib.hid (FQ.out.call hb)
  clear hb
  refine hK.out _ _ (KR _ FQ.out) (fun hHeld => ?_)
  clear hK
  try simp only [Act.put, List.setIfInBounds_toArray, List.set_cons_zero, List.set_cons_succ]
  refine wpAnyH_take (i := 9) (oi := ?oi9x9) (v := ?v9x9) ?hi9x9 (by kernel_rfl) (by kernel_rfl) (by kernel_rfl) ?hq9x9 ?hy9x9 hHeld ?rest9x9
  case hi9x9 => ((try simp only [List.getElem?_toArray, List.getElem?_cons_succ, List.getElem?_cons_zero]); (try rfl))
  case hq9x9 => exact fun _ _ _ h => h
  case hy9x9 => exact Or.inl ⟨by rfl, by intro w hSw; clear hSw; go_simp; try with_reducible rfl⟩
  try simp only [Act.put, List.setIfInBounds_toArray, List.set_cons_zero, List.set_cons_succ]
  refine wpAnyH_take (i := 10) (oi := ?oi10x10) (v := ?v10x10) ?hi10x10 (by kernel_rfl) (by kernel_rfl) (by kernel_rfl) ?hq10x10 ?hy10x10 hHeld ?rest10x10
  case hi10x10 => ((try simp only [List.getElem?_toArray, List.getElem?_cons_succ, List.getElem?_cons_zero]); (try rfl))
  case hq10x10 => exact fun _ _ _ h => h
  case hy10x10 => exact Or.inl ⟨by rfl, by intro w hSw; clear hSw; go_simp; try with_reducible rfl⟩
  try simp only [Act.put, List.setIfInBounds_toArray, List.set_cons_zero, List.set_cons_succ]
  refine wpAnyH_take (i := 11) (oi := ?oi11x11) (v := ?v11x11) ?hi11x11 (by kernel_rfl) (by kernel_rfl) (by kernel_rfl) ?hq11x11 ?hy11x11 hHeld ?rest11x11
  case hi11x11 => ((try simp only [List.getElem?_toArray, List.getElem?_cons_succ, List.getElem?_cons_zero]); (try rfl))
  case hq11x11 => exact fun _ _ _ h => h
  case hy11x11 => exact Or.inl ⟨by rfl, by intro w hSw; clear hSw; go_simp; try with_reducible rfl⟩
  try simp only [Act.put, List.setIfInBounds_toArray, List.set_cons_zero, List.set_cons_succ]
  refine wpAnyH_take (i := 12) (oi := ?oi12x12) (v := ?v12x12) ?hi12x12 (by kernel_rfl) (by kernel_rfl) (by kernel_rfl) ?hq12x12 ?hy12x12 hHeld ?rest12x12
  case hi12x12 => ((try simp only [List.getElem?_toArray, List.getElem?_cons_succ, List.getElem?_cons_zero]); (try rfl))
  case hq12x12 => exact fun _ _ _ h => h
  case hy12x12 => exact Or.inl ⟨by rfl, by intro w hSw; clear hSw; go_simp; try with_reducible rfl⟩
  try simp only [Act.put, List.setIfInBounds_toArray, List.set_cons_zero, List.set_cons_succ]
  refine wpAnyH_take (i := 13) (oi := ?oi13x13) (v := ?v13x13) ?hi13x13 (by kernel_rfl) (by kernel_rfl) (by kernel_rfl) ?hq13x13 ?hy13x13 hHeld ?rest13x13
  case hi13x13 => ((try simp only [List.getElem?_toArray, List.getElem?_cons_succ, List.getElem?_cons_zero]); (try rfl))
  case hq13x13 => exact fun _ _ _ h => h
  case hy13x13 => exact Or.inl ⟨by rfl, by intro w hSw; clear hSw; go_simp; try with_reducible rfl⟩
  try simp only [Act.put, List.setIfInBounds_toArray, List.set_cons_zero, List.set_cons_succ]
  refine wpAnyH_done (by kernel_rfl) ?_ _
  clear hHeld
  clear KR AW RA RB
  have cu0 := FQ.out.cell 0 0 rfl rfl
  have cu1 := FQ.out.cell 0 1 rfl rfl
  have cu2 := FQ.out.cell 0 2 rfl rfl
  have cu3 := FQ.out.cell 0 3 rfl rfl
  have cu4 := FQ.out.cell 0 4 rfl rfl
  go_wp2_with fail
  have KS := fun w' (h : Fr w [(w.heap.size, rlC u)] w') => (show w'.cell? ⟨w.heap.size, 2, none⟩ = some (.int .i64 u.speed) from h.cell 0 2 rfl rfl)
  clear cu0 cu1 cu2 cu3 cu4
  refine wp_region_held_drew (S := fun w' => w'.cell? ⟨w.heap.size, 2, none⟩ = some (.int .i64 u.speed)) (by kernel_rfl) (KS _ FQ.out.drew) (fun hHeld => ?_)
  have FQ := Lib.hid FQ.out.drew
  refine wpAnyH_take (i := 0) (oi := ?oi0x14) (v := ?v0x14) ?hi0x14 (by kernel_rfl) (by kernel_rfl) (by kernel_rfl) ?hq0x14 ?hy0x14 hHeld ?rest0x14
  case hi0x14 => ((try simp only [List.getElem?_toArray, List.getElem?_cons_succ, List.getElem?_cons_zero]); (try rfl))
  case hq0x14 => exact fun _ _ _ h => h
  case hy0x14 => exact Or.inl ⟨by rfl, by intro w hSw; clear hSw; go_simp; try with_reducible rfl⟩
  try simp only [Act.put, List.setIfInBounds_toArray, List.set_cons_zero, List.set_cons_succ]
  refine wpAnyH_take (i := 1) (oi := ?oi1x15) (v := ?v1x15) ?hi1x15 (by kernel_rfl) (by kernel_rfl) (by kernel_rfl) ?hq1x15 ?hy1x15 hHeld ?rest1x15
  case hi1x15 => ((try simp only [List.getElem?_toArray, List.getElem?_cons_succ, List.getElem?_cons_zero]); (try rfl))
  case hq1x15 => exact fun _ _ _ h => h
  case hy1x15 => exact Or.inl ⟨by rfl, by intro w hSw; clear hSw; go_simp; try with_reducible rfl⟩
  try simp only [Act.put, List.setIfInBounds_toArray, List.set_cons_zero, List.set_cons_succ]
  refine wpAnyH_take (i := 3) (oi := ?oi3x16) (v := ?v3x16) ?hi3x16 (by kernel_rfl) (by kernel_rfl) (by kernel_rfl) ?hq3x16 ?hy3x16 hHeld ?rest3x16
  case hi3x16 => ((try simp only [List.getElem?_toArray, List.getElem?_cons_succ, List.getElem?_cons_zero]); (try rfl))
  case hq3x16 => exact fun _ _ _ h => h
  case hy3x16 => exact Or.inl ⟨by rfl, by intro w hSw; clear hSw; go_simp; try with_reducible rfl⟩
  try simp only [Act.put, List.setIfInBounds_toArray, List.set_cons_zero, List.set_cons_succ]
  refine wpAnyH_take (i := 4) (oi := ?oi4x17) (v := ?v4x17) ?hi4x17 (by kernel_rfl) (by kernel_rfl) (by kernel_rfl) ?hq4x17 ?hy4x17 hHeld ?rest4x17
  case hi4x17 => ((try simp only [List.getElem?_toArray, List.getElem?_cons_succ, List.getElem?_cons_zero]); (try rfl))
  case hq4x17 => exact fun _ _ _ h => h
  case hy4x17 => exact Or.inl ⟨by rfl, by intro w hSw; have s0 := hSw; go_simp; try with_reducible rfl⟩
  try simp only [Act.put, List.setIfInBounds_toArray, List.set_cons_zero, List.set_cons_succ]
  refine wpAnyH_ready (rs := [2]) (by kernel_rfl) (by simp) ?_
  refine AllReadyH.cons rfl (fun K' hK => ?_) AllReadyH.nil
  clear hHeld
  go_simp
  refine (OX.out T _ T0 T1).mono ?_
  rintro e w5 ⟨V, p, q, rfl, hI, hV, lp, lq, hb⟩
  have FQ := Lib.hid (FQ.out.call hb)
  have HV := Lib.hid hV
  have GQ := Lib.hid (And.intro hI.pos hI.cop)
  have IF := Lib.hid (allow_iff hI T0 hu2.1)
  have LP := Lib.hid lp
  have LQ := Lib.hid lq
  clear hI hV lp lq
  clear hb
  refine hK.out _ _ (KS _ FQ.out) (fun hHeld => ?_)
  clear hK
  try simp only [Act.put, List.setIfInBounds_toArray, List.set_cons_zero, List.set_cons_succ]
  refine wpAnyH_ready (rs := [5]) (by kernel_rfl) (by simp) ?_
  refine AllReadyH.cons rfl (fun K' hK => ?_) AllReadyH.nil
  clear hHeld
  go_simp
  refine (MS.out _ _ _ _ GQ.out HV.out LP.out LQ.out).mono ?_
  rintro e w6 ⟨rfl, hb⟩
  have FQ := Lib.hid (FQ.out.call hb)
  clear HV GQ LP LQ
  clear hb
  refine hK.out _ _ (KS _ FQ.out) (fun hHeld => ?_)
  clear hK
  try simp only [Act.put, List.setIfInBounds_toArray, List.set_cons_zero, List.set_cons_succ]
  by_cases hx : mag dx 86400000000 ≤ mag u.speed (T : Int)
  ·
    obtain rfl := YES2.out hx
    rw [decide_eq_true (IF.out.2 hx)]
    clear YES2 NOX IF OX
    refine wpAnyH_take (i := 6) (oi := ?oi6x18) (v := ?v6x18) ?hi6x18 (by kernel_rfl) (by kernel_rfl) (by kernel_rfl) ?hq6x18 ?hy6x18 hHeld ?rest6x18
    case hi6x18 => ((try simp only [List.getElem?_toArray, List.getElem?_cons_succ, List.getElem?_cons_zero]); (try rfl))
    case hq6x18 => exact fun _ _ _ h => h
    case hy6x18 => exact Or.inl ⟨by rfl, by intro w hSw; clear hSw; go_simp; try with_reducible rfl⟩
    try simp only [Act.put, List.setIfInBounds_toArray, List.set_cons_zero, List.set_cons_succ]
    refine wpAnyH_take (i := 7) (oi := ?oi7x19) (v := ?v7x19) ?hi7x19 (by kernel_rfl) (by kernel_rfl) (by kernel_rfl) ?hq7x19 ?hy7x19 hHeld ?rest7x19
    case hi7x19 => ((try simp only [List.getElem?_toArray, List.getElem?_cons_succ, List.getElem?_cons_zero]); (try rfl))
    case hq7x19 => exact fun _ _ _ h => h
    case hy7x19 => exact Or.inl ⟨by rfl, by intro w hSw; clear hSw; go_simp; try with_reducible rfl⟩
    try simp only [Act.put, List.setIfInBounds_toArray, List.set_cons_zero, List.set_cons_succ]
    refine wpAnyH_take (i := 8) (oi := ?oi8x20) (v := ?v8x20) ?hi8x20 (by kernel_rfl) (by kernel_rfl) (by kernel_rfl) ?hq8x20 ?hy8x20 hHeld ?rest8x20
    case hi8x20 => ((try simp only [List.getElem?_toArray, List.getElem?_cons_succ, List.getElem?_cons_zero]); (try rfl))
    case hq8x20 => exact fun _ _ _ h => h
    case hy8x20 => exact Or.inl ⟨by rfl, by intro w hSw; clear hSw; go_simp; try with_reducible rfl⟩
    try simp only [Act.put, List.setIfInBounds_toArray, List.set_cons_zero, List.set_cons_succ]
    refine wpAnyH_take (i := 10) (oi := ?oi10x21) (v := ?v10x21) ?hi10x21 (by kernel_rfl) (by kernel_rfl) (by kernel_rfl) ?hq10x21 ?hy10x21 hHeld ?rest10x21
    case hi10x21 => ((try simp only [List.getElem?_toArray, List.getElem?_cons_succ, List.getElem?_cons_zero]); (try rfl))
    case hq10x21 => exact fun _ _ _ h => h
    case hy10x21 => exact Or.inl ⟨by rfl, by intro w hSw; clear hSw; go_simp; try with_reducible rfl⟩
    try simp only [Act.put, List.setIfInBounds_toArray, List.set_cons_zero, List.set_cons_succ]
    refine wpAnyH_take (i := 11) (oi := ?oi11x22) (v := ?v11x22) ?hi11x22 (by kernel_rfl) (by kernel_rfl) (by kernel_rfl) ?hq11x22 ?hy11x22 hHeld ?rest11x22
    case hi11x22 => ((try simp only [List.getElem?_toArray, List.getElem?_cons_succ, List.getElem?_cons_zero]); (try rfl))
    case hq11x22 => exact fun _ _ _ h => h
    case hy11x22 => exact Or.inl ⟨by rfl, by intro w hSw; have s0 := hSw; go_simp; try with_reducible rfl⟩
    try simp only [Act.put, List.setIfInBounds_toArray, List.set_cons_zero, List.set_cons_succ]
    refine wpAnyH_ready (rs := [9]) (by kernel_rfl) (by simp) ?_
    refine AllReadyH.cons rfl (fun K' hK => ?_) AllReadyH.nil
    clear hHeld
    go_simp
    refine (OY.out T _ T0 T1).mono ?_
    rintro e w7 ⟨V, p, q, rfl, hI, hV, lp, lq, hb⟩
    have FQ := Lib.hid (FQ.out.call hb)
    have HV := Lib.hid hV
    have GQ := Lib.hid (And.intro hI.pos hI.cop)
    have IF := Lib.hid (allow_iff hI T0 hu2.1)
    have LP := Lib.hid lp
    have LQ := Lib.hid lq
    clear hI hV lp lq
    clear hb
    refine hK.out _ _ (KS _ FQ.out) (fun hHeld => ?_)
    clear hK
    try simp only [Act.put, List.setIfInBounds_toArray, List.set_cons_zero, List.set_cons_succ]
    refine wpAnyH_ready (rs := [12]) (by kernel_rfl) (by simp) ?_
    refine AllReadyH.cons rfl (fun K' hK => ?_) AllReadyH.nil
    clear hHeld
    go_simp
    refine (MS.out _ _ _ _ GQ.out HV.out LP.out LQ.out).mono ?_
    rintro e w8 ⟨rfl, hb⟩
    have FQ := Lib.hid (FQ.out.call hb)
    clear HV GQ LP LQ
    clear hb
    refine hK.out _ _ (KS _ FQ.out) (fun hHeld => ?_)
    clear hK
    try simp only [Act.put, List.setIfInBounds_toArray, List.set_cons_zero, List.set_cons_succ]
    refine wpAnyH_take (i := 13) (oi := ?oi13x23) (v := ?v13x23) ?hi13x23 (by kernel_rfl) (by kernel_rfl) (by kernel_rfl) ?hq13x23 ?hy13x23 hHeld ?rest13x23
    case hi13x23 => ((try simp only [List.getElem?_toArray, List.getElem?_cons_succ, List.getElem?_cons_zero]); (try rfl))
    case hq13x23 => exact fun _ _ _ h => h
    case hy13x23 => exact Or.inl ⟨by rfl, by intro w hSw; clear hSw; go_simp; try with_reducible rfl⟩
    try simp only [Act.put, List.setIfInBounds_toArray, List.set_cons_zero, List.set_cons_succ]
    refine wpAnyH_take (i := 14) (oi := ?oi14x24) (v := ?v14x24) ?hi14x24 (by kernel_rfl) (by kernel_rfl) (by kernel_rfl) ?hq14x24 ?hy14x24 hHeld ?rest14x24
    case hi14x24 => ((try simp only [List.getElem?_toArray, List.getElem?_cons_succ, List.getElem?_cons_zero]); (try rfl))
    case hq14x24 => exact fun _ _ _ h => h
    case hy14x24 => exact Or.inl ⟨by rfl, by intro w hSw; clear hSw; go_simp; try with_reducible rfl⟩
    try simp only [Act.put, List.setIfInBounds_toArray, List.set_cons_zero, List.set_cons_succ]
    refine wpAnyH_done (by kernel_rfl) ?_ _
    clear hHeld
    clear KS
    go_wp2_with fail
    refine bodyPost_ret (results_tmp rfl _ _ _) rfl ⟨?_, FQ.out.below⟩
    exact bool_ret (decide_eq_decide.2 IF.out)
  ·
    obtain rfl := NOX.out hx
    rw [decide_eq_false (fun h => hx (IF.out.1 h))]
    clear YES2 NOX IF OX OY MS
    refine wpAnyH_take (i := 6) (oi := ?oi6x25) (v := ?v6x25) ?hi6x25 (by kernel_rfl) (by kernel_rfl) (by kernel_rfl) ?hq6x25 ?hy6x25 hHeld ?rest6x25
    case hi6x25 => ((try simp only [List.getElem?_toArray, List.getElem?_cons_succ, List.getElem?_cons_zero]); (try rfl))
    case hq6x25 => exact fun _ _ _ h => h
    case hy6x25 => exact Or.inl ⟨by rfl, by intro w hSw; clear hSw; go_simp; try with_reducible rfl⟩
    try simp only [Act.put, List.setIfInBounds_toArray, List.set_cons_zero, List.set_cons_succ]
    refine wpAnyH_take (i := 7) (oi := ?oi7x26) (v := undef) ?hi7x26 (by kernel_rfl) (by kernel_rfl) (by kernel_rfl) ?hq7x26 ?hy7x26 hHeld ?rest7x26
    case hi7x26 => ((try simp only [List.getElem?_toArray, List.getElem?_cons_succ, List.getElem?_cons_zero]); (try rfl))
    case hq7x26 => exact fun _ _ _ h => h
    case hy7x26 => exact Or.inr ⟨by rfl, rfl⟩
    try simp only [Act.put, List.setIfInBounds_toArray, List.set_cons_zero, List.set_cons_succ]
    refine wpAnyH_take (i := 8) (oi := ?oi8x27) (v := undef) ?hi8x27 (by kernel_rfl) (by kernel_rfl) (by kernel_rfl) ?hq8x27 ?hy8x27 hHeld ?rest8x27
    case hi8x27 => ((try simp only [List.getElem?_toArray, List.getElem?_cons_succ, List.getElem?_cons_zero]); (try rfl))
    case hq8x27 => exact fun _ _ _ h => h
    case hy8x27 => exact Or.inr ⟨by rfl, rfl⟩
    try simp only [Act.put, List.setIfInBounds_toArray, List.set_cons_zero, List.set_cons_succ]
    refine wpAnyH_take (i := 9) (oi := ?oi9x28) (v := undef) ?hi9x28 (by kernel_rfl) (by kernel_rfl) (by kernel_rfl) ?hq9x28 ?hy9x28 hHeld ?rest9x28
    case hi9x28 => ((try simp only [List.getElem?_toArray, List.getElem?_cons_succ, List.getElem?_cons_zero]); (try rfl))
    case hq9x28 => exact fun _ _ _ h => h
    case hy9x28 => exact Or.inr ⟨by rfl, rfl⟩
    try simp only [Act.put, List.setIfInBounds_toArray, List.set_cons_zero, List.set_cons_succ]
    refine wpAnyH_take (i := 10) (oi := ?oi10x29) (v := undef) ?hi10x29 (by kernel_rfl) (by kernel_rfl) (by kernel_rfl) ?hq10x29 ?hy10x29 hHeld ?rest10x29
    case hi10x29 => ((try simp only [List.getElem?_toArray, List.getElem?_cons_succ, List.getElem?_cons_zero]); (try rfl))
    case hq10x29 => exact fun _ _ _ h => h
    case hy10x29 => exact Or.inr ⟨by rfl, rfl⟩
    try simp only [Act.put, List.setIfInBounds_toArray, List.set_cons_zero, List.set_cons_succ]
    refine wpAnyH_take (i := 11) (oi := ?oi11x30) (v := undef) ?hi11x30 (by kernel_rfl) (by kernel_rfl) (by kernel_rfl) ?hq11x30 ?hy11x30 hHeld ?rest11x30
    case hi11x30 => ((try simp only [List.getElem?_toArray, List.getElem?_cons_succ, List.getElem?_cons_zero]); (try rfl))
    case hq11x30 => exact fun _ _ _ h => h
    case hy11x30 => exact Or.inr ⟨by rfl, rfl⟩
    try simp only [Act.put, List.setIfInBounds_toArray, List.set_cons_zero, List.set_cons_succ]
    refine wpAnyH_take (i := 12) (oi := ?oi12x31) (v := undef) ?hi12x31 (by kernel_rfl) (by kernel_rfl) (by kernel_rfl) ?hq12x31 ?hy12x31 hHeld ?rest12x31
    case hi12x31 => ((try simp only [List.getElem?_toArray, List.getElem?_cons_succ, List.getElem?_cons_zero]); (try rfl))
    case hq12x31 => exact fun _ _ _ h => h
    case hy12x31 => exact Or.inr ⟨by rfl, rfl⟩
    try simp only [Act.put, List.setIfInBounds_toArray, List.set_cons_zero, List.set_cons_succ]
    refine wpAnyH_take (i := 13) (oi := ?oi13x32) (v := ?v13x32) ?hi13x32 (by kernel_rfl) (by kernel_rfl) (by kernel_rfl) ?hq13x32 ?hy13x32 hHeld ?rest13x32
    case hi13x32 => ((try simp only [List.getElem?_toArray, List.getElem?_cons_succ, List.getElem?_cons_zero]); (try rfl))
    case hq13x32 => exact fun _ _ _ h => h
    case hy13x32 => exact Or.inl ⟨by rfl, by intro w hSw; clear hSw; go_simp; try with_reducible rfl⟩
    try simp only [Act.put, List.setIfInBounds_toArray, List.set_cons_zero, List.set_cons_succ]
    refine wpAnyH_take (i := 14) (oi := ?oi14x33) (v := ?v14x33) ?hi14x33 (by kernel_rfl) (by kernel_rfl) (by kernel_rfl) ?hq14x33 ?hy14x33 hHeld ?rest14x33
    case hi14x33 => ((try simp only [List.getElem?_toArray, List.getElem?_cons_succ, List.getElem?_cons_zero]); (try rfl))
    case hq14x33 => exact fun _ _ _ h => h
    case hy14x33 => exact Or.inl ⟨by rfl, by intro w hSw; clear hSw; go_simp; try with_reducible rfl⟩
    try simp only [Act.put, List.setIfInBounds_toArray, List.set_cons_zero, List.set_cons_succ]
    refine wpAnyH_done (by kernel_rfl) ?_ _
    clear hHeld
    clear KS
    go_wp2_with fail
    exact bodyPost_ret (results_tmp rfl _ _ _) rfl ⟨rfl, FQ.out.below⟩
end Tw
end Go.Proofs.YtjgcbeihgeaimaaGreatDoor
