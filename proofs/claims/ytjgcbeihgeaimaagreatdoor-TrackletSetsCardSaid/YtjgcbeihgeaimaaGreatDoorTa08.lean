/-
  Lemmas and walks, texts joined: RDPl, RDig, ROPl, ROver0, ROver1, RGcd, RDM, RRed, RJd, RSame, TKSub, RFSame.
-/
import Derived.Deep.CutBlock
import Derived.Deep.CutRange
import Derived.Deep.DeepCutAuto
import Derived.BigQuiet
import Derived.Test.YtjgcbeihgeaimaaGreatDoorTa07
import Derived.Test.YtjgcbeihgeaimaaGreatDoorTa03
set_option linter.unusedSimpArgs false
set_option linter.unusedVariables false
/-
  Plain law of the reference's digit: a guess that is too large, the adding back; the window of limbs that it writes.
-/
namespace Go.Proofs.YtjgcbeihgeaimaaGreatDoor
namespace Wd

theorem and_mask32 (a : Nat) (ha : a < 18446744073709551616) : bits .and .u64 (a : Int) 4294967295 = ((a % 4294967296 : Nat) : Int) := by
  have h := u64_and_nat a 4294967295 ha (by decide)
  rw [show ((4294967295 : Nat) : Int) = 4294967295 from rfl] at h
  rw [h]
  congr 1
  exact Nat.and_two_pow_sub_one_eq_mod a 32
theorem guess_down {u v : List Nat} {p q r : Nat} (hu : u.length = p + 3) (hv : v.length = p + 2) (lu : Lb u) (ht : u[p + 2] * 4294967296 + u[p + 1] = q * v[p + 1] + r) (h : r * 4294967296 + u[p] < q * v[p]) : val u < q * val v := by
  have e1 := val_split' (l := u) (i := p) (by omega)
  have e2 := val_drop (l := u) (i := p) (by omega)
  have e3 := val_drop (l := u) (i := p + 1) (by omega)
  have e4 := val_drop (l := u) (i := p + 2) (by omega)
  rw [List.drop_of_length_le (show u.length ≤ p + 2 + 1 by omega)] at e4
  have f1 := val_split' (l := v) (i := p) (by omega)
  have f2 := val_drop (l := v) (i := p) (by omega)
  have f3 := val_drop (l := v) (i := p + 1) (by omega)
  rw [List.drop_of_length_le (show v.length ≤ p + 1 + 1 by omega)] at f3
  have lt := val_take_lt lu (show p ≤ u.length by omega)
  simp only [val, Nat.mul_zero, Nat.add_zero] at e4 f3
  rw [e4] at e3
  rw [e3] at e2
  rw [f3] at f2
  generalize u[p + 2] = u2 at *
  generalize u[p + 1] = u1 at *
  generalize u[p] = u0 at *
  generalize v[p + 1] = v1 at *
  generalize v[p] = v0 at *
  rw [e1, e2, f1, f2]
  generalize val (u.take p) = x at *
  generalize val (v.take p) = y at *
  generalize 4294967296 ^ p = P at *
  have k1 : u0 + 4294967296 * (u1 + 4294967296 * u2) + 1 ≤ q * (v0 + 4294967296 * v1) := by
    have : q * (v0 + 4294967296 * v1) = q * v0 + 4294967296 * (q * v1) := by rw [Nat.mul_add, Nat.mul_left_comm]
    omega
  have k2 := Nat.mul_le_mul_left P k1
  have k3 : q * (y + P * (v0 + 4294967296 * v1)) = q * y + P * (q * (v0 + 4294967296 * v1)) := by rw [Nat.mul_add, Nat.mul_left_comm]
  rw [Nat.mul_add P, Nat.mul_one] at k2
  omega
/-- The window of limbs as it is written. -/
structure Wn (w : World) (g j n : Nat) (F r : List Nat) : Prop where
  row : Row w g (put F j n r)
  len : r.length = n + 1
  fits : j + n + 1 ≤ F.length
theorem put_win {F : List Nat} {j n : Nat} (h : j + n + 1 ≤ F.length) : put F j n (win F j n) = F := by
  rw [put, win]
  have e1 : F.drop (j + n + 1) = (F.drop j).drop (n + 1) := by rw [List.drop_drop]; rfl
  rw [e1, List.take_append_drop, List.take_append_drop]
theorem put_get {F r : List Nat} {j n i : Nat} (h : j + n + 1 ≤ F.length) (hr : r.length = n + 1) (hi : i < r.length) (h2 : j + i < (put F j n r).length) : (put F j n r)[j + i] = r[i] := by
  have hl : (F.take j).length = j := by simp; omega
  simp only [put]
  rw [List.getElem_append_right (by omega), List.getElem_append_left (by omega)]
  congr 1
  omega
theorem put_set {F r : List Nat} {j n i : Nat} (h : j + n + 1 ≤ F.length) (hr : r.length = n + 1) (hi : i < r.length) (x : Nat) : (put F j n r).set (j + i) x = put F j n (r.set i x) := by
  have hl : (F.take j).length = j := by simp; omega
  simp only [put]
  rw [List.set_append_right _ _ (by omega), List.set_append_left _ _ (by omega)]
  congr 3
  omega
theorem Wn.start {w : World} {g j n : Nat} {F : List Nat} (h : Row w g F) (hj : j + n + 1 ≤ F.length) : Wn w g j n F (win F j n) :=
  ⟨by rw [put_win hj]; exact h, win_len hj, hj⟩
theorem Wn.cell {w : World} {g j n : Nat} {F r : List Nat} (h : Wn w g j n F r) {i : Nat} (hi : i < r.length) : w.cell? ⟨g, j + i, none⟩ = some (.int .u32 (r[i] : Int)) := by
  have hl := put_len h.fits h.len
  have h1 := h.len
  have h2 := h.fits
  rw [h.row.cell (k := j + i) (by omega), put_get h.fits h.len hi]
theorem Wn.free {w : World} {g j n : Nat} {F r : List Nat} (h : Wn w g j n F r) (k : Nat) : w.frozen? ⟨g, k, none⟩ = false := h.row.free k
theorem Wn.set {w : World} {g j n : Nat} {F r : List Nat} (h : Wn w g j n F r) {i : Nat} (hi : i < r.length) (x : Nat) : Wn (w.setCell ⟨g, j + i, none⟩ (.int .u32 (x : Int))) g j n F (r.set i x) := by
  refine ⟨?_, by simpa using h.len, h.fits⟩
  rw [← put_set h.fits h.len hi]
  exact h.row.set _ _
theorem Wn.drewN {w : World} {g j n : Nat} {F r : List Nat} (h : Wn w g j n F r) (k : Nat) : Wn (w.drewN k) g j n F r := ⟨h.row, h.len, h.fits⟩
theorem grown_drewN {w w' : World} {row : Option Nat} (h : w.grownBy w' row) (k : Nat) : w.grownBy (w'.drewN k) row := ⟨h.os, h.tape, h.output, h.size, h.block⟩
theorem grown_set {w w' : World} {g : Nat} (h : w.grownBy w' (some g)) (o : Nat) (x : Value) : w.grownBy (w'.setCell ⟨g, o, none⟩ x) (some g) := h.trans (grownBy_set2 _ _ _ _)
/-- What is left, with a borrow. -/
structure AI (U v : List Nat) (q b : Nat) (r : List Nat) : Prop where
  len : r.length = U.length
  lb : Lb r
  b1 : b ≤ 1
  v : val r + q * val v = val U + b * 4294967296 ^ U.length
/-- The adding back. -/
structure AIn (r0 v r : List Nat) (i c : Nat) : Prop where
  len : r.length = r0.length
  lb : Lb r
  c1 : c ≤ 1
  v : val (r.take i) + c * 4294967296 ^ i = val (r0.take i) + val (v.take i)
  d : r.drop i = r0.drop i
theorem AIn.zero {r0 : List Nat} (v : List Nat) (h : Lb r0) : AIn r0 v r0 0 0 := ⟨rfl, h, by omega, by simp [val], rfl⟩
theorem AIn.step {r0 v r : List Nat} {i c : Nat} (h : AIn r0 v r i c) (hi : i < r.length) (hv : Lb v) : AIn r0 v (r.set i ((c + r[i] + at0 v i) % 4294967296)) (i + 1) ((c + r[i] + at0 v i) / 4294967296) := by
  have hl := h.len
  have hw := lb_get h.lb hi
  have hx := at0_lt hv i
  have hc := h.c1
  have e0 := drop_get h.d hi (by omega)
  refine ⟨by simpa using hl, lb_set h.lb _ _ (Nat.mod_lt _ (by decide)), by omega, ?_, ?_⟩
  · have hvv := h.v
    rw [val_take_set _ hi, val_take r0 i (by omega), val_take0, ← e0, Nat.pow_succ]
    generalize r[i] = x at *
    generalize at0 v i = y at *
    have e := split_pow (4294967296 ^ i) (c + x + y)
    have e2 : 4294967296 ^ i * (c + x + y) = c * 4294967296 ^ i + 4294967296 ^ i * x + 4294967296 ^ i * y := by rw [Nat.mul_add, Nat.mul_add, Nat.mul_comm _ c]
    omega
  · have e := congrArg (List.drop 1) h.d
    rw [List.drop_drop, List.drop_drop] at e
    rw [drop_set_gt _ _ (by omega)]
    exact e
theorem AI.pos {U v r : List Nat} {q : Nat} (h : AI U v q 1 r) (hV : 0 < val v) : val U / val v ≤ q - 1 ∧ 0 < q := by
  have h1 := val_lt r h.lb
  have hv := h.v
  rw [h.len] at h1
  have h2 : val U < q * val v := by omega
  have h3 : val U / val v < q := by rwa [Nat.div_lt_iff_lt_mul hV]
  generalize val U / val v = Q at *
  omega
theorem AI.next {U v r0 r : List Nat} {q c : Nat} (h : AI U v q 1 r0) (hn : AIn r0 v r U.length c) (hq : 0 < q) (hv : v.length ≤ U.length) : AI U v (q - 1) (1 - c) r := by
  have hl := hn.len
  have hl0 := h.len
  have h1 := h.v
  have h2 := hn.v
  have hc := hn.c1
  refine ⟨by omega, hn.lb, by omega, ?_⟩
  have t1 : r.take U.length = r := List.take_of_length_le (by omega)
  have t2 : r0.take U.length = r0 := List.take_of_length_le (by omega)
  have t3 : v.take U.length = v := List.take_of_length_le hv
  rw [t1, t2, t3] at h2
  obtain ⟨q, rfl⟩ : ∃ k, q = k + 1 := ⟨q - 1, by omega⟩
  rw [Nat.add_mul, Nat.one_mul] at h1
  simp only [Nat.add_sub_cancel]
  rcases Nat.le_one_iff_eq_zero_or_eq_one.1 hc with rfl | rfl
  · simp only [Nat.zero_mul, Nat.add_zero, Nat.sub_zero] at h2 ⊢
    omega
  · simp only [Nat.sub_self, Nat.zero_mul]
    omega
end Wd
end Go.Proofs.YtjgcbeihgeaimaaGreatDoor
/-
  The reference's whole numbers: digit.
-/
namespace Go.Proofs.YtjgcbeihgeaimaaGreatDoor
namespace Wd
open Go.RowKit Lw

set_option maxRecDepth 100000 in
set_option maxHeartbeats 4000000 in
theorem rdigit_walk (F v : List Nat) (g j cu p cv : Nat) (D : Option Addr) (w : World) (hF : Row w g F) (bF : Lb F) (hj : j + (p + 2) + 1 ≤ F.length) (hcu : p + 3 ≤ cu) (hn : p + 3 ≤ 1000000) (hD : Lim w D (p + 2) cv v) (hne : ∀ b off, D = some ⟨b, off, none⟩ → b ≠ g) (hy : ∀ h : p + 1 < v.length, 0 < v[p + 1]) (ht : val (win F j (p + 2)) < val v * 4294967296) :
    Calls Tryz.prog 135 #[.slice (some ⟨g, j, none⟩) (p + 3) cu, .slice D (p + 2) cv] w (StepPost w g j (p + 2) F v) := by
  have lv := hD.len
  have lU := win_len hj
  have bU := lb_win bF j (p + 2)
  have hW0 := Wn.start hF hj
  have hy := hy (by omega)
  obtain ⟨U, hU⟩ : ∃ U, win F j (p + 2) = U := ⟨_, rfl⟩
  rw [hU] at lU bU hW0 ht
  have gg := guess_ge (u := U) (v := v) (n := p + 2) (by omega) lU lv bU hD.lb hy
  have hQ := digit_lt ht
  have hV0 : 0 < val v := by
    rcases Nat.eq_zero_or_pos (val v) with h | h
    · rw [h] at ht; omega
    · exact h
  obtain ⟨bD, oD, rfl, hDlt, -⟩ := hD.row (by omega)
  have hbg := hne bD oD rfl
  have b2 : U[p + 2]'(by omega) < 4294967296 := lb_get bU (by omega)
  have b1 : U[p + 1]'(by omega) < 4294967296 := lb_get bU (by omega)
  have b0 : U[p]'(by omega) < 4294967296 := lb_get bU (by omega)
  have y1 := lb_get hD.lb (k := p + 1) (by omega)
  have y0 := lb_get hD.lb (k := p) (by omega)
  have cells : ∀ w', w.grownBy w' (some g) → Wn w' g j (p + 2) F U → w'.cell? ⟨g, j + (p + 2), none⟩ = some (.int .u32 (U[p + 2] : Int)) ∧ w'.cell? ⟨g, j + (p + 1), none⟩ = some (.int .u32 (U[p + 1] : Int)) ∧ w'.cell? ⟨g, j + p, none⟩ = some (.int .u32 (U[p] : Int)) ∧ w'.cell? ⟨bD, oD + (p + 1), none⟩ = some (.int .u32 (v[p + 1] : Int)) ∧ w'.cell? ⟨bD, oD + p, none⟩ = some (.int .u32 (v[p] : Int)) := fun w' hg hW =>
    ⟨hW.cell (by omega), hW.cell (by omega), hW.cell (by omega), (hD.grown hg hne).cell (by omega), (hD.grown hg hne).cell (by omega)⟩
  simp only [show p + 2 - 1 = p + 1 by omega] at gg
  obtain ⟨u2, e2⟩ : ∃ x, U[p + 2]'(by omega) = x := ⟨_, rfl⟩
  obtain ⟨u1, e1⟩ : ∃ x, U[p + 1]'(by omega) = x := ⟨_, rfl⟩
  obtain ⟨u0, e0⟩ : ∃ x, U[p]'(by omega) = x := ⟨_, rfl⟩
  obtain ⟨v1, d1⟩ : ∃ x, v[p + 1]'(by omega) = x := ⟨_, rfl⟩
  obtain ⟨v0, d0⟩ : ∃ x, v[p]'(by omega) = x := ⟨_, rfl⟩
  have gd : ∀ q r, u2 * 4294967296 + u1 = q * v1 + r → r * 4294967296 + u0 < q * v0 → val U < q * val v := fun q r h1 h2 =>
    guess_down (u := U) (v := v) (p := p) (q := q) (r := r) lU lv bU (by rw [e2, e1, d1]; exact h1) (by rw [e0, d0]; exact h2)
  rw [e2, e1, d1] at gg
  simp only [e2, e1, e0, d1, d0] at cells
  rw [e2] at b2
  rw [e1] at b1
  rw [e0] at b0
  rw [d1] at y1 hy
  rw [d0] at y0
  have GD := Lib.hid gd
  have HC := Lib.hid cells
  have HD := Lib.hid hD
  have HW0 := Lib.hid hW0
  have hg0 : w.grownBy w (some g) := (below_grown (Below.refl _ w) _)
  obtain ⟨c1, c2, -, c4, -⟩ := cells w hg0 hW0
  have HNE := Lib.hid hne
  clear hF gd cells hD hne hW0 e2 e1 e0 d1 d0
  go_enter Tryz.func135, Tryz.ntmps135
  go_wp2
  go_quiet (fail)
  go_wp2
  go_quiet (fail)
  go_upto_block 0 with fail
  go_cut [7] from 45 to 86 (fun a wr => ∃ q : Nat, a = .int .u64 q ∧ q < 4294967296 ∧ val U / val v ≤ q ∧ w.grownBy wr (some g) ∧ Wn wr g j (p + 2) F U)
  case first =>
    go_wp2_with fail
    go_loopw [7, 8] (fun a b wr => ∃ q r : Nat, a = .int .u64 q ∧ b = .int .u64 r ∧ u2 * 4294967296 + u1 = q * v1 + r ∧ val U / val v ≤ q ∧ w.grownBy wr (some g) ∧ Wn wr g j (p + 2) F U) (fun a _ _ => (intOf a).toNat)
    case atStart =>
      refine ⟨(u2 * 4294967296 + u1) / v1, (u2 * 4294967296 + u1) % v1, ?_, ?_, ?_, gg, ?_, ?_⟩
      · rw [Int.natCast_ediv]; simp
      · rw [Int.natCast_emod]; simp
      · have := Nat.div_add_mod (u2 * 4294967296 + u1) v1
        rw [Nat.mul_comm v1] at this
        exact this.symm
      · exact grown_drewN (grown_drewN hg0 _) _
      · exact (HW0.out.drewN _).drewN _
    case round =>
      clear c1 c2 c4 hg0
      obtain ⟨q, r, rfl, rfl, hqr, hqq, hg, hW⟩ := hrel
      have tb : u2 * 4294967296 + u1 < 18446744073709551616 := by omega
      have qb : q < 18446744073709551616 := by
        have : q * 1 ≤ q * v1 := Nat.mul_le_mul_left q hy
        omega
      have rb0 : r < 18446744073709551616 := by omega
      obtain ⟨-, -, c3, c4, c5⟩ := HC.out wr hg hW
      have Out := Lib.hid (fun (w' : World) (hq : q < 4294967296) (h1 : w.grownBy w' (some g)) (h2 : Wn w' g j (p + 2) F U) => show ∃ q' : Nat, Value.int .u64 (q : Int) = .int .u64 q' ∧ q' < 4294967296 ∧ val U / val v ≤ q' ∧ w.grownBy w' (some g) ∧ Wn w' g j (p + 2) F U from ⟨q, rfl, hq, hqq, h1, h2⟩)
      have Nx := Lib.hid (fun (hq1 : val U / val v + 1 ≤ q) => show r + v1 < 18446744073709551616 ∧ 1 ≤ q ∧ (q - 1) * v1 + (r + v1) = u2 * 4294967296 + u1 ∧ val U / val v ≤ q - 1 from by
        clear hqq hQ gg
        generalize val U / val v = Q at *
        obtain ⟨k, rfl⟩ : ∃ k, q = k + 1 := ⟨q - 1, by omega⟩
        rw [Nat.add_mul, Nat.one_mul] at hqr
        simp only [Nat.add_sub_cancel]
        omega)
      have Hg := Lib.hid hg
      have HW := Lib.hid hW
      have Gd := Lib.hid (GD.out q r hqr)
      clear hqr hg hW
      by_cases hq : q < 4294967296
      · have dq : decide ((4294967296 : Int) ≤ (q : Int)) = false := decide_eq_false (by omega)
        by_cases hr : r < 4294967296
        · have dr : decide ((r : Int) < 4294967296) = true := decide_eq_true (by omega)
          have pb : q * v0 ≤ 4294967295 * 4294967295 := Nat.mul_le_mul (by omega) (by omega)
          have r1 : IntKind.u64.wrap ((q : Int) * (v0 : Int)) = ((q * v0 : Nat) : Int) := by rw [← Int.natCast_mul]; exact IntWalk.u64_in _ (by omega)
          generalize q * v0 = m at *
          by_cases hm : r * 4294967296 + u0 < m
          · have dm : decide ((r : Int) * 4294967296 + (u0 : Int) < (m : Int)) = true := decide_eq_true (by omega)
            obtain ⟨rb, q1, er, hq1⟩ := Nx.out (Nat.succ_le_of_lt (by rw [Nat.div_lt_iff_lt_mul hV0]; exact Gd.out hm))
            have eq1 : ((q - 1 : Nat) : Int) = (q : Int) - 1 := by omega
            have Fin := Lib.hid (fun w' (h1 : w.grownBy w' (some g)) (h2 : Wn w' g j (p + 2) F U) => show ∃ q' r' : Nat, Value.int .u64 ((q : Int) - 1) = .int .u64 q' ∧ Value.int .u64 ((r : Int) + (v1 : Int)) = .int .u64 r' ∧ u2 * 4294967296 + u1 = q' * v1 + r' ∧ val U / val v ≤ q' ∧ w.grownBy w' (some g) ∧ Wn w' g j (p + 2) F U from ⟨q - 1, r + v1, by rw [eq1], by simp, er.symm, hq1, h1, h2⟩)
            have Out1 := Lib.hid (fun (w' : World) (hq : q - 1 < 4294967296) (h1 : w.grownBy w' (some g)) (h2 : Wn w' g j (p + 2) F U) => show ∃ q' : Nat, Value.int .u64 ((q : Int) - 1) = .int .u64 q' ∧ q' < 4294967296 ∧ val U / val v ≤ q' ∧ w.grownBy w' (some g) ∧ Wn w' g j (p + 2) F U from ⟨q - 1, by rw [eq1], hq, hq1, h1, h2⟩)
            have d2 : decide ((q : Int) - 1 < 4294967296) = true := decide_eq_true (by omega)
            clear er hq1 hqq Nx Gd Out eq1
            by_cases hr1 : r + v1 < 4294967296
            · have d1 : decide ((4294967296 : Int) ≤ (r : Int) + (v1 : Int)) = false := decide_eq_false (by omega)
              go_wp2
              go_quiet (fail)
              go_wp2
              go_roundw
              case rel => exact Fin.out _ (grown_drewN Hg.out _) (HW.out.drewN _)
              case measure => simp [intOf]; omega
            · have d1 : decide ((4294967296 : Int) ≤ (r : Int) + (v1 : Int)) = true := decide_eq_true (by omega)
              go_wp2
              go_quiet (fail)
              go_wp2
              go_meet
              case rel => exact Out1.out _ (by omega) (grown_drewN Hg.out _) (HW.out.drewN _)
          · have dm : decide ((r : Int) * 4294967296 + (u0 : Int) < (m : Int)) = false := decide_eq_false (by omega)
            clear hqq Nx Gd
            go_wp2
            go_quiet (fail)
            go_wp2
            go_meet
            case rel => exact Out.out _ hq (grown_drewN Hg.out _) (HW.out.drewN _)
        · have dr : decide ((r : Int) < 4294967296) = false := decide_eq_false (by omega)
          clear hqq Nx Gd
          go_wp2
          go_quiet (fail)
          go_wp2
          go_meet
          case rel => exact Out.out _ hq (grown_drewN Hg.out _) (HW.out.drewN _)
      · obtain ⟨rb, q1, er, hq1⟩ := Nx.out (Nat.succ_le_of_lt (Nat.lt_of_lt_of_le hQ (by omega)))
        have dq : decide ((4294967296 : Int) ≤ (q : Int)) = true := decide_eq_true (by omega)
        have eq1 : ((q - 1 : Nat) : Int) = (q : Int) - 1 := by omega
        have Fin := Lib.hid (fun w' (h1 : w.grownBy w' (some g)) (h2 : Wn w' g j (p + 2) F U) => show ∃ q' r' : Nat, Value.int .u64 ((q : Int) - 1) = .int .u64 q' ∧ Value.int .u64 ((r : Int) + (v1 : Int)) = .int .u64 r' ∧ u2 * 4294967296 + u1 = q' * v1 + r' ∧ val U / val v ≤ q' ∧ w.grownBy w' (some g) ∧ Wn w' g j (p + 2) F U from ⟨q - 1, r + v1, by rw [eq1], by simp, er.symm, hq1, h1, h2⟩)
        have Out1 := Lib.hid (fun (w' : World) (hq : q - 1 < 4294967296) (h1 : w.grownBy w' (some g)) (h2 : Wn w' g j (p + 2) F U) => show ∃ q' : Nat, Value.int .u64 ((q : Int) - 1) = .int .u64 q' ∧ q' < 4294967296 ∧ val U / val v ≤ q' ∧ w.grownBy w' (some g) ∧ Wn w' g j (p + 2) F U from ⟨q - 1, by rw [eq1], hq, hq1, h1, h2⟩)
        clear er hq1 hqq Nx Gd Out eq1
        by_cases hr1 : r + v1 < 4294967296
        · have d1 : decide ((4294967296 : Int) ≤ (r : Int) + (v1 : Int)) = false := decide_eq_false (by omega)
          go_wp2
          go_quiet (fail)
          go_wp2
          go_roundw
          case rel => exact Fin.out _ (grown_drewN Hg.out _) (HW.out.drewN _)
          case measure => simp [intOf]; omega
        · have d1 : decide ((4294967296 : Int) ≤ (r : Int) + (v1 : Int)) = true := decide_eq_true (by omega)
          by_cases hq3 : q - 1 < 4294967296
          · have d2 : decide ((q : Int) - 1 < 4294967296) = true := decide_eq_true (by omega)
            go_wp2
            go_quiet (fail)
            go_wp2
            go_meet
            case rel => exact Out1.out _ hq3 (grown_drewN Hg.out _) (HW.out.drewN _)
          · have d2 : decide ((q : Int) - 1 < 4294967296) = false := decide_eq_false (by omega)
            go_wp2
            go_quiet (fail)
            go_wp2
            go_roundw
            case rel => exact Fin.out _ (grown_drewN Hg.out _) (HW.out.drewN _)
            case measure => simp [intOf]; omega
  case rest =>
    clear c1 c2 c4 gg
    obtain ⟨q, rfl, hq, hqq, hg, hW⟩ := hcut
    have HG0 := Lib.hid hg
    have HW1 := Lib.hid hW
    have HQ := Lib.hid hqq
    clear hg hW hqq HC GD HW0 hg0
    go_upto_block 2 with fail
    go_cut [9] from 87 to 125 (fun b wr => ∃ (bb : Nat) (r : List Nat), b = .int .i64 bb ∧ AI U v q bb r ∧ w.grownBy wr (some g) ∧ Wn wr g j (p + 2) F r)
    case first =>
      go_wp2_with fail
      go_loopw [9, 10, 11] (fun b c i wr => ∃ (bb cc k : Nat) (r : List Nat), b = .int .i64 bb ∧ c = .int .u64 cc ∧ i = .int .i64 k ∧ ((k ≤ p + 2 ∧ SIn U v q r k cc bb) ∨ (k = p + 3 ∧ AI U v q bb r)) ∧ w.grownBy wr (some g) ∧ Wn wr g j (p + 2) F r) (fun _ _ i _ => p + 3 - (intOf i).toNat)
      case atStart => exact ⟨0, 0, 0, U, rfl, rfl, rfl, Or.inl ⟨by omega, SIn.zero v q bU⟩, HG0.out, HW1.out⟩
      case round =>
        clear HG0 HW1 HQ
        obtain ⟨bb, cc, k, r, rfl, rfl, rfl, hS, hg, hW⟩ := hrel
        have hrl := hW.len
        have Hg := Lib.hid hg
        have HW := Lib.hid hW
        clear hg hW
        rcases hS with ⟨hk, hS⟩ | ⟨rfl, hA⟩
        · have hb1 := hS.b1
          have hc1 := hS.c1
          have cr := HW.out.cell (i := k) (by omega)
          have fr := HW.out.free (j + k)
          have xb := lb_get hS.lb (k := k) (by omega)
          by_cases hk2 : k < p + 2
          · have st := hS.step (by omega) (by omega) HD.out.lb hq
            have cv := (HD.out.grown Hg.out HNE.out).cell (k := k) (by omega)
            have yb := lb_get HD.out.lb (k := k) (by omega)
            generalize v[k]'(by omega) = y at cv yb st
            generalize r[k]'(by omega) = x at cr xb st
            have pb : q * y ≤ 4294967295 * 4294967295 := Nat.mul_le_mul (by omega) (by omega)
            have r1 : IntKind.u64.wrap ((q : Int) * (y : Int)) = ((q * y : Nat) : Int) := by rw [← Int.natCast_mul]; exact IntWalk.u64_in _ (by omega)
            generalize q * y = m at *
            have am := and_mask32 (cc + m) (by omega)
            rw [Int.natCast_add] at am
            have ed : ((cc : Int) + (m : Int)) / 4294967296 = (((cc + m) / 4294967296 : Nat) : Int) := by omega
            have lb := Nat.mod_lt (cc + m) (show 0 < 4294967296 by decide)
            have k1 : (k : Int) ≤ (p : Int) + 2 := by omega
            have k2 : (k : Int) < (p : Int) + 2 := by omega
            generalize (cc + m) % 4294967296 = lo at *
            generalize (cc + m) / 4294967296 = hi at *
            clear hS
            by_cases ht : x < lo + bb
            · have t1 : ((x : Int) - (lo : Int) - (bb : Int)) < 0 := by omega
              have t2 := decide_eq_true t1
              have ev : ((((x + 4294967296 - lo - bb) % 4294967296 : Nat)) : Int) = ((x : Int) - (lo : Int) - (bb : Int)) + 4294967296 := by omega
              rw [if_pos ht] at st
              have ws := (HW.out.set (i := k) (by omega) ((x + 4294967296 - lo - bb) % 4294967296))
              rw [ev] at ws
              have Fin := Lib.hid (show ∃ (b' c' k' : Nat) (r' : List Nat), Value.int .i64 1 = .int .i64 b' ∧ Value.int .u64 (hi : Int) = .int .u64 c' ∧ Value.int .i64 ((k : Int) + 1) = .int .i64 k' ∧ ((k' ≤ p + 2 ∧ SIn U v q r' k' c' b') ∨ (k' = p + 3 ∧ AI U v q b' r')) ∧ w.grownBy (wr.setCell ⟨g, j + k, none⟩ (.int .u32 (((x : Int) - (lo : Int) - (bb : Int)) + 4294967296))) (some g) ∧ Wn (wr.setCell ⟨g, j + k, none⟩ (.int .u32 (((x : Int) - (lo : Int) - (bb : Int)) + 4294967296))) g j (p + 2) F r' from ⟨1, hi, k + 1, _, rfl, rfl, by simp, Or.inl ⟨by omega, st⟩, grown_set Hg.out _ _, ws⟩)
              clear st ws ev HW Hg
              go_wp2_with fail
              go_roundw
              case rel => exact Fin.out
              case measure => simp [intOf]; omega
            · have t1 : ¬ ((x : Int) - (lo : Int) - (bb : Int)) < 0 := by omega
              have t2 := decide_eq_false t1
              have ev : ((((x + 4294967296 - lo - bb) % 4294967296 : Nat)) : Int) = ((x : Int) - (lo : Int) - (bb : Int)) := by omega
              rw [if_neg ht] at st
              have ws := (HW.out.set (i := k) (by omega) ((x + 4294967296 - lo - bb) % 4294967296))
              rw [ev] at ws
              have Fin := Lib.hid (show ∃ (b' c' k' : Nat) (r' : List Nat), Value.int .i64 0 = .int .i64 b' ∧ Value.int .u64 (hi : Int) = .int .u64 c' ∧ Value.int .i64 ((k : Int) + 1) = .int .i64 k' ∧ ((k' ≤ p + 2 ∧ SIn U v q r' k' c' b') ∨ (k' = p + 3 ∧ AI U v q b' r')) ∧ w.grownBy (wr.setCell ⟨g, j + k, none⟩ (.int .u32 (((x : Int) - (lo : Int) - (bb : Int))))) (some g) ∧ Wn (wr.setCell ⟨g, j + k, none⟩ (.int .u32 (((x : Int) - (lo : Int) - (bb : Int))))) g j (p + 2) F r' from ⟨0, hi, k + 1, _, rfl, rfl, by simp, Or.inl ⟨by omega, st⟩, grown_set Hg.out _ _, ws⟩)
              clear st ws ev HW Hg
              go_wp2_with fail
              go_roundw
              case rel => exact Fin.out
              case measure => simp [intOf]; omega
          · have hkp : k = p + 2 := by omega
            have hkv : k = v.length := by omega
            have hS' : SIn U v q r v.length cc bb := by rw [← hkv]; exact hS
            obtain ⟨l1, l2⟩ := hS'.last (by omega)
            simp only [← hkv] at l1 l2
            have st0 : ∀ r', r' = r.set k ((r[k]'(by omega) + 4294967296 - cc - bb) % 4294967296) → AI U v q (if r[k]'(by omega) < cc + bb then 1 else 0) r' := fun r' e => by
              subst e
              exact ⟨by simp; omega, l1, br_le _ _ _, by rw [l2, show U.length = k + 1 by omega]⟩
            have st := st0 _ rfl
            clear l1 l2 hS' hS st0
            generalize r[k]'(by omega) = x at cr xb st
            have am := and_mask32 cc (by omega)
            have e1 : cc % 4294967296 = cc := Nat.mod_eq_of_lt hc1
            rw [e1] at am
            have ed : (cc : Int) / 4294967296 = ((0 : Nat) : Int) := by omega
            obtain ⟨hi, hhi⟩ : ∃ hi, hi = 0 := ⟨_, rfl⟩
            have k1 : (k : Int) ≤ (p : Int) + 2 := by omega
            have k2 : ¬ (k : Int) < (p : Int) + 2 := by omega
            have k3 := decide_eq_false k2
            rw [← hhi] at ed
            obtain ⟨lo, hlo⟩ : ∃ lo, lo = cc := ⟨_, rfl⟩
            rw [← hlo] at st
            clear e1 hkp hkv
            by_cases ht : x < lo + bb
            · have t1 : ((x : Int) - (lo : Int) - (bb : Int)) < 0 := by omega
              have t2 := decide_eq_true t1
              have ev : ((((x + 4294967296 - lo - bb) % 4294967296 : Nat)) : Int) = ((x : Int) - (lo : Int) - (bb : Int)) + 4294967296 := by omega
              rw [if_pos ht] at st
              have ws := (HW.out.set (i := k) (by omega) ((x + 4294967296 - lo - bb) % 4294967296))
              rw [ev] at ws
              have Fin := Lib.hid (show ∃ (b' c' k' : Nat) (r' : List Nat), Value.int .i64 1 = .int .i64 b' ∧ Value.int .u64 (hi : Int) = .int .u64 c' ∧ Value.int .i64 ((k : Int) + 1) = .int .i64 k' ∧ ((k' ≤ p + 2 ∧ SIn U v q r' k' c' b') ∨ (k' = p + 3 ∧ AI U v q b' r')) ∧ w.grownBy (wr.setCell ⟨g, j + k, none⟩ (.int .u32 (((x : Int) - (lo : Int) - (bb : Int)) + 4294967296))) (some g) ∧ Wn (wr.setCell ⟨g, j + k, none⟩ (.int .u32 (((x : Int) - (lo : Int) - (bb : Int)) + 4294967296))) g j (p + 2) F r' from ⟨1, hi, k + 1, _, rfl, rfl, by simp, Or.inr ⟨by omega, st⟩, grown_set Hg.out _ _, ws⟩)
              clear st ws ev HW Hg
              go_wp2_with fail
              go_roundw
              case rel =>
                subst hlo hhi
                exact Fin.out
              case measure => simp [intOf]; omega
            · have t1 : ¬ ((x : Int) - (lo : Int) - (bb : Int)) < 0 := by omega
              have t2 := decide_eq_false t1
              have ev : ((((x + 4294967296 - lo - bb) % 4294967296 : Nat)) : Int) = ((x : Int) - (lo : Int) - (bb : Int)) := by omega
              rw [if_neg ht] at st
              have ws := (HW.out.set (i := k) (by omega) ((x + 4294967296 - lo - bb) % 4294967296))
              rw [ev] at ws
              have Fin := Lib.hid (show ∃ (b' c' k' : Nat) (r' : List Nat), Value.int .i64 0 = .int .i64 b' ∧ Value.int .u64 (hi : Int) = .int .u64 c' ∧ Value.int .i64 ((k : Int) + 1) = .int .i64 k' ∧ ((k' ≤ p + 2 ∧ SIn U v q r' k' c' b') ∨ (k' = p + 3 ∧ AI U v q b' r')) ∧ w.grownBy (wr.setCell ⟨g, j + k, none⟩ (.int .u32 (((x : Int) - (lo : Int) - (bb : Int))))) (some g) ∧ Wn (wr.setCell ⟨g, j + k, none⟩ (.int .u32 (((x : Int) - (lo : Int) - (bb : Int))))) g j (p + 2) F r' from ⟨0, hi, k + 1, _, rfl, rfl, by simp, Or.inr ⟨by omega, st⟩, grown_set Hg.out _ _, ws⟩)
              clear st ws ev HW Hg
              go_wp2_with fail
              go_roundw
              case rel =>
                subst hlo hhi
                exact Fin.out
              case measure => simp [intOf]; omega
        · have k1 : ¬ ((p : Int) + 3) ≤ (p : Int) + 2 := by omega
          have Fin := Lib.hid hA
          clear hA
          go_wp2_with fail
          go_meet
          case rel => exact ⟨bb, r, rfl, Fin.out, Hg.out, HW.out⟩
    case rest =>
      clear HG0 HW1
      obtain ⟨bb, r, rfl, hA, hg, hW⟩ := hcut
      have HA := Lib.hid hA
      have HG := Lib.hid hg
      have HW := Lib.hid hW
      clear hA hg hW
      go_wp2_with fail
      go_loopw [7, 9] (fun a b wr => ∃ (q bb : Nat) (r : List Nat), a = .int .u64 q ∧ b = .int .i64 bb ∧ q < 4294967296 ∧ val U / val v ≤ q ∧ AI U v q bb r ∧ w.grownBy wr (some g) ∧ Wn wr g j (p + 2) F r) (fun a _ _ => (intOf a).toNat)
      case atStart => exact ⟨q, bb, r, rfl, rfl, hq, HQ.out, HA.out, HG.out, HW.out⟩
      case round =>
        clear HG HW HA HQ hq
        obtain ⟨q, bb, r0, rfl, rfl, hq, hqq, hA, hg, hW⟩ := hrel
        have hb1 := hA.b1
        have hrl := hA.len
        by_cases hb0 : bb = 0
        · subst hb0
          have hv := hA.v
          rw [Nat.zero_mul, Nat.add_zero] at hv
          obtain ⟨f1, f2⟩ := quo_fin hV0 hqq hv
          have q32 : (q : Int) % 4294967296 = (q : Int) := by omega
          have Fin := Lib.hid (show StepPost w g j (p + 2) F v (.returned (.int .u32 (q : Int))) wr from ⟨by rw [hU, ← f1], ⟨r0, by omega, hA.lb, by rw [hU]; exact f2, hW.row⟩, hg⟩)
          clear hA hg hW hv f1 f2 hqq
          go_wp2_with fail
          refine bodyPost_ret (results_tmp rfl _ _ _) rfl ?_
          exact Fin.out
        · obtain rfl : bb = 1 := by omega
          obtain ⟨n1, n2⟩ := hA.pos hV0
          have az := AIn.zero v hA.lb
          have HA := Lib.hid hA
          have HG := Lib.hid hg
          have HW := Lib.hid hW
          have AZ := Lib.hid az
          have N1 := Lib.hid n1
          have q1 : 1 ≤ q := n2
          clear hA hg hW az n1 hqq
          go_wp2_with fail
          go_loopw [10, 13] (fun c i wr => ∃ (cc k : Nat) (r : List Nat), c = .int .u64 cc ∧ i = .int .i64 k ∧ k ≤ p + 3 ∧ AIn r0 v r k cc ∧ w.grownBy wr (some g) ∧ Wn wr g j (p + 2) F r) (fun _ i _ => p + 3 - (intOf i).toNat)
          case atStart => exact ⟨0, 0, r0, rfl, rfl, by omega, AZ.out, HG.out, HW.out⟩
          case round =>
            clear HG HW AZ
            obtain ⟨cc, k, r, rfl, rfl, hk, hI, hg, hW⟩ := hrel
            have hrl2 := hW.len
            have hc1 := hI.c1
            have Hg := Lib.hid hg
            have HW := Lib.hid hW
            clear hg hW
            by_cases hk2 : k < p + 3
            · have cr := HW.out.cell (i := k) (by omega)
              have fr := HW.out.free (j + k)
              have xb := lb_get hI.lb (k := k) (by omega)
              have st := hI.step (i := k) (by omega) HD.out.lb
              have yb := at0_lt HD.out.lb k
              generalize r[k]'(by omega) = x at cr xb st
              clear hI
              have k1 : (k : Int) ≤ (p : Int) + 2 := by omega
              by_cases hk3 : k < p + 2
              · have cv := (HD.out.grown Hg.out HNE.out).cell (k := k) (by omega)
                rw [at0_in (by omega)] at st yb
                generalize v[k]'(by omega) = y at cv yb st
                have k2 : (k : Int) < (p : Int) + 2 := by omega
                have ev : (((cc + x + y) % 4294967296 : Nat) : Int) = ((cc : Int) + (x : Int) + (y : Int)) % 4294967296 := by omega
                have ed : (((cc + x + y) / 4294967296 : Nat) : Int) = ((cc : Int) + (x : Int) + (y : Int)) / 4294967296 := by omega
                have ws := (HW.out.set (i := k) (by omega) ((cc + x + y) % 4294967296))
                rw [ev] at ws
                have Fin := Lib.hid (show ∃ (c' k' : Nat) (r' : List Nat), Value.int .u64 (((cc : Int) + (x : Int) + (y : Int)) / 4294967296) = .int .u64 c' ∧ Value.int .i64 ((k : Int) + 1) = .int .i64 k' ∧ k' ≤ p + 3 ∧ AIn r0 v r' k' c' ∧ w.grownBy (wr.setCell ⟨g, j + k, none⟩ (.int .u32 (((cc : Int) + (x : Int) + (y : Int)) % 4294967296))) (some g) ∧ Wn (wr.setCell ⟨g, j + k, none⟩ (.int .u32 (((cc : Int) + (x : Int) + (y : Int)) % 4294967296))) g j (p + 2) F r' from ⟨_, k + 1, _, by rw [← ed], by simp, by omega, st, grown_set Hg.out _ _, ws⟩)
                clear st ws ev ed HW Hg
                go_wp2_with fail
                go_roundw
                case rel => exact Fin.out
                case measure => simp [intOf]; omega
              · rw [at0_out (by omega), Nat.add_zero] at st
                have k2 : ¬ (k : Int) < (p : Int) + 2 := by omega
                have ev : (((cc + x) % 4294967296 : Nat) : Int) = ((cc : Int) + (x : Int)) % 4294967296 := by omega
                have ed : (((cc + x) / 4294967296 : Nat) : Int) = ((cc : Int) + (x : Int)) / 4294967296 := by omega
                have ws := (HW.out.set (i := k) (by omega) ((cc + x) % 4294967296))
                rw [ev] at ws
                have Fin := Lib.hid (show ∃ (c' k' : Nat) (r' : List Nat), Value.int .u64 (((cc : Int) + (x : Int)) / 4294967296) = .int .u64 c' ∧ Value.int .i64 ((k : Int) + 1) = .int .i64 k' ∧ k' ≤ p + 3 ∧ AIn r0 v r' k' c' ∧ w.grownBy (wr.setCell ⟨g, j + k, none⟩ (.int .u32 (((cc : Int) + (x : Int)) % 4294967296))) (some g) ∧ Wn (wr.setCell ⟨g, j + k, none⟩ (.int .u32 (((cc : Int) + (x : Int)) % 4294967296))) g j (p + 2) F r' from ⟨_, k + 1, _, by rw [← ed], by simp, by omega, st, grown_set Hg.out _ _, ws⟩)
                clear st ws ev ed HW Hg
                go_wp2_with fail
                go_roundw
                case rel => exact Fin.out
                case measure => simp [intOf]; omega
            · have k1 : ¬ (k : Int) ≤ (p : Int) + 2 := by omega
              obtain hkp : k = U.length := by omega
              have nx := HA.out.next (r := r) (c := cc) (by rw [← hkp]; exact hI) n2 (by omega)
              have e1 : ((q - 1 : Nat) : Int) = (q : Int) - 1 := by omega
              have e2 : ((1 - cc : Nat) : Int) = 1 - (cc : Int) := by omega
              have Fin := Lib.hid (show ∃ (q' b' : Nat) (r' : List Nat), Value.int .u64 ((q : Int) - 1) = .int .u64 q' ∧ Value.int .i64 (1 - (cc : Int)) = .int .i64 b' ∧ q' < 4294967296 ∧ val U / val v ≤ q' ∧ AI U v q' b' r' ∧ w.grownBy wr (some g) ∧ Wn wr g j (p + 2) F r' from ⟨q - 1, 1 - cc, r, by rw [e1], by rw [e2], by omega, N1.out, nx, Hg.out, HW.out⟩)
              clear nx e1 e2 hI hkp Hg HW
              go_wp2_with fail
              go_roundw
              case rel => exact Fin.out
              case measure => simp [intOf]; omega
end Wd
end Go.Proofs.YtjgcbeihgeaimaaGreatDoor
/-
  Plain law of the reference's moving to the right, limb by limb.
-/
namespace Go.Proofs.YtjgcbeihgeaimaaGreatDoor
namespace Wd

structure OIn (N s : Nat) (L : List Nat) (i : Nat) : Prop where
  len : L.length = i
  lb : Lb L
  v : val L = N / 2 ^ s % 4294967296 ^ i
theorem OIn.zero (N s : Nat) : OIn N s [] 0 := ⟨rfl, fun x hx => by simp at hx, by simp [val, Nat.mod_one]⟩
theorem out_mod {x z s : Nat} (hs : s < 32) : (x + 4294967296 * (4294967296 * z)) / 2 ^ s % 4294967296 = x / 2 ^ s % 4294967296 := by
  have e : (4294967296 : Nat) = 2 ^ s * 2 ^ (32 - s) := by
    rw [← Nat.pow_add, show s + (32 - s) = 32 by omega]
  have e2 : 4294967296 * (4294967296 * z) = 2 ^ s * (4294967296 * (2 ^ (32 - s) * z)) := by
    have : 4294967296 * z = 2 ^ s * (2 ^ (32 - s) * z) := by rw [← Nat.mul_assoc, ← e]
    rw [this, Nat.mul_left_comm]
  rw [e2, Nat.add_mul_div_left _ _ (Nat.two_pow_pos s), Nat.add_mul_mod_self_left]
theorem OIn.step {R L : List Nat} {s i : Nat} (h : OIn (val R) s L i) (hR : Lb R) (hi : i < R.length) (hs : s < 32) : OIn (val R) s (L ++ [(R[i] + at0 R (i + 1) * 4294967296) / 2 ^ s % 4294967296]) (i + 1) := by
  have hl := h.len
  refine ⟨by simp [hl], lb_snoc h.lb (Nat.mod_lt _ (by decide)), ?_⟩
  rw [val_snoc, h.v, hl, Nat.pow_succ, Nat.mod_mul]
  congr 2
  have e0 : val R / 2 ^ s / 4294967296 ^ i = val R / 4294967296 ^ i / 2 ^ s := by
    rw [Nat.div_div_eq_div_mul, Nat.div_div_eq_div_mul, Nat.mul_comm]
  rw [e0, ← val_drop_div hR (by omega), val_drop hi]
  have e : val (R.drop (i + 1)) = at0 R (i + 1) + 4294967296 * val (R.drop (i + 2)) := by
    by_cases h2 : i + 1 < R.length
    · rw [at0_in h2, val_drop h2]
    · rw [at0_out h2, List.drop_of_length_le (by omega), List.drop_of_length_le (by omega)]; simp [val]
  rw [e, Nat.mul_add, ← Nat.add_assoc, out_mod hs, Nat.mul_comm 4294967296 (at0 R (i + 1))]
theorem OIn.fin {R L : List Nat} {s n : Nat} (h : OIn (val R) s L n) (hR : Lb R) (hn : R.length = n) : val L = val R / 2 ^ s := by
  have := val_lt R hR
  rw [hn] at this
  rw [h.v, Nat.mod_eq_of_lt (Nat.lt_of_le_of_lt (Nat.div_le_self _ _) this)]
end Wd
end Go.Proofs.YtjgcbeihgeaimaaGreatDoor
/-
  The reference's whole numbers: over, the quick ways.
-/
namespace Go.Proofs.YtjgcbeihgeaimaaGreatDoor
namespace Wd
open Go.RowKit Lw

set_option maxRecDepth 100000 in
set_option maxHeartbeats 4000000 in
theorem rover_lt (X Y : Nat) (A D : Option Addr) (na ca nb cb : Nat) (w : World) (hA : Lim w A na ca (canon X)) (hD : Lim w D nb cb (canon Y)) (h : X < Y) :
    Calls Tryz.prog 123 #[.slice A na ca, .slice D nb cb] w (TwoPost w (canon (X / Y)) (canon (X % Y))) := by
  have hc := rcompare_walk X Y A D na ca nb cb w hA hD
  rw [cmp_lt h] at hc
  have tr := fun w' (hb : Below w.heap.size w w') => rtrim_all (canon X) A na ca w' (hA.below hb)
  rw [val_canon] at tr
  have e0 : X / Y = 0 := Nat.div_eq_of_lt h
  have e1 : X % Y = X := Nat.mod_eq_of_lt h
  have Tr := Lib.hid tr
  clear tr hA hD
  rw [e0, e1, canon_zero]
  go_enter Tryz.func123, Tryz.ntmps123
  go_wp2_with (first | (go_at_call 116; refine hc.mono ?_; rintro e w1 ⟨rfl, hb⟩; have HB := Lib.hid hb; clear hb) | (go_at_call 124; refine (Tr.out _ HB.out).mono ?_; rintro e w2 ⟨g, cp, rfl, -, hL, -, hg, hb⟩; have HB2 := Lib.hid (below_then HB.out hb); have HL := Lib.hid hL; clear hb hL))
  exact bodyPost_ret (results_tmp2 rfl _ _ _) rfl ⟨none, 0, _, cp, rfl, Lim.nil _, HL.out, Or.inr ⟨rfl, rfl⟩, Or.inl ⟨g, 0, rfl, hg⟩, HB2.out⟩
set_option maxRecDepth 100000 in
set_option maxHeartbeats 4000000 in
theorem rover_one (X Y : Nat) (A D : Option Addr) (na ca cb : Nat) (w : World) (hA : Lim w A na ca (canon X)) (hD : Lim w D 1 cb (canon Y)) (h : Y ≤ X) :
    Calls Tryz.prog 123 #[.slice A na ca, .slice D 1 cb] w (TwoPost w (canon (X / Y)) (canon (X % Y))) := by
  have ld := hD.len
  have hc := rcompare_walk X Y A D na ca 1 cb w hA hD
  have hge' : (0 : Int) ≤ cmpN X Y := by
    rcases Nat.lt_or_eq_of_le h with g | g
    · rw [cmp_gt g]; omega
    · rw [g, cmp_eq]; omega
  generalize cmpN X Y = cc at hc hge'
  have hY0 : 0 < Y := (canon_lenpos Y).1 (by omega)
  obtain ⟨bD, oD, rfl, hDl, -⟩ := hD.row (by omega)
  have cD := hD.cell (k := 0) (by omega)
  have hy : (canon Y)[0]'(by omega) = Y := by
    have e := canon_pos (show Y ≠ 0 by omega)
    have h1 : canon (Y / 4294967296) = [] := by
      have := congrArg List.length e
      rw [ld, List.length_cons] at this
      exact List.length_eq_zero_iff.1 (by omega)
    have h2 := (canon_spec (Y / 4294967296)).2.2.1.1 h1
    simp only [e, List.getElem_cons_zero]
    omega
  rw [hy] at cD
  have hYb : Y < 4294967296 := by rw [← hy]; exact lb_get (lb_canon Y) (by omega)
  have cD' := fun w' (hb : Below w.heap.size w w') => (hb.cell (p := ⟨bD, oD + 0, none⟩) hDl).trans cD
  simp only [Nat.add_zero] at cD'
  have sw := fun w' (hb : Below w.heap.size w w') => rshort_walk (canon X) A na ca Y w' (hA.below hb) hY0 hYb
  rw [val_canon] at sw
  have Sw := Lib.hid sw
  have CD := Lib.hid cD'
  clear sw cD' cD hA hD hy
  go_enter Tryz.func123, Tryz.ntmps123
  go_wp2_with (first | (go_at_call 116; refine hc.mono ?_; rintro e w1 ⟨rfl, hb⟩; have HB := Lib.hid hb; have cd := CD.out _ hb; clear hb) | (go_at_call 133; refine (Sw.out _ HB.out).mono ?_; rintro e w2 ⟨a1, c1, a2, c2, rfl, hL1, hL2, hA1, hA2, hb⟩; have HB2 := Lib.hid (below_then HB.out hb); have HL1 := Lib.hid hL1; have HL2 := Lib.hid hL2; clear hb hL1 hL2 cd))
  exact bodyPost_ret (results_tmp2 rfl _ _ _) rfl ⟨a1, c1, a2, c2, rfl, HL1.out, HL2.out, hA1, hA2, HB2.out⟩
end Wd
end Go.Proofs.YtjgcbeihgeaimaaGreatDoor
/-
  The reference's whole numbers: over, the long way.
-/
namespace Go.Proofs.YtjgcbeihgeaimaaGreatDoor
namespace Wd
open Go.RowKit Lw

theorem shr_cast (N s : Nat) : ((N / 2 ^ s % 4294967296 : Nat) : Int) = (N : Int) / 2 ^ s % 4294967296 := by
  rw [Int.natCast_emod, Int.natCast_ediv, Int.natCast_pow]; rfl
set_option maxRecDepth 100000 in
set_option maxHeartbeats 8000000 in
theorem rover_more (X Y : Nat) (A D : Option Addr) (na ca p cb : Nat) (w : World) (hA : Lim w A na ca (canon X)) (hD : Lim w D (p + 2) cb (canon Y)) (h : Y ≤ X) (hn : na + 10 ≤ 1000000) :
    Calls Tryz.prog 123 #[.slice A na ca, .slice D (p + 2) cb] w (TwoPost w (canon (X / Y)) (canon (X % Y))) := by
  obtain ⟨i0', hi, hzz⟩ := Option.map_eq_some_iff.1 info4
  simp only [Prod.mk.injEq] at hzz
  obtain ⟨hz0, hz1, hz2⟩ := hzz
  have la := hA.len
  have ld := hD.len
  have hY0 : 0 < Y := (canon_lenpos Y).1 (by omega)
  have hlen : p + 2 ≤ na := by
    rw [← la, ← ld]
    rcases Nat.lt_or_ge (canon X).length (canon Y).length with g | g
    · have := canon_lt_of_len g; omega
    · exact g
  have hc := rcompare_walk X Y A D na ca (p + 2) cb w hA hD
  have hge' : (0 : Int) ≤ cmpN X Y := by
    rcases Nat.lt_or_eq_of_le h with g | g
    · rw [cmp_gt g]; omega
    · rw [g, cmp_eq]; omega
  generalize cmpN X Y = cc at hc hge'
  obtain ⟨bD, oD, rfl, hDl, -⟩ := hD.row (by omega)
  have cD := hD.cell (k := p + 1) (by omega)
  have yb := lb_get (lb_canon Y) (k := p + 1) (by omega)
  have y0 : (canon Y)[p + 1]'(by omega) ≠ 0 := by
    have := canon_last ld (by omega)
    simpa using this
  obtain ⟨y, ey⟩ : ∃ y, (canon Y)[p + 1]'(by omega) = y := ⟨_, rfl⟩
  have top : ∀ s, 2147483648 ≤ y * 2 ^ s → y * 2 ^ s < 4294967296 → ∀ h : p + 2 - 1 < (canon Y).length, 2147483648 ≤ (canon Y)[p + 2 - 1] * 2 ^ s ∧ (canon Y)[p + 2 - 1] * 2 ^ s < 4294967296 := fun s h1 h2 _ => by
    simp only [show p + 2 - 1 = p + 1 by omega, ey]
    exact ⟨h1, h2⟩
  rw [ey] at cD yb y0
  have Top := Lib.hid top
  have cD' := Lib.hid (fun w' (hb : Below w.heap.size w w') => (hb.cell (p := ⟨bD, oD + (p + 1), none⟩) hDl).trans cD)
  have LA := Lib.hid (fun w' s (hs : s < 32) (hb : Below w.heap.size w w') => rleft_walk (canon X) A na ca s w' (hA.below hb) (by omega) (by omega))
  have LD := Lib.hid (fun w' s (hs : s < 32) (hb : Below w.heap.size w w') => rleft_walk (canon Y) (some ⟨bD, oD, none⟩) (p + 2) cb s w' (hD.below hb) (by omega) (by omega))
  clear hA hD cD ey top
  go_enter Tryz.func123, Tryz.ntmps123
  go_wp2_with (go_at_call 116; refine hc.mono ?_; rintro e w1 ⟨rfl, hb⟩; have HB := Lib.hid hb; have cd := cD'.out _ hb; clear hb)
  go_loopw [7] (fun a wr => ∃ s : Nat, a = .int .u64 s ∧ s ≤ 31 ∧ y * 2 ^ s < 4294967296 ∧ wr = w1) (fun a _ => 31 - (intOf a).toNat)
  case atStart => exact ⟨0, rfl, by omega, by omega, rfl⟩
  case round =>
    obtain ⟨s, rfl, hs, hy, rfl⟩ := hrel
    have r1 : IntKind.u32.wrap ((y : Int) * 2 ^ s) = ((y * 2 ^ s : Nat) : Int) := by
      rw [show (y : Int) * 2 ^ s = ((y * 2 ^ s : Nat) : Int) by rw [Int.natCast_mul, Int.natCast_pow]; rfl]
      exact IntWalk.u32_in _ (by omega)
    have hs1 : y * 2 ^ s < 2147483648 → s < 31 := fun hlt => by
      rcases Nat.lt_or_ge s 31 with h | h
      · exact h
      · obtain rfl : s = 31 := by omega
        have : 1 * 2 ^ 31 ≤ y * 2 ^ 31 := Nat.mul_le_mul_right _ (Nat.pos_of_ne_zero y0)
        omega
    have hy2 : y * 2 ^ s < 2147483648 → y * 2 ^ (s + 1) < 4294967296 := fun hlt => by
      rw [Nat.pow_succ, ← Nat.mul_assoc]; omega
    have t1 := fun h => Top.out s h hy
    have Hs1 := Lib.hid hs1
    have Hy2 := Lib.hid hy2
    have T1 := Lib.hid t1
    clear hs1 hy2 t1
    generalize y * 2 ^ s = m at *
    by_cases hlt : m < 2147483648
    · have k1 : (m : Int) < 2147483648 := by omega
      have h31 := Hs1.out hlt
      go_wp2
      go_roundw
      case rel => exact ⟨s + 1, by simp, by omega, Hy2.out hlt, by first | rfl | trivial⟩
      case measure => simp [intOf]; omega
    · have k1 : ¬ (m : Int) < 2147483648 := by omega
      have t1 := Lib.hid (T1.out (by omega))
      clear hc hy Hs1 Hy2 T1 Top cD'
      go_wp2_with fail
      refine (LD.out _ s (by omega) HB.out).mono ?_
      rintro e wv ⟨V, Lv, rfl, lv1, lv2, lv3, lv4, hbv⟩
      obtain ⟨gv, capv, hV, cv1, cv2, Rv⟩ := own_row lv4 (by omega)
      rw [lv1] at hV cv1
      subst hV
      have hsl : ∀ W, (Instr.slice 91 (.slice (some ⟨gv, 0, none⟩) (p + 2 + 1) capv) none (some (.int .i64 ((p : Int) + 2))) none).run Tryz.prog W = .ok (.slice (some ⟨gv, 0, none⟩) (p + 2) capv) W := take_run (some ⟨gv, 0, none⟩) (p + 2 + 1) capv (p + 2) (by omega)
      have HBv := Lib.hid (below_then HB.out hbv)
      have RV := Lib.hid Rv
      have LV := Lib.hid lv3
      clear hbv lv3 lv4 Rv LD HB
      go_wp2_with fail
      refine (LA.out _ s (by omega) HBv.out).mono ?_
      rintro e wX ⟨V, Lu, rfl, lu1, lu2, lu3, lu4, hbu⟩
      obtain ⟨gu, capu, hV, cu1, cu2, Ru⟩ := own_row lu4 (by omega)
      rw [lu1] at hV cu1
      subst hV
      have hgu : w.heap.size ≤ gu := Nat.le_trans HBv.out.size cu2
      have hne : gu ≠ gv := by have h1 := RV.out.lt; omega
      have rv := RV.out.below hbu
      have HB := Lib.hid (below_then HBv.out hbu)
      have nm := Norm.of (lb_canon Y) ld (by omega) hs lv1 lv2 LV.out t1.out
      have hz := QIn.zero (u := Lu) (V := val (Lv.take (p + 2))) (n := p + 2) (m := na - (p + 1)) (by omega) lu2 (nm.start (lb_canon X) lu3 (by omega))
      have hvL := rv.lim lv2 0 (p + 2) (cap := capv) (by omega) (by omega) (by omega)
      simp only [List.drop_zero] at hvL
      have HZ := Lib.hid hz
      have HV := Lib.hid hvL
      have NM := Lib.hid nm
      have RU := Lib.hid Ru
      have LU := Lib.hid lu3
      clear RV rv nm hz hvL LV lv2 HBv LA hbu lu3 lu4 Ru hsl
      obtain ⟨m, rfl⟩ : ∃ m, na = p + 1 + m := ⟨na - (p + 1), by omega⟩
      rw [Nat.add_sub_cancel_left] at HZ
      have hmk : ∀ w, (Instr.makeSlice 91 (.int .i64 ((p : Int) + 1 + (m : Int) + 1 - ((p : Int) + 2))) (.int .i64 ((p : Int) + 1 + (m : Int) + 1 - ((p : Int) + 2)))).run Tryz.prog w = .ok (.slice (some ⟨w.heap.size, 0, none⟩) m m) (w.alloc (.cells (nu m) 119)) := fun w => by
        have := make_nu m (by omega) w
        rwa [show (m : Int) = (p : Int) + 1 + (m : Int) + 1 - ((p : Int) + 2) by omega] at this
      have vX := LU.out
      have vV := NM.out.e
      rw [val_canon] at vX vV
      have fin1 : ∀ a b : Nat, a = val Lu / val (Lv.take (p + 2)) → b = val Lu % val (Lv.take (p + 2)) → a = X / Y ∧ b / 2 ^ s = X % Y := fun a b e1 e2 => by
        obtain ⟨q1, q2⟩ := shift_quo X Y s
        rw [e1, e2, vX, vV, q1, q2]
        exact ⟨rfl, Nat.mul_div_cancel _ (Nat.two_pow_pos s)⟩
      have Fin1 := Lib.hid fin1
      have hvlt := NM.out.lt
      have hv0 := NM.out.pos
      have hvy : ∀ h : p + 1 < (Lv.take (p + 2)).length, 0 < (Lv.take (p + 2))[p + 1] := fun h => by
        have := NM.out.top (by simpa using h)
        simp only [show p + 2 - 1 = p + 1 by omega] at this
        omega
      have Hvy := Lib.hid hvy
      have ruX := RU.out.lt
      have hgvX : gv < wX.heap.size := by
        obtain ⟨b, off, e, hb, _⟩ := HV.out.row (by omega)
        cases e
        exact hb
      clear LU vX vV fin1 NM hvy t1
      generalize hvv : Lv.take (p + 2) = v at *
      go_wp2
      have b1 := (Below.refl _ wX).alloc (Nat.le_refl _) (.cells (nu m) 119)
      have st : ∃ (t : Nat) (U Q : List Nat), t ≤ m ∧ Value.int .i64 ((m : Int) - 1) = .int .i64 ((t : Int) - 1) ∧ QIn (val Lu) (val v) U Q (p + 2) m t ∧ Row (wX.alloc (.cells (nu m) 119)) gu U ∧ Arr (wX.alloc (.cells (nu m) 119)) wX.heap.size Q ∧ Lim (wX.alloc (.cells (nu m) 119)) (some ⟨gv, 0, none⟩) (p + 2) capv v ∧ Below w.heap.size w (wX.alloc (.cells (nu m) 119)) :=
        ⟨m, Lu, _, Nat.le_refl _, rfl, HZ.out, RU.out.below b1, Arr.nu wX m, HV.out.below b1, below_then HB.out b1⟩
      have hXs := HB.out.size
      clear HZ RU HV b1 HB hmk cd r1 k1 hlt
      go_loopw [11] (fun i wr => ∃ (t : Nat) (U Q : List Nat), t ≤ m ∧ i = .int .i64 ((t : Int) - 1) ∧ QIn (val Lu) (val v) U Q (p + 2) m t ∧ Row wr gu U ∧ Arr wr wX.heap.size Q ∧ Lim wr (some ⟨gv, 0, none⟩) (p + 2) capv v ∧ Below w.heap.size w wr) (fun i _ => (intOf i + 1).toNat)
      case atStart => exact st
      case round =>
        clear st
        obtain ⟨t, U, Q, ht, rfl, hQ, hR, hA, hL, hB⟩ := hrel
        have lU := hQ.lu
        have lQ := hQ.lq
        cases t with
        | succ k =>
          obtain ⟨h1, h2, h3, h4⟩ := hQ.high (by omega) hvlt
          have hw : ∀ w, (Instr.slice 91 (.slice (some ⟨gu, 0, none⟩) (p + 1 + m + 1) capu) (some (.int .i64 (k : Int))) (some (.int .i64 ((k : Int) + ((p : Int) + 2) + 1))) none).run Tryz.prog w = .ok (.slice (some ⟨gu, k, none⟩) (p + 3) (capu - k)) w := fun w => by
            have := win_run gu (p + 1 + m + 1) capu k (p + 3) (by omega) (by omega) w
            rwa [show (k : Int) + ((p + 3 : Nat) : Int) = (k : Int) + ((p : Int) + 2) + 1 by omega] at this
          have sw := Lib.hid (rdigit_walk U v gu k (capu - k) p capv (some ⟨gv, 0, none⟩) wr hR hQ.bu (by omega) (by omega) (by omega) hL (fun b off e => by cases e; omega) Hvy.out h4)
          have e1 : (((k + 1 : Nat)) : Int) - 1 = (k : Int) := by omega
          have e2 : IntKind.i64.wrap ((k : Int) - 1) = (k : Int) - 1 := IntWalk.i64_in _ (by omega)
          have k2 : (0 : Int) ≤ (k : Int) := by omega
          have k3 : (k : Int) < (m : Int) := by omega
          have HQ := Lib.hid hQ
          have HA := Lib.hid hA
          have HL := Lib.hid hL
          have HB := Lib.hid hB
          clear hQ hR hA hL hB h2 h3 h4
          rw [e1]
          go_wp2_with (go_at_call 135; refine sw.out.mono ?_; rintro e w3 ⟨rfl, ⟨r, hr1, hr2, hr3, hr4⟩, hgr⟩; have aq3 := HA.out.grown hgr (by simp; omega); obtain ⟨lx, cq⟩ : ∃ lx : Nat, w3.cell? ⟨wX.heap.size, k, none⟩ = some (.int .u32 (lx : Int)) := ⟨_, aq3.cell (by omega)⟩; have fq := aq3.free k; have HA3 := Lib.hid aq3; have HR3 := Lib.hid hr4; have HG := Lib.hid hgr; have HB3 := Lib.hid (HB.out.grown hgr HB.out.size (fun k e => by cases e; omega)); have HV3 := Lib.hid hr3; clear aq3 hr4 hgr hr3)
          go_roundw
          case rel => exact ⟨k, _, _, by omega, rfl, HQ.out.step (by omega) hvlt hv0 hr1 hr2 HV3.out, HR3.out.other (by simp; omega) _, HA3.out.set k _, (HL.out.grown HG.out (fun b off e => by cases e; omega)).grown (grownBy_set2 _ _ _ _) (fun b off e => by cases e; omega), HB3.out.setCell (p := ⟨wX.heap.size, k, none⟩) (by simp; omega) _⟩
          case measure => simp [intOf]
        | zero =>
          obtain ⟨f1, f2⟩ := hQ.fin
          obtain ⟨g1, g2⟩ := Fin1.out _ _ f1 f2
          have limQ := hA.lim hQ.bq (cap := m) (by omega) (by omega)
          rw [lQ] at limQ
          have ruW := hR.lt
          have aqW := hA.lt
          have lb3 := hQ.bu
          -- the upper limbs are 0
          have hR0 : val (U.take (p + 2)) = val U := by
            rw [val_take_mod hQ.bu (by omega), Nat.mod_eq_of_lt]
            rw [f2]
            exact Nat.lt_trans (Nat.mod_lt _ hv0) hvlt
          have hsl : ∀ W, (Instr.slice 91 (.slice (some ⟨gu, 0, none⟩) (p + 1 + m + 1) capu) none (some (.int .i64 ((p : Int) + 2))) none).run Tryz.prog W = .ok (.slice (some ⟨gu, 0, none⟩) (p + 2) capu) W := take_run (some ⟨gu, 0, none⟩) (p + 1 + m + 1) capu (p + 2) (by omega)
          have HR := Lib.hid hR
          have HA := Lib.hid hA
          have HB := Lib.hid hB
          have LQ := Lib.hid limQ
          have G1 := Lib.hid g1
          have G2 := Lib.hid g2
          have HR0 := Lib.hid hR0
          have LB3 := Lib.hid lb3
          clear hQ hR hA hL hB f1 f2 limQ g1 g2 hR0 lb3 Fin1 Hvy hv0 hvlt
          simp only [show ((0 : Nat) : Int) - 1 = -1 from rfl]
          go_wp2
          have hA0 : OwnL wr wr.heap.size (.slice none 0 0) [] := World.ownsRow_nil _ _ _ _
          have hB0 := Below.refl wr.heap.size wr
          go_loopw [13, 14] (fun V i wq => ∃ (k : Nat) (L : List Nat), k ≤ p + 2 ∧ i = .int .i64 k ∧ OIn (val (U.take (p + 2))) s L k ∧ OwnL wq wr.heap.size V L ∧ Below wr.heap.size wr wq) (fun _ i _ => p + 2 - (intOf i).toNat)
          case atStart => exact ⟨0, [], by omega, rfl, OIn.zero _ _, hA0, hB0⟩
          case round =>
            clear hA0 hB0
            rename World => wq
            obtain ⟨k, L, hk, rfl, hF, hO, hB⟩ := hrel
            have hL := hF.len
            have hsz := hB.size
            have HO := Lib.hid hO
            have HBq := Lib.hid hB
            clear hO hB
            by_cases hlt : k < p + 2
            · have hRq := HR.out.below HBq.out
              have cU := hRq.cell (k := k) (by omega)
              have xb := lb_get LB3.out (k := k) (by omega)
              have st := hF.step (lb_take LB3.out _) (by simp; omega) (by omega)
              rw [List.getElem_take] at st
              generalize U[k]'(by omega) = x at cU xb st
              have i1 : (k : Int) < (p : Int) + 2 := by omega
              by_cases hib : k + 1 < p + 2
              · have cU2 := hRq.cell (k := k + 1) (by omega)
                have yb := lb_get LB3.out (k := k + 1) (by omega)
                rw [at0_in (by simp; omega), List.getElem_take] at st
                generalize U[k + 1]'(by omega) = y at cU2 yb st
                have j1 : (k : Int) + 1 < (p : Int) + 2 := by omega
                clear hF hRq
                -- ARM1
                have ev : (((x + y * 4294967296) / 2 ^ s % 4294967296 : Nat) : Int) = (((x : Int) + (y : Int) * 4294967296) / 2 ^ s % 4294967296) := by rw [shr_cast, Int.natCast_add, Int.natCast_mul]; rfl
                have St := Lib.hid st
                have Ev := Lib.hid ev
                clear st ev
                go_wp2_with (at_builtin; refine wpList_append_own _ rfl (.tmp 101) (.tmp 106) 91 rfl wr.heap.size 119 i0' (.int .u32 0) 1 4 Tryz.underlying91 hi hz0 hz1 hz2 rfl (by decide) _ _ _ rfl (HO.out.alloc _) ⟨wq.heap.size, 0, none⟩ 1 1 [.int .u32 (((x : Int) + (y : Int) * 4294967296) / 2 ^ s % 4294967296)] rfl rfl (by intro j u hj; match j, hj with | 0, hj => (simp at hj; subst hj; simp [Addr.add])) (by intro u hu; simp at hu; subst hu; rfl) (by unfold maxLen; omega) (by omega) (by simp; omega) ?_)
                intro v' w1 hown' hgrow _
                have hB1 := (HBq.out.alloc (Nat.le_of_lt_succ (by omega)) (.cells #[.int .u32 (((x : Int) + (y : Int) * 4294967296) / 2 ^ s % 4294967296)] 119)).grown hgrow (by simp; omega) (fun k e => (HO.out.lt k e).1)
                rw [← Ev.out] at hown'
                have Fin := Lib.hid (show ∃ (k' : Nat) (L' : List Nat), k' ≤ p + 2 ∧ Value.int .i64 ((k : Int) + 1) = .int .i64 (k' : Int) ∧ OIn (val (U.take (p + 2))) s L' k' ∧ OwnL w1 wr.heap.size v' L' ∧ Below wr.heap.size wr w1 from ⟨k + 1, _, by omega, by simp, St.out, own_snoc (by rw [hL]; exact hown'), hB1⟩)
                clear hown' hgrow hB1
                go_wp2
                go_roundw
                case rel => exact Fin.out
                case measure => simp [intOf]; omega
              · rw [at0_out (by simp; omega), Nat.zero_mul, Nat.add_zero] at st
                have j1 : ¬ (k : Int) + 1 < (p : Int) + 2 := by omega
                clear hF hRq
                -- ARM2
                have ev : (((x) / 2 ^ s % 4294967296 : Nat) : Int) = ((x : Int) / 2 ^ s % 4294967296) := by exact shr_cast x s
                have St := Lib.hid st
                have Ev := Lib.hid ev
                clear st ev
                go_wp2_with (at_builtin; refine wpList_append_own _ rfl (.tmp 101) (.tmp 106) 91 rfl wr.heap.size 119 i0' (.int .u32 0) 1 4 Tryz.underlying91 hi hz0 hz1 hz2 rfl (by decide) _ _ _ rfl (HO.out.alloc _) ⟨wq.heap.size, 0, none⟩ 1 1 [.int .u32 ((x : Int) / 2 ^ s % 4294967296)] rfl rfl (by intro j u hj; match j, hj with | 0, hj => (simp at hj; subst hj; simp [Addr.add])) (by intro u hu; simp at hu; subst hu; rfl) (by unfold maxLen; omega) (by omega) (by simp; omega) ?_)
                intro v' w1 hown' hgrow _
                have hB1 := (HBq.out.alloc (Nat.le_of_lt_succ (by omega)) (.cells #[.int .u32 ((x : Int) / 2 ^ s % 4294967296)] 119)).grown hgrow (by simp; omega) (fun k e => (HO.out.lt k e).1)
                rw [← Ev.out] at hown'
                have Fin := Lib.hid (show ∃ (k' : Nat) (L' : List Nat), k' ≤ p + 2 ∧ Value.int .i64 ((k : Int) + 1) = .int .i64 (k' : Int) ∧ OIn (val (U.take (p + 2))) s L' k' ∧ OwnL w1 wr.heap.size v' L' ∧ Below wr.heap.size wr w1 from ⟨k + 1, _, by omega, by simp, St.out, own_snoc (by rw [hL]; exact hown'), hB1⟩)
                clear hown' hgrow hB1
                go_wp2
                go_roundw
                case rel => exact Fin.out
                case measure => simp [intOf]; omega
            · obtain rfl : k = p + 2 := by omega
              have ff := hF.fin (lb_take LB3.out _) (by simp; omega)
              rw [HR0.out, G2.out] at ff
              have lbL := hF.lb
              obtain ⟨g, cp, rfl, hcp, hg, hrow⟩ := own_row HO.out (by omega)
              have hgl := (HO.out.lt g rfl).2
              have t1 := rtrim_row Q wX.heap.size 0 m m wq (LQ.out.below HBq.out) (by omega)
              rw [G1.out] at t1
              have t2 := fun w1 (hb : Below wq.heap.size wq w1) => rtrim_row L g 0 L.length cp w1 ((Row.lim0 hrow lbL hcp (by omega)).below hb) (Nat.lt_of_lt_of_le hgl hb.size)
              rw [ff] at t2
              have T1 := Lib.hid t1
              have T2 := Lib.hid t2
              have HB2 := Lib.hid (below_then HB.out HBq.out)
              clear t1 t2 ff hrow hF
              simp only [hL]
              rw [hL] at T2
              go_wp2_with fail
              refine T1.out.mono ?_
              rintro e w1 ⟨g1, c1, rfl, -, hL1, hg1, hg2, hb1⟩
              have L1 := Lib.hid hL1
              have Hb1 := Lib.hid hb1
              clear hb1 hL1
              go_wp2_with fail
              refine (T2.out w1 Hb1.out).mono ?_
              rintro e w2 ⟨g3, c3, rfl, -, hL2, hg3, hg4, hb2⟩
              have Fin := Lib.hid (show TwoPost w (canon (X / Y)) (canon (X % Y)) (.returned (.tuple #[.slice (some ⟨g1, 0, none⟩) (canon (X / Y)).length c1, .slice (some ⟨g3, 0, none⟩) (canon (X % Y)).length c3])) w2 from
                ⟨_, c1, _, c3, rfl, L1.out.below hb2, hL2, Or.inl ⟨g1, 0, rfl, Nat.lt_of_lt_of_le hg2 hb2.size⟩, Or.inl ⟨g3, 0, rfl, hg4⟩, below_then (below_then HB2.out Hb1.out) hb2⟩)
              clear hb2 hL2 L1
              go_wp2
              refine bodyPost_ret (results_tmp2 rfl _ _ _) rfl ?_
              exact Fin.out
end Wd
end Go.Proofs.YtjgcbeihgeaimaaGreatDoor
/-
  The reference's whole numbers: over, Gcd.
-/
namespace Go.Proofs.YtjgcbeihgeaimaaGreatDoor
namespace Wd
open Go.RowKit Lw

theorem rover_all (X Y : Nat) (A D : Option Addr) (na ca nb cb : Nat) (w : World) (hA : Lim w A na ca (canon X)) (hD : Lim w D nb cb (canon Y)) (hY : 0 < Y) (hn : na + 10 ≤ 1000000) :
    Calls Tryz.prog 123 #[.slice A na ca, .slice D nb cb] w (TwoPost w (canon (X / Y)) (canon (X % Y))) := by
  have ld := hD.len
  have hp := (canon_lenpos Y).2 hY
  rcases Nat.lt_or_ge X Y with h | h
  · exact rover_lt X Y A D na ca nb cb w hA hD h
  · rcases Nat.lt_or_ge nb 2 with h2 | h2
    · obtain rfl : nb = 1 := by omega
      exact rover_one X Y A D na ca cb w hA hD h
    · obtain ⟨p, rfl⟩ : ∃ p, nb = p + 2 := ⟨nb - 2, by omega⟩
      exact rover_more X Y A D na ca p cb w hA hD h hn
set_option maxRecDepth 100000 in
set_option maxHeartbeats 4000000 in
theorem rgcd_walk (V1 V2 : Value) (z1 z2 : Int) (w : World) (h1 : Wide 0 w V1 z1) (h2 : Wide 0 w V2 z2) (hx : (canon z1.natAbs).length ≤ 4000) (hy : (canon z2.natAbs).length ≤ 4000) :
    Calls Tryz.prog 108 #[V1, V2] w (NumPost w ((Nat.gcd z1.natAbs z2.natAbs : Nat) : Int)) := by
  have RB := Lib.hid (fun w' (hb : Below w.heap.size w w') => rboth_walk V1 V2 z1 z2 w' (h1.below hb) (h2.below hb) (by omega) (by omega))
  obtain ⟨a, n, ca, rfl, hA, -⟩ := h1
  obtain ⟨d, m, cd, rfl, hD, -⟩ := h2
  have la := hA.len
  have ld := hD.len
  have hS0 := BX.new w (decide (z1 < 0)) (decide (z2 < 0)) (.slice a n ca) (.slice d m cd)
  have HA := Lib.hid hA
  have HD := Lib.hid hD
  have HS := Lib.hid hS0
  clear hA hD hS0
  generalize decide (z1 < 0) = n1 at *
  generalize decide (z2 < 0) = n2 at *
  generalize z1.natAbs = X at *
  generalize z2.natAbs = Y at *
  go_enter Tryz.func108, Tryz.ntmps108
  go_wp2_with fail
  refine (RB.out _ HS.out.below).mono ?_
  rintro e w1 ⟨rfl, hb⟩
  have hS := HS.out.call hb
  clear hb HS RB
  obtain ⟨s1, s2, s3, s4, -⟩ := hS.s
  go_wp2_with fail
  go_quiet (fail)
  have hS := hS.drewN nq
  have st : ∃ (P Q : Nat) (ax : Option Addr) (nx cx : Nat) (ay : Option Addr) (ny cy : Nat), Value.slice a n ca = .slice ax nx cx ∧ Value.slice d m cd = .slice ay ny cy ∧ Lim (w1.drewN nq) ax nx cx (canon P) ∧ Lim (w1.drewN nq) ay ny cy (canon Q) ∧ Nat.gcd P Q = Nat.gcd X Y ∧ nx ≤ 4000 ∧ ny ≤ 4000 ∧ BX w n1 n2 (.slice a n ca) (.slice d m cd) (w1.drewN nq) :=
    ⟨X, Y, a, n, _, d, m, cd, rfl, rfl, HA.out.below hS.below, HD.out.below hS.below, rfl, by omega, by omega, hS⟩
  have ST := Lib.hid st
  clear st hS s1 s2 s3 s4
  go_wp2
  go_loopw [6, 7] (fun x y wr => ∃ (P Q : Nat) (ax : Option Addr) (nx cx : Nat) (ay : Option Addr) (ny cy : Nat), x = .slice ax nx cx ∧ y = .slice ay ny cy ∧ Lim wr ax nx cx (canon P) ∧ Lim wr ay ny cy (canon Q) ∧ Nat.gcd P Q = Nat.gcd X Y ∧ nx ≤ 4000 ∧ ny ≤ 4000 ∧ BX w n1 n2 (.slice a n ca) (.slice d m cd) wr) (fun _ y wr => rdv wr y)
  case atStart => exact ST.out
  case round =>
    clear ST
    obtain ⟨P, Q, ax, nx, cx, ay, ny, cy, rfl, rfl, hP, hQ, hg, bx, by', hB⟩ := hrel
    have lq := hQ.len
    have lp := hP.len
    have mq := rdv_lim hQ
    rw [val_canon] at mq
    have HB := Lib.hid hB
    have HQ := Lib.hid hQ
    have HP := Lib.hid hP
    clear hB hP hQ
    by_cases hq : 0 < ny
    · have q0 : 0 < Q := (canon_lenpos Q).1 (by omega)
      have dv := rover_all P Q ax ay nx cx ny cy wr HP.out HQ.out q0 (by omega)
      have k1 : (0 : Int) < (ny : Int) := by omega
      have hm : (canon (P % Q)).length ≤ 4000 := Nat.le_trans (canon_mono (Nat.le_of_lt (Nat.mod_lt _ q0))) (by omega)
      have MQ := Lib.hid mq
      clear mq
      go_wp2_with (go_at_call 123; refine dv.mono ?_; rintro e w3 ⟨aq, cq, ar, cr, rfl, l1, l2, f1, f2, hb⟩; have L2 := Lib.hid l2; have HBB := Lib.hid hb; clear l1 l2 f1 f2 hb)
      go_roundw
      case rel => exact ⟨Q, P % Q, ay, ny, cy, ar, _, cr, rfl, rfl, HQ.out.below HBB.out, L2.out, by rw [gcd_step]; exact hg, by', hm, HB.out.call HBB.out⟩
      case measure =>
        rw [MQ.out, rdv_lim L2.out, val_canon]
        exact Nat.mod_lt _ q0
    · obtain rfl : ny = 0 := by omega
      have q0 : Q = 0 := by
        rcases Nat.eq_zero_or_pos Q with g | g
        · exact g
        · have := (canon_lenpos Q).2 g; omega
      subst q0
      rw [Nat.gcd_zero_right] at hg
      have mw := rmade_all false (canon P) ax nx cx wr HP.out (by rw [val_canon]; omega)
      rw [val_canon, show sgn false P = (P : Int) from rfl] at mw
      have MW := Lib.hid mw
      have hs3 := HB.out.size
      clear mw mq
      go_wp2_with fail
      refine MW.out.mono ?_
      rintro e w4 ⟨V, rfl, ⟨az, kz, cz, rfl, hM, fz⟩, hb4⟩
      have hB4 := HB.out.call hb4
      have F := Lib.hid (num_fin2 (z := (P : Int)) hB4 hM (fun b off e => Nat.le_trans hs3 (fz b off e)))
      obtain ⟨-, -, -, -, s5, s6, s7, s8, -⟩ := hB4.s
      clear hM hb4 hB4
      go_wp2_with fail
      have F2 := F.out.2
      rw [hg] at F2
      have F1 := F.out.1
      rw [hg] at F1
      exact bodyPost_ret (ret_cell_tmp Tryz.results108 _ _ (w.heap.size + 2) [.bool _, .slice _ _ _] _ rfl F1 Tryz.underlying93 rfl infoW) rfl F2
end Wd
end Go.Proofs.YtjgcbeihgeaimaaGreatDoor
/-
  The reference's whole numbers: DivMod by a number above zero that divides.
-/
namespace Go.Proofs.YtjgcbeihgeaimaaGreatDoor
namespace Wd
open Go.RowKit Lw

/-- Two whole numbers in boxes and two cells for results. -/
structure BZ (w0 : World) (x y : Bool) (u v : Value) (w : World) : Prop where
  bx : BX w0 x y u v w
  size : w0.heap.size + 4 ≤ w.heap.size
  th2 : w.there (w0.heap.size + 3) 0 2
theorem BZ.call {w0 w w' : World} {x y : Bool} {u v : Value} (h : BZ w0 x y u v w) (hb : Below w.heap.size w w') : BZ w0 x y u v w' := by
  have := h.size
  have := hb.size
  exact ⟨h.bx.call hb, by omega, there_below h.th2 hb (by omega)⟩
theorem BZ.new (w0 : World) (x y : Bool) (u v : Value) : BZ w0 x y u v ((((w0.alloc (.cells #[.bool x, u] 93)).alloc (.cells #[.bool y, v] 93)).alloc (.cells #[.bool false, .slice none 0 0] 93)).alloc (.cells #[.bool false, .slice none 0 0] 93)) := by
  have h := (BX.new w0 x y u v).call ((Below.refl _ _).alloc (Nat.le_refl _) (.cells #[.bool false, .slice none 0 0] 93))
  have t := there_new (((w0.alloc (.cells #[.bool x, u] 93)).alloc (.cells #[.bool y, v] 93)).alloc (.cells #[.bool false, .slice none 0 0] 93)) #[.bool false, .slice none 0 0] 93 2 (by simp)
  simp only [World.size_alloc] at t
  exact ⟨h, by simp, t⟩
/-- Two numbers in boxes of their own, and two cells for results. -/
structure DF (w0 : World) (g h : Nat) (bq br : Bool) (aq ar : Option Addr) (kq cq kr cr : Nat) (lq lr : List Nat) (w : World) : Prop where
  below : Below w0.heap.size w0 w
  gs : w0.heap.size + 4 ≤ g
  hs : w0.heap.size + 4 ≤ h
  q0 : w.cell? ⟨g, 0, none⟩ = some (.bool bq)
  q1 : w.cell? ⟨g, 1, none⟩ = some (.slice aq kq cq)
  r0 : w.cell? ⟨h, 0, none⟩ = some (.bool br)
  r1 : w.cell? ⟨h, 1, none⟩ = some (.slice ar kr cr)
  t1 : w.there (w0.heap.size + 1 + 1) 0 2
  t2 : w.there (w0.heap.size + 1 + 1 + 1) 0 2
  lq : Lim w aq kq cq lq
  lr : Lim w ar kr cr lr
  fq : ∀ b off, aq = some ⟨b, off, none⟩ → w0.heap.size + 4 ≤ b
  fr : ∀ b off, ar = some ⟨b, off, none⟩ → w0.heap.size + 4 ≤ b
section
variable {w0 : World} {g h : Nat} {bq br : Bool} {aq ar : Option Addr} {kq cq kr cr : Nat} {lq lr : List Nat} {w : World}
theorem DF.set (H : DF w0 g h bq br aq ar kq cq kr cr lq lr w) {b : Nat} (h1 : w0.heap.size ≤ b) (h2 : b < w0.heap.size + 4) (o : Nat) (v : Value) : DF w0 g h bq br aq ar kq cq kr cr lq lr (w.setCell ⟨b, o, none⟩ v) := by
  have e1 := H.gs
  have e2 := H.hs
  refine ⟨H.below.setCell (p := ⟨b, o, none⟩) h1 _, H.gs, H.hs, ?_, ?_, ?_, ?_, there_setCell H.t1 _ _, there_setCell H.t2 _ _, H.lq.grown (grownBy_set2 _ _ _ _) (fun b' off e => by have := H.fq b' off e; omega), H.lr.grown (grownBy_set2 _ _ _ _) (fun b' off e => by have := H.fr b' off e; omega), H.fq, H.fr⟩
  · exact (World.cell?_setCell_other _ _ _ _ (by simp <;> omega)).trans H.q0
  · exact (World.cell?_setCell_other _ _ _ _ (by simp <;> omega)).trans H.q1
  · exact (World.cell?_setCell_other _ _ _ _ (by simp <;> omega)).trans H.r0
  · exact (World.cell?_setCell_other _ _ _ _ (by simp <;> omega)).trans H.r1
theorem DF.drew (H : DF w0 g h bq br aq ar kq cq kr cr lq lr w) : DF w0 g h bq br aq ar kq cq kr cr lq lr w.drew :=
  ⟨H.below.trans (Below.refl _ _).drew, H.gs, H.hs, H.q0, H.q1, H.r0, H.r1, H.t1, H.t2, H.lq.below (Below.refl _ _).drew, H.lr.below (Below.refl _ _).drew, H.fq, H.fr⟩
abbrev DFS (w0 : World) (g h : Nat) (bq br : Bool) (aq ar : Option Addr) (kq cq kr cr : Nat) (lq lr : List Nat) (w' : World) : Prop :=
  w'.cell? ⟨g, 0, none⟩ = some (.bool bq) ∧ w'.cell? ⟨g, 1, none⟩ = some (.slice aq kq cq) ∧ w'.cell? ⟨h, 0, none⟩ = some (.bool br) ∧ w'.cell? ⟨h, 1, none⟩ = some (.slice ar kr cr) ∧
    w'.cell? ⟨w0.heap.size + 2, 0, none⟩ = some (cellOf w' ⟨w0.heap.size + 2, 0, none⟩) ∧ w'.cell? ⟨w0.heap.size + 2, 1, none⟩ = some (cellOf w' ⟨w0.heap.size + 2, 1, none⟩) ∧
    w'.cell? ⟨w0.heap.size + 3, 0, none⟩ = some (cellOf w' ⟨w0.heap.size + 3, 0, none⟩) ∧ w'.cell? ⟨w0.heap.size + 3, 1, none⟩ = some (cellOf w' ⟨w0.heap.size + 3, 1, none⟩) ∧
    w'.frozen? ⟨w0.heap.size + 2, 0, none⟩ = false ∧ w'.frozen? ⟨w0.heap.size + 2, 1, none⟩ = false ∧ w'.frozen? ⟨w0.heap.size + 3, 0, none⟩ = false ∧ w'.frozen? ⟨w0.heap.size + 3, 1, none⟩ = false ∧ DF w0 g h bq br aq ar kq cq kr cr lq lr w'
theorem DF.s (H : DF w0 g h bq br aq ar kq cq kr cr lq lr w) : DFS w0 g h bq br aq ar kq cq kr cr lq lr w :=
  ⟨H.q0, H.q1, H.r0, H.r1, cellOf_some (H.t1 0 (by omega)).1, cellOf_some (H.t1 1 (by omega)).1, cellOf_some (H.t2 0 (by omega)).1, cellOf_some (H.t2 1 (by omega)).1, (H.t1 0 (by omega)).2, (H.t1 1 (by omega)).2, (H.t2 0 (by omega)).2, (H.t2 1 (by omega)).2, H⟩
theorem range_set {w : World} {b : Nat} (t : w.there b 0 2) (x y : Value) : ((w.setCell ⟨b, 0, none⟩ x).setCell ⟨b, 1, none⟩ y).rangeAt b 0 [x, y] := by
  refine range2 ?_ ?_
  · exact (World.cell?_setCell_other _ _ _ _ (by simp)).trans (World.cell?_setCell_same' _ _ _ (t 0 (by omega)).1)
  · refine World.cell?_setCell_same' _ _ _ ?_
    rw [World.cell?_setCell_other _ _ _ _ (by simp)]
    exact (t 1 (by omega)).1
theorem range_far {w : World} {b c o : Nat} {x y z : Value} (h : w.rangeAt b 0 [x, y]) (hne : b ≠ c) : (w.setCell ⟨c, o, none⟩ z).rangeAt b 0 [x, y] := by
  refine range2 ?_ ?_
  · exact (World.cell?_setCell_other _ _ _ _ (by simp <;> omega)).trans (h 0 _ rfl)
  · exact (World.cell?_setCell_other _ _ _ _ (by simp <;> omega)).trans (h 1 _ rfl)
end
set_option maxRecDepth 100000 in
set_option maxHeartbeats 4000000 in
theorem rdivmod_walk (V1 V2 : Value) (z1 : Int) (g : Nat) (w : World) (h1 : Wide 0 w V1 z1) (h2 : Wide 0 w V2 (g : Int)) (hg : 0 < g) (hdv : g ∣ z1.natAbs) (hx : (canon z1.natAbs).length ≤ 4000) (hy : (canon g).length ≤ 4000) :
    Calls Tryz.prog 115 #[V1, V2] w (DMPost w (sgn (decide (z1 < 0)) (z1.natAbs / g)) 0) := by
  have RB := Lib.hid (fun w' (hb : Below w.heap.size w w') => rboth_walk V1 V2 z1 (g : Int) w' (h1.below hb) (h2.below hb) (by omega) (by rw [Int.natAbs_natCast]; omega))
  obtain ⟨a, n, ca, rfl, hA, -⟩ := h1
  obtain ⟨d, m, cd, rfl, hD, -⟩ := h2
  rw [decide_eq_false (show ¬ (g : Int) < 0 by omega)] at RB ⊢
  rw [Int.natAbs_natCast] at hD
  have la := hA.len
  have ld := hD.len
  have mp : 0 < m := by rw [← ld]; exact (canon_lenpos _).2 hg
  have k1 : ¬ (m : Int) = 0 := by omega
  have hS0 := BZ.new w (decide (z1 < 0)) false (.slice a n ca) (.slice d m cd)
  have OV := Lib.hid (fun w' (hb : Below w.heap.size w w') => rover_all z1.natAbs g a d n ca m cd w' (hA.below hb) (hD.below hb) hg (by omega))
  rw [Nat.mod_eq_zero_of_dvd hdv, canon_zero] at OV
  have HA := Lib.hid hA
  have HD := Lib.hid hD
  have HS := Lib.hid hS0
  clear hA hD hS0
  generalize decide (z1 < 0) = n1 at *
  generalize hQ : z1.natAbs / g = Q at *
  have hQl : (canon Q).length ≤ 4096 := by rw [← hQ]; exact Nat.le_trans (canon_mono (Nat.div_le_self _ _)) (by omega)
  clear hdv hQ
  go_enter Tryz.func115, Tryz.ntmps115
  go_wp2_with fail
  refine (RB.out _ HS.out.bx.below).mono ?_
  rintro e w1 ⟨rfl, hb⟩
  have hS := HS.out.call hb
  have c0 := hS.bx.x0
  have c1 := hS.bx.x1
  have d0 := hS.bx.y0
  have d1 := hS.bx.y1
  have HSS := Lib.hid hS
  have ov := OV.out w1 hS.bx.below
  clear hb HS RB hS OV
  go_wp2_with fail
  refine ov.mono ?_
  rintro e w2 ⟨aq, cq, ar, cr, rfl, l1, l2, f1, f2, hb⟩
  have hS2 := HSS.out.call hb
  have c0 := hS2.bx.x0
  have d0 := hS2.bx.y0
  have HS2 := Lib.hid hS2
  have L2 := Lib.hid l2
  have F2 := Lib.hid f2
  have mq := fun neg => rmade_any neg (canon Q) aq _ cq w2 l1 f1 (by rw [val_canon]; exact hQl)
  rw [val_canon] at mq
  clear HSS c1 d1 hb hS2 ov l1 l2 f1 f2
  go_wp2_with fail
  refine (mq _).mono ?_
  rintro e w3 ⟨V, rfl, ⟨az, kz, cz, rfl, hM, fz⟩, hb3⟩
  have ba := (Below.refl w3.heap.size w3).alloc (Nat.le_refl _) (.cells #[.bool (decide (sgn n1 Q < 0)), .slice az kz cz] 93)
  have b34 := below_then hb3 ba
  have hS4 := HS2.out.call b34
  have c0' := (HS2.out.call hb3).bx.x0
  have c0'' := hS4.bx.x0
  have mr := rmade_any n1 [] ar 0 cr (w3.alloc (.cells #[.bool (decide (sgn n1 Q < 0)), .slice az kz cz] 93)) (L2.out.below b34) (F2.out.below b34) (by rw [val, canon_zero]; simp)
  rw [show sgn n1 (val []) = 0 by cases n1 <;> rfl] at mr
  have LZ := Lib.hid (hM.below ba)
  have HS4 := Lib.hid hS4
  have hsz := HS2.out.size
  have hs3 := hb3.size
  have bnew := rangeAt_new w3 [.bool (decide (sgn n1 Q < 0)), .slice az kz cz] 93
  have BN := Lib.hid bnew
  clear mq c0 d0 hM ba b34 hS4 HS2 L2 F2 hb3 bnew
  go_wp2_with fail
  refine mr.mono ?_
  rintro e w4 ⟨V, rfl, ⟨ar', kr, cr', rfl, hM, fr⟩, hb4⟩
  rw [decide_eq_false (show ¬ (0 : Int) < 0 by omega)]
  have ba := (Below.refl w4.heap.size w4).alloc (Nat.le_refl _) (.cells #[.bool false, .slice ar' kr cr'] 93)
  have b35 := below_then hb4 ba
  have hS5 := HS4.out.call b35
  have hs4 := hb4.size
  have hszz := HS4.out.size
  simp only [World.size_alloc] at hs4 fr hszz
  have rq := rangeAt_below BN.out b35 (by simp)
  have rr := rangeAt_new w4 [.bool false, .slice ar' kr cr'] 93
  have hD : DF w w3.heap.size w4.heap.size (decide (sgn n1 Q < 0)) false az ar' kz cz kr cr' (canon (sgn n1 Q).natAbs) (canon 0) (w4.alloc (.cells #[.bool false, .slice ar' kr cr'] 93)) :=
    ⟨hS5.bx.below, by omega, by omega, rq 0 _ rfl, rq 1 _ rfl, rr 0 _ rfl, rr 1 _ rfl, hS5.bx.th, hS5.th2, LZ.out.below b35, hM.below ba, fun b off e => by have := fz b off e; omega, fun b off e => by have := fr b off e; omega⟩
  have HDF := Lib.hid hD
  clear mr hM ba b35 hS5 rq rr hD BN LZ fz fr HS4 hb4 c0' c0''
  go_wp2_with fail
  generalize hbq : decide (sgn n1 Q < 0) = bq at *
  have hW5 : w4.heap.size < (w4.alloc (.cells #[.bool false, .slice ar' kr cr'] 93)).heap.size := by simp
  generalize w4.alloc (.cells #[.bool false, .slice ar' kr cr'] 93) = W5 at *
  have d1 := (HDF.out.set (b := w.heap.size + 1 + 1) (by omega) (by omega) 0 (.bool bq)).set (b := w.heap.size + 1 + 1) (by omega) (by omega) 1 (.slice az kz cz)
  have d2 := (d1.set (b := w.heap.size + 1 + 1 + 1) (by omega) (by omega) 0 (.bool false)).set (b := w.heap.size + 1 + 1 + 1) (by omega) (by omega) 1 (.slice ar' kr cr')
  have ra : World.rangeAt ((((W5.setCell ⟨w.heap.size + 1 + 1, 0, none⟩ (.bool bq)).setCell ⟨w.heap.size + 1 + 1, 1, none⟩ (.slice az kz cz)).setCell ⟨w.heap.size + 1 + 1 + 1, 0, none⟩ (.bool false)).setCell ⟨w.heap.size + 1 + 1 + 1, 1, none⟩ (.slice ar' kr cr')) (w.heap.size + 1 + 1) 0 [.bool bq, .slice az kz cz] :=
    range_far (range_far (range_set HDF.out.t1 _ _) (by omega)) (by omega)
  have rb := range_set d1.t2 (.bool false) (.slice ar' kr cr')
  have Po := Lib.hid (show DMPost w (sgn n1 Q) 0 (.returned (.tuple #[.agg #[.bool bq, .slice az kz cz], .agg #[.bool false, .slice ar' kr cr'], .int .i64 0])) ((((W5.setCell ⟨w.heap.size + 1 + 1, 0, none⟩ (.bool bq)).setCell ⟨w.heap.size + 1 + 1, 1, none⟩ (.slice az kz cz)).setCell ⟨w.heap.size + 1 + 1 + 1, 0, none⟩ (.bool false)).setCell ⟨w.heap.size + 1 + 1 + 1, 1, none⟩ (.slice ar' kr cr')).drew from
    ⟨_, _, rfl, ⟨az, kz, cz, by rw [hbq], d2.drew.lq, fun b off e => by have := d2.fq b off e; omega⟩, ⟨ar', kr, cr', rfl, d2.drew.lr, fun b off e => by have := d2.fr b off e; omega⟩, d2.drew.below⟩)
  have RA := Lib.hid ra
  have RB := Lib.hid rb
  obtain ⟨x1, x2, x3, x4, x5, x6, x7, x8, y1, y2, y3, y4, -⟩ := HDF.out.s
  clear d1 d2 ra rb HDF c0 d0
  go_region_with (fail)
  all_goals
    clear x1 x2 x3 x4 x5 x6 x7 x8 y1 y2 y3 y4
    go_wp2_with fail
    refine bodyPost_ret (ret_cell2_tmp Tryz.results115 _ _ (w.heap.size + 1 + 1) (w.heap.size + 1 + 1 + 1) [.bool bq, .slice az kz cz] [.bool false, .slice ar' kr cr'] _ rfl rfl RA.out RB.out Tryz.underlying93 rfl infoW infoW) rfl ?_
    exact Po.out
end Wd
end Go.Proofs.YtjgcbeihgeaimaaGreatDoor
/-
  The reference's fractions: Reduced, of a number that is not 0 and one above zero.
-/
namespace Go.Proofs.YtjgcbeihgeaimaaGreatDoor
namespace Wd
open Go.RowKit Lw

/-- The value of a fraction, whose limbs lie at or behind block B. -/
def FracZ (B : Nat) (w : World) (V : Value) (p : Int) (q : Nat) : Prop := ∃ a k c a' k' c', V = .agg #[.bool (decide (p < 0)), .slice a k c, .bool false, .slice a' k' c'] ∧ Lim w a k c (canon p.natAbs) ∧ Lim w a' k' c' (canon q) ∧ (∀ b off, a = some ⟨b, off, none⟩ → B ≤ b) ∧ (∀ b off, a' = some ⟨b, off, none⟩ → B ≤ b)
structure RZ (w0 : World) (x : Bool) (u v : Value) (w : World) : Prop where
  below : Below w0.heap.size w0 w
  size : w0.heap.size + 3 ≤ w.heap.size
  x0 : w.cell? ⟨w0.heap.size, 0, none⟩ = some (.bool x)
  x1 : w.cell? ⟨w0.heap.size, 1, none⟩ = some u
  y0 : w.cell? ⟨w0.heap.size + 1, 0, none⟩ = some (.bool false)
  y1 : w.cell? ⟨w0.heap.size + 1, 1, none⟩ = some v
  th : w.there (w0.heap.size + 2) 0 4
theorem RZ.call {w0 w w' : World} {x : Bool} {u v : Value} (h : RZ w0 x u v w) (hb : Below w.heap.size w w') : RZ w0 x u v w' := by
  have hs := h.size
  have := hb.size
  have q0 : w0.heap.size < w.heap.size := by omega
  have q1 : w0.heap.size + 1 < w.heap.size := by omega
  exact ⟨below_then h.below hb, by omega, (hb.cell (p := ⟨_, 0, none⟩) q0).trans h.x0, (hb.cell (p := ⟨_, 1, none⟩) q0).trans h.x1, (hb.cell (p := ⟨_, 0, none⟩) q1).trans h.y0, (hb.cell (p := ⟨_, 1, none⟩) q1).trans h.y1, there_below h.th hb (by omega)⟩
theorem RZ.new (w0 : World) (x : Bool) (u v : Value) : RZ w0 x u v (((w0.alloc (.cells #[.bool x, u] 93)).alloc (.cells #[.bool false, v] 93)).alloc (.cells #[.bool false, .slice none 0 0, .bool false, .slice none 0 0] 95)) := by
  have h1 := (Below.refl w0.heap.size w0).alloc (Nat.le_refl _) (.cells #[.bool x, u] 93)
  have h2 := h1.alloc h1.size (.cells #[.bool false, v] 93)
  have h3 := h2.alloc h2.size (.cells #[.bool false, .slice none 0 0, .bool false, .slice none 0 0] 95)
  have r1 := rangeAt_new w0 [.bool x, u] 93
  have r2 := rangeAt_new (w0.alloc (.cells #[.bool x, u] 93)) [.bool false, v] 93
  have b2 := (Below.refl _ (w0.alloc (.cells #[.bool x, u] 93))).alloc (Nat.le_refl _) (.cells #[.bool false, v] 93)
  have b3 := (Below.refl _ ((w0.alloc (.cells #[.bool x, u] 93)).alloc (.cells #[.bool false, v] 93))).alloc (Nat.le_refl _) (.cells #[.bool false, .slice none 0 0, .bool false, .slice none 0 0] 95)
  have r1' := rangeAt_below (rangeAt_below r1 b2 (by simp)) b3 (by simp; omega)
  have r2' := rangeAt_below r2 b3 (by simp)
  have t := there_new ((w0.alloc (.cells #[.bool x, u] 93)).alloc (.cells #[.bool false, v] 93)) #[.bool false, .slice none 0 0, .bool false, .slice none 0 0] 95 4 (by simp)
  simp only [World.size_alloc] at r2' t
  exact ⟨h3, by simp, r1' 0 _ rfl, r1' 1 _ rfl, r2' 0 _ rfl, r2' 1 _ rfl, t⟩
set_option maxRecDepth 100000 in
set_option maxHeartbeats 4000000 in
theorem rreduced_walk (V1 V2 : Value) (z1 : Int) (Y : Nat) (w : World) (h1 : Wide 0 w V1 z1) (h2 : Wide 0 w V2 (Y : Int)) (hY : 0 < Y) (hx : (canon z1.natAbs).length ≤ 4000) (hy : (canon Y).length ≤ 4000) :
    Calls Tryz.prog 95 #[V1, V2] w fun e w' => ∃ V, e = .returned V ∧ FracZ w.heap.size w' V (sgn (decide (z1 < 0)) (z1.natAbs / Nat.gcd z1.natAbs Y)) (Y / Nat.gcd z1.natAbs Y) ∧ Below w.heap.size w w' := by
  have hg0 : 0 < Nat.gcd z1.natAbs Y := Nat.gcd_pos_of_pos_right _ hY
  have hgl : (canon (Nat.gcd z1.natAbs Y)).length ≤ 4000 := Nat.le_trans (canon_mono (Nat.gcd_le_right _ hY)) hy
  have GW := Lib.hid (fun w' (hb : Below w.heap.size w w') => rgcd_walk V1 V2 z1 (Y : Int) w' (h1.below hb) (h2.below hb) hx (by rw [Int.natAbs_natCast]; exact hy))
  rw [Int.natAbs_natCast] at GW
  have D1 := Lib.hid (fun w' (hb : Below w.heap.size w w') V (hV : Wide 0 w' V ((Nat.gcd z1.natAbs Y : Nat) : Int)) => rdivmod_walk V1 V z1 (Nat.gcd z1.natAbs Y) w' (h1.below hb) hV hg0 (Nat.gcd_dvd_left _ _) hx hgl)
  have D2 := Lib.hid (fun w' (hb : Below w.heap.size w w') V (hV : Wide 0 w' V ((Nat.gcd z1.natAbs Y : Nat) : Int)) => rdivmod_walk V2 V (Y : Int) (Nat.gcd z1.natAbs Y) w' (h2.below hb) hV hg0 (by rw [Int.natAbs_natCast]; exact Nat.gcd_dvd_right _ _) (by rw [Int.natAbs_natCast]; exact hy) hgl)
  rw [decide_eq_false (show ¬ (Y : Int) < 0 by omega), Int.natAbs_natCast, show sgn false (Y / Nat.gcd z1.natAbs Y) = ((Y / Nat.gcd z1.natAbs Y : Nat) : Int) from rfl] at D2
  obtain ⟨a, n, ca, rfl, -, -⟩ := h1
  obtain ⟨d, m, cd, rfl, -, -⟩ := wideN_inv h2
  have HS := Lib.hid (RZ.new w (decide (z1 < 0)) (.slice a n ca) (.slice d m cd))
  generalize hg : Nat.gcd z1.natAbs Y = g at *
  generalize decide (z1 < 0) = n1 at *
  generalize hP : sgn n1 (z1.natAbs / g) = P at *
  clear hg hP hgl h2
  go_enter Tryz.func95, Tryz.ntmps95
  go_wp2_with (go_at_call 108; refine (GW.out _ HS.out.below).mono ?_; rintro e w2 ⟨V, rfl, hV, hb⟩; obtain ⟨ag, kg, cg, rfl, hL, hf⟩ := wideN_inv hV; have hbA := (Below.refl _ w2).alloc (Nat.le_refl _) (.cells #[.bool false, .slice ag kg cg] 93); have hS1 := HS.out.call hb; have e0 := hS1.y0; have hS2 := hS1.call hbA; have c0 := hS2.x0; have c1 := hS2.x1; have d0 := hS2.y0; have d1 := hS2.y1; have HL2 := Lib.hid (hL.below hbA); have HS2 := Lib.hid hS2; clear hV hb hL hS1 hS2 hbA)
  refine (D1.out _ HS2.out.below _ (wideN HL2.out (fun _ _ _ => Nat.zero_le _))).mono ?_
  rintro e w3 ⟨U1, U2, rfl, hV1, hV2, hb⟩
  obtain ⟨aq, kq, cq, rfl, lq, fq⟩ := hV1
  obtain ⟨ar, kr, cr, rfl, -, -⟩ := wideN_inv (p := 0) hV2
  generalize hbp : decide (P < 0) = bp at *
  have hbA : Below (w2.alloc (.cells #[.bool false, .slice ag kg cg] 93)).heap.size (w2.alloc (.cells #[.bool false, .slice ag kg cg] 93)) ((w3.alloc (.cells #[.bool bp, .slice aq kq cq] 93)).alloc (.cells #[.bool false, .slice ar kr cr] 93)) := (hb.alloc hb.size _).alloc (by have := hb.size; simp at this ⊢; omega) _
  have g0 := (hbA.cell (p := ⟨w2.heap.size, 0, none⟩) (by simp)).trans (rangeAt_new w2 [.bool false, .slice ag kg cg] 93 0 _ rfl)
  have g1 := (hbA.cell (p := ⟨w2.heap.size, 1, none⟩) (by simp)).trans (rangeAt_new w2 [.bool false, .slice ag kg cg] 93 1 _ rfl)
  have b3 := ((Below.refl _ w3).alloc (Nat.le_refl _) (.cells #[.bool bp, .slice aq kq cq] 93)).alloc (by simp) (.cells #[.bool false, .slice ar kr cr] 93)
  have b4 := (Below.refl _ (w3.alloc (.cells #[.bool bp, .slice aq kq cq] 93))).alloc (Nat.le_refl _) (.cells #[.bool false, .slice ar kr cr] 93)
  have t0 := (b4.cell (p := ⟨w3.heap.size, 0, none⟩) (by simp)).trans (rangeAt_new w3 [.bool bp, .slice aq kq cq] 93 0 _ rfl)
  have t1 := (b4.cell (p := ⟨w3.heap.size, 1, none⟩) (by simp)).trans (rangeAt_new w3 [.bool bp, .slice aq kq cq] 93 1 _ rfl)
  have hS3 := HS2.out.call hbA
  have d0 := hS3.y0
  have d1 := hS3.y1
  have HS3 := Lib.hid hS3
  have HLQ := Lib.hid (lq.below b3)
  have HL3 := Lib.hid (HL2.out.below hbA)
  have hsq : w.heap.size ≤ (w2.alloc (.cells #[.bool false, .slice ag kg cg] 93)).heap.size := HS2.out.below.size
  clear hV2 lq hb hS3 hbA b3 b4
  go_wp2_with fail
  refine (D2.out _ HS3.out.below _ (wideN HL3.out (fun _ _ _ => Nat.zero_le _))).mono ?_
  rintro e w4 ⟨U1, U2, rfl, hV1, hV2, hb⟩
  obtain ⟨aq2, kq2, cq2, rfl, lq2, fq2⟩ := wideN_inv hV1
  obtain ⟨ar2, kr2, cr2, rfl, -, -⟩ := wideN_inv (p := 0) hV2
  have hbA : Below ((w3.alloc (.cells #[.bool bp, .slice aq kq cq] 93)).alloc (.cells #[.bool false, .slice ar kr cr] 93)).heap.size ((w3.alloc (.cells #[.bool bp, .slice aq kq cq] 93)).alloc (.cells #[.bool false, .slice ar kr cr] 93)) ((w4.alloc (.cells #[.bool false, .slice aq2 kq2 cq2] 93)).alloc (.cells #[.bool false, .slice ar2 kr2 cr2] 93)) := (hb.alloc hb.size _).alloc (by have := hb.size; simp at this ⊢; omega) _
  have t0 := (hbA.cell (p := ⟨w3.heap.size, 0, none⟩) (by simp; omega)).trans t0
  have t1 := (hbA.cell (p := ⟨w3.heap.size, 1, none⟩) (by simp; omega)).trans t1
  have b3 := ((Below.refl _ w4).alloc (Nat.le_refl _) (.cells #[.bool false, .slice aq2 kq2 cq2] 93)).alloc (by simp) (.cells #[.bool false, .slice ar2 kr2 cr2] 93)
  have hS4 := HS3.out.call hbA
  have u0 := cellOf_some (hS4.th 0 (by omega)).1
  have u1 := cellOf_some (hS4.th 1 (by omega)).1
  have u2 := cellOf_some (hS4.th 2 (by omega)).1
  have u3 := cellOf_some (hS4.th 3 (by omega)).1
  have v0 := (hS4.th 0 (by omega)).2
  have v1 := (hS4.th 1 (by omega)).2
  have v2 := (hS4.th 2 (by omega)).2
  have v3 := (hS4.th 3 (by omega)).2
  have HS4 := Lib.hid hS4
  have HLQ2 := Lib.hid (lq2.below b3)
  have HLQ1 := Lib.hid (HLQ.out.below hbA)
  have hsq2 := HS3.out.below.size
  clear hV1 hV2 lq2 hb hS4 hbA b3
  go_wp2_with fail
  have z2 := HS2.out.size
  have z3 := HS3.out.size
  have G : FracZ w.heap.size (((w4.alloc (.cells #[.bool false, .slice aq2 kq2 cq2] 93)).alloc (.cells #[.bool false, .slice ar2 kr2 cr2] 93)).setCells (w.heap.size + 2) 0 [.bool bp, .slice aq kq cq, .bool false, .slice aq2 kq2 cq2]) (.agg #[.bool bp, .slice aq kq cq, .bool false, .slice aq2 kq2 cq2]) P (Y / g) ∧ Below w.heap.size w (((w4.alloc (.cells #[.bool false, .slice aq2 kq2 cq2] 93)).alloc (.cells #[.bool false, .slice ar2 kr2 cr2] 93)).setCells (w.heap.size + 2) 0 [.bool bp, .slice aq kq cq, .bool false, .slice aq2 kq2 cq2]) :=
    ⟨⟨aq, kq, cq, aq2, kq2, cq2, by rw [hbp], HLQ1.out.setCells (fun b off e => by have := fq b off e; omega) _ _, HLQ2.out.setCells (fun b off e => by have := fq2 b off e; omega) _ _, fun b off e => by have := fq b off e; omega, fun b off e => by have := fq2 b off e; omega⟩, below_setCells _ (by omega) _ _ _ HS4.out.below⟩
  exact bodyPost_ret (ret_cell Tryz.results95 _ _ (w.heap.size + 2) [.bool bp, .slice aq kq cq, .bool false, .slice aq2 kq2 cq2] _ rfl (World.rangeAt_setCells_same _ _ _ _ HS4.out.th) Tryz.underlying95 rfl infoF) rfl ⟨_, rfl, G⟩
end Wd
end Go.Proofs.YtjgcbeihgeaimaaGreatDoor
/-
  The reference's Jd.
-/
namespace Go.Proofs.YtjgcbeihgeaimaaGreatDoor
namespace Wd
open Go.RowKit Lw

theorem FracZ.v {B : Nat} {w : World} {V : Value} {p q : Nat} (h : FracZ B w V (p : Int) q) : FracV B w V p q := by
  obtain ⟨a, k, c, a', k', c', rfl, h1, h2, h3, h4⟩ := h
  rw [Int.natAbs_natCast] at h1
  exact ⟨a, k, c, a', k', c', by rw [decide_eq_false (show ¬ (p : Int) < 0 by omega)], h1, h2, h3, h4⟩
end Wd
end Go.Proofs.YtjgcbeihgeaimaaGreatDoor
/-
  The reference's Same, of whole numbers and of fractions.
-/
namespace Go.Proofs.YtjgcbeihgeaimaaGreatDoor
namespace Wd
open Go.RowKit Lw

structure B2 (w0 : World) (x y : Bool) (u v : Value) (w : World) : Prop where
  below : Below w0.heap.size w0 w
  x0 : w.cell? ⟨w0.heap.size, 0, none⟩ = some (.bool x)
  x1 : w.cell? ⟨w0.heap.size, 1, none⟩ = some u
  y0 : w.cell? ⟨w0.heap.size + 1, 0, none⟩ = some (.bool y)
  y1 : w.cell? ⟨w0.heap.size + 1, 1, none⟩ = some v
theorem B2.new (w0 : World) (x y : Bool) (u v : Value) : B2 w0 x y u v ((w0.alloc (.cells #[.bool x, u] 93)).alloc (.cells #[.bool y, v] 93)) := by
  have h1 := (Below.refl w0.heap.size w0).alloc (Nat.le_refl _) (.cells #[.bool x, u] 93)
  have h2 := h1.alloc h1.size (.cells #[.bool y, v] 93)
  have r1 := rangeAt_new w0 [.bool x, u] 93
  have r2 := rangeAt_new (w0.alloc (.cells #[.bool x, u] 93)) [.bool y, v] 93
  have b2 := (Below.refl _ (w0.alloc (.cells #[.bool x, u] 93))).alloc (Nat.le_refl _) (.cells #[.bool y, v] 93)
  have r1' := rangeAt_below r1 b2 (by simp)
  simp only [World.size_alloc] at r2
  exact ⟨h2, r1' 0 _ rfl, r1' 1 _ rfl, r2 0 _ rfl, r2 1 _ rfl⟩
set_option maxRecDepth 100000 in
set_option maxHeartbeats 4000000 in
theorem rsame_walk (V1 V2 : Value) (z1 z2 : Int) (w : World) (h1 : Wide 0 w V1 z1) (h2 : Wide 0 w V2 z2) :
    Calls Tryz.prog 109 #[V1, V2] w fun e w' => e = .returned (.bool (decide (z1 = z2))) ∧ Below w.heap.size w w' := by
  obtain ⟨a, n, ca, rfl, hA, -⟩ := h1
  obtain ⟨d, m, cd, rfl, hD, -⟩ := h2
  have hS := B2.new w (decide (z1 < 0)) (decide (z2 < 0)) (.slice a n ca) (.slice d m cd)
  have CW := Lib.hid (fun w' (hb : Below w.heap.size w w') => rcompare_walk z1.natAbs z2.natAbs a d n ca m cd w' (hA.below hb) (hD.below hb))
  clear hA hD
  obtain ⟨hb, s1, s2, s3, s4⟩ := hS
  have HB := Lib.hid hb
  clear hb
  by_cases hn : decide (z1 < 0) = decide (z2 < 0)
  · have hc : (cmpN z1.natAbs z2.natAbs == 0) = decide (z1 = z2) := by
      have hn' : z1 < 0 ↔ z2 < 0 := by simpa using hn
      by_cases e : z1 = z2
      · subst e; rw [cmp_eq]; simp
      · rw [decide_eq_false e]
        rcases Nat.lt_or_ge z1.natAbs z2.natAbs with g | g
        · rw [cmp_lt g]; rfl
        · rw [cmp_gt (by omega)]; rfl
    have HC := Lib.hid hc
    rw [← hn] at s1 s2 s3 s4 HB ⊢
    clear hn hc
    generalize decide (z1 < 0) = n1 at *
    go_enter Tryz.func109, Tryz.ntmps109
    go_wp2_with fail
    refine (CW.out _ HB.out).mono ?_
    rintro e w1 ⟨rfl, hb⟩
    have HB1 := Lib.hid (below_then HB.out hb)
    clear hb
    generalize cmpN z1.natAbs z2.natAbs = c at *
    go_wp2_with fail
    refine bodyPost_ret (results_tmp rfl _ _ _) rfl ⟨?_, HB1.out⟩
    rw [← HC.out]
    rfl
  · have hz : decide (z1 = z2) = false := decide_eq_false (fun e => hn (by rw [e]))
    rw [hz]
    clear hz
    generalize decide (z1 < 0) = n1 at *
    generalize decide (z2 < 0) = n2 at *
    have hq : (n1 == n2) = false := by simpa using hn
    go_enter Tryz.func109, Tryz.ntmps109
    go_wp2_with fail
    exact bodyPost_ret (results_tmp rfl _ _ _) rfl ⟨rfl, HB.out⟩
end Wd
end Go.Proofs.YtjgcbeihgeaimaaGreatDoor
/-
  The reference's whole numbers: Sub of any two numbers, Compared, From as a number.
-/
namespace Go.Proofs.YtjgcbeihgeaimaaGreatDoor
namespace Wd
open Go.RowKit Lw Tw

abbrev wdC (b : Bool) (a : Option Addr) (k c : Nat) : List Value := [.bool b, .slice a k c]
set_option maxRecDepth 100000 in
set_option maxHeartbeats 4000000 in
theorem rsub_core (n1 n2 f : Bool) (a d : Option Addr) (n ca m cd : Nat) (w : World) (z : Int) (hc : (n2 = true ∧ f = false) ∨ (n2 = false ∧ 0 < m ∧ f = true) ∨ (n2 = false ∧ m = 0 ∧ f = false))
    (RB : ∀ w', Below w.heap.size w w' → Calls Tryz.prog 110 #[.agg #[.bool n1, .slice a n ca], .agg #[.bool n2, .slice d m cd]] w' fun e w'' => e = .returned (.int .i64 0) ∧ Below w'.heap.size w' w'')
    (SM : ∀ w', Below w.heap.size w w' → Calls Tryz.prog 113 #[.agg #[.bool n1, .slice a n ca], .agg #[.bool f, .slice d m cd]] w' (NumPost w' z)) :
    Calls Tryz.prog 94 #[.agg #[.bool n1, .slice a n ca], .agg #[.bool n2, .slice d m cd]] w (NumPost w z) := by
  have F0 := Lib.hid ((((Fr.start w).alloc (wdC n1 a n ca) 93).alloc (wdC n2 d m cd) 93).alloc (wdC false none 0 0) 93)
  have RB := Lib.hid RB
  have SM := Lib.hid SM
  go_enter Tryz.func94, Tryz.ntmps94
  go_wp2_with fail
  refine (RB.out _ F0.out.below).mono ?_
  rintro e w1 ⟨rfl, hb⟩
  have F1 := F0.out.call hb
  have c0 := F1.cell 2 0 rfl rfl
  have c1 := F1.cell 2 1 rfl rfl
  have d0 := F1.cell 1 0 rfl rfl
  have d1 := F1.cell 1 1 rfl rfl
  simp only [World.size_alloc] at d0 d1
  have sm := SM.out w1 F1.below
  have F1 := Lib.hid F1
  clear hb RB SM F0
  rcases hc with ⟨rfl, rfl⟩ | ⟨rfl, hm, rfl⟩ | ⟨rfl, rfl, rfl⟩
  · go_wp2_with fail
    refine sm.mono ?_
    rintro e w2 ⟨V, rfl, ⟨a', k, cap, rfl, hM, hg⟩, hb⟩
    have F2 := F1.out.call hb
    have s5 := F2.cell 0 0 rfl rfl
    have s6 := F2.cell 0 1 rfl rfl
    have t5 := F2.fz 0 0 rfl rfl
    have t6 := F2.fz 0 1 rfl rfl
    simp only [World.size_alloc] at s5 s6 t5 t6
    have hs := (F1.out.least 0 rfl).1
    have FF := F2.put 0 rfl (wdC (decide (z < 0)) a' k cap) rfl
    simp only [World.size_alloc] at FF hs
    have lo := F1.out.below.size
    have hi := (F1.out.least 0 rfl).2
    simp only [World.size_alloc] at hi
    have R := Lib.hid (show NumPost w z (.returned (.tuple #[.agg #[.bool (decide (z < 0)), .slice a' k cap], .int .i64 0])) (w2.setCells (w.heap.size + 1 + 1) 0 (wdC (decide (z < 0)) a' k cap)) from ⟨_, rfl, ⟨a', k, cap, rfl, hM.setCells (fun b off e => by have := hg b off e; omega) _ _, fun b off e => by have := hg b off e; omega⟩, FF.below⟩)
    have G := Lib.hid (FF.get 0 rfl)
    clear hM hg hb F2 FF sm F1 c0 c1 d0 d1
    go_wp2_with fail
    exact bodyPost_ret (ret_cell_tmp Tryz.results94 _ _ (w.heap.size + 1 + 1) [.bool _, .slice _ _ _] _ rfl G.out Tryz.underlying93 rfl infoW) rfl R.out
  · have k1 : (0 : Int) < (m : Int) := by omega
    go_wp2_with fail
    refine sm.mono ?_
    rintro e w2 ⟨V, rfl, ⟨a', k, cap, rfl, hM, hg⟩, hb⟩
    have F2 := F1.out.call hb
    have s5 := F2.cell 0 0 rfl rfl
    have s6 := F2.cell 0 1 rfl rfl
    have t5 := F2.fz 0 0 rfl rfl
    have t6 := F2.fz 0 1 rfl rfl
    simp only [World.size_alloc] at s5 s6 t5 t6
    have hs := (F1.out.least 0 rfl).1
    have FF := F2.put 0 rfl (wdC (decide (z < 0)) a' k cap) rfl
    simp only [World.size_alloc] at FF hs
    have lo := F1.out.below.size
    have hi := (F1.out.least 0 rfl).2
    simp only [World.size_alloc] at hi
    have R := Lib.hid (show NumPost w z (.returned (.tuple #[.agg #[.bool (decide (z < 0)), .slice a' k cap], .int .i64 0])) (w2.setCells (w.heap.size + 1 + 1) 0 (wdC (decide (z < 0)) a' k cap)) from ⟨_, rfl, ⟨a', k, cap, rfl, hM.setCells (fun b off e => by have := hg b off e; omega) _ _, fun b off e => by have := hg b off e; omega⟩, FF.below⟩)
    have G := Lib.hid (FF.get 0 rfl)
    clear hM hg hb F2 FF sm F1 c0 c1 d0 d1
    go_wp2_with fail
    exact bodyPost_ret (ret_cell_tmp Tryz.results94 _ _ (w.heap.size + 1 + 1) [.bool _, .slice _ _ _] _ rfl G.out Tryz.underlying93 rfl infoW) rfl R.out
  · go_wp2_with fail
    refine sm.mono ?_
    rintro e w2 ⟨V, rfl, ⟨a', k, cap, rfl, hM, hg⟩, hb⟩
    have F2 := F1.out.call hb
    have s5 := F2.cell 0 0 rfl rfl
    have s6 := F2.cell 0 1 rfl rfl
    have t5 := F2.fz 0 0 rfl rfl
    have t6 := F2.fz 0 1 rfl rfl
    simp only [World.size_alloc] at s5 s6 t5 t6
    have hs := (F1.out.least 0 rfl).1
    have FF := F2.put 0 rfl (wdC (decide (z < 0)) a' k cap) rfl
    simp only [World.size_alloc] at FF hs
    have lo := F1.out.below.size
    have hi := (F1.out.least 0 rfl).2
    simp only [World.size_alloc] at hi
    have R := Lib.hid (show NumPost w z (.returned (.tuple #[.agg #[.bool (decide (z < 0)), .slice a' k cap], .int .i64 0])) (w2.setCells (w.heap.size + 1 + 1) 0 (wdC (decide (z < 0)) a' k cap)) from ⟨_, rfl, ⟨a', k, cap, rfl, hM.setCells (fun b off e => by have := hg b off e; omega) _ _, fun b off e => by have := hg b off e; omega⟩, FF.below⟩)
    have G := Lib.hid (FF.get 0 rfl)
    clear hM hg hb F2 FF sm F1 c0 c1 d0 d1
    go_wp2_with fail
    exact bodyPost_ret (ret_cell_tmp Tryz.results94 _ _ (w.heap.size + 1 + 1) [.bool _, .slice _ _ _] _ rfl G.out Tryz.underlying93 rfl infoW) rfl R.out
theorem rsub_all (V1 V2 : Value) (z1 z2 : Int) (w : World) (h1 : Wide 0 w V1 z1) (h2 : Wide 0 w V2 z2) (hn : (canon z1.natAbs).length + 1 ≤ 4096) (hm : (canon z2.natAbs).length + 1 ≤ 4096) :
    Calls Tryz.prog 94 #[V1, V2] w (NumPost w (z1 - z2)) := by
  obtain ⟨a, n, ca, rfl, hA, hfA⟩ := h1
  obtain ⟨d, m, cd, rfl, hD, hfD⟩ := h2
  have hl := hD.len
  have hp := canon_lenpos z2.natAbs
  rw [hl] at hp
  refine rsub_core _ _ (decide (-z2 < 0)) a d n ca m cd w (z1 - z2) ?_ (fun w' hb => rboth_walk _ _ z1 z2 w' (Wide.below ⟨a, n, ca, rfl, hA, hfA⟩ hb) (Wide.below ⟨d, m, cd, rfl, hD, hfD⟩ hb) (by omega) (by omega)) (fun w' hb => ?_)
  · rcases Int.lt_trichotomy z2 0 with g | g | g
    · exact Or.inl ⟨decide_eq_true g, decide_eq_false (by omega)⟩
    · exact Or.inr (Or.inr ⟨decide_eq_false (by omega), by omega, decide_eq_false (by omega)⟩)
    · exact Or.inr (Or.inl ⟨decide_eq_false (by omega), by omega, decide_eq_true (by omega)⟩)
  · have hw : Wide 0 w' (.agg #[.bool (decide (-z2 < 0)), .slice d m cd]) (-z2) := ⟨d, m, cd, rfl, by rw [Int.natAbs_neg]; exact hD.below hb, hfD⟩
    exact rsum_all _ _ z1 (-z2) w' (Wide.below ⟨a, n, ca, rfl, hA, hfA⟩ hb) hw hn (by rw [Int.natAbs_neg]; exact hm)
def cmpI (x y : Int) : Int := if x < y then -1 else if y < x then 1 else 0
set_option maxRecDepth 100000 in
set_option maxHeartbeats 4000000 in
theorem rcompared_all (V1 V2 : Value) (z1 z2 : Int) (w : World) (h1 : Wide 0 w V1 z1) (h2 : Wide 0 w V2 z2) :
    Calls Tryz.prog 98 #[V1, V2] w fun e w' => e = .returned (.int .i64 (cmpI z1 z2)) ∧ Below w.heap.size w w' := by
  have C1 := Lib.hid (fun a d n ca m cd w' (hA : Lim w' a n ca (canon z1.natAbs)) (hD : Lim w' d m cd (canon z2.natAbs)) => rcompare_walk z1.natAbs z2.natAbs a d n ca m cd w' hA hD)
  have C2 := Lib.hid (fun a d n ca m cd w' (hA : Lim w' a n ca (canon z1.natAbs)) (hD : Lim w' d m cd (canon z2.natAbs)) => rcompare_walk z2.natAbs z1.natAbs d a m cd n ca w' hD hA)
  have B0 : ∀ v1 v2 : List Value, Below w.heap.size w ((w.alloc (.cells v1.toArray 93)).alloc (.cells v2.toArray 93)) := fun v1 v2 => ((Below.refl _ w).alloc (Nat.le_refl _) _).alloc (by simp) _
  obtain ⟨a, n, ca, rfl, hA, hfA⟩ := h1
  obtain ⟨d, m, cd, rfl, hD, hfD⟩ := h2
  have HB := Lib.hid (B0 (wdC (decide (z1 < 0)) a n ca) (wdC (decide (z2 < 0)) d m cd))
  have HA := Lib.hid (hA.below HB.out)
  have HD := Lib.hid (hD.below HB.out)
  have K := Lib.hid (show Hid (cmpI z1 z2 = cmpI z1 z2) from Lib.hid rfl)
  clear B0 hA hD
  by_cases g1 : z1 < 0 <;> by_cases g2 : z2 < 0
  · have c1 := C2.out a d n ca m cd _ HA.out HD.out
    have e : cmpN z2.natAbs z1.natAbs = cmpI z1 z2 := by unfold cmpN cmpI; split <;> split <;> (try split) <;> (try split) <;> omega
    rw [e] at c1
    rw [decide_eq_true g1, decide_eq_true g2] at *
    clear e C1 C2 HA HD g1 g2 K
    go_enter Tryz.func98, Tryz.ntmps98
    go_wp2_with fail
    refine c1.mono ?_
    rintro e w1 ⟨rfl, hb⟩
    have HB2 := Lib.hid (below_then HB.out hb)
    clear hb HB c1
    go_wp2_with fail
    exact bodyPost_ret (results_tmp rfl _ _ _) rfl ⟨rfl, HB2.out⟩
  · have e : cmpI z1 z2 = -1 := by unfold cmpI; rw [if_pos (by omega)]
    rw [decide_eq_true g1, decide_eq_false g2] at *
    rw [e]
    clear e C1 C2 HA HD g1 g2 K
    go_enter Tryz.func98, Tryz.ntmps98
    go_wp2_with fail
    exact bodyPost_ret (results_tmp rfl _ _ _) rfl ⟨rfl, HB.out⟩
  · have e : cmpI z1 z2 = 1 := by unfold cmpI; rw [if_neg (by omega), if_pos (by omega)]
    rw [decide_eq_false g1, decide_eq_true g2] at *
    rw [e]
    clear e C1 C2 HA HD g1 g2 K
    go_enter Tryz.func98, Tryz.ntmps98
    go_wp2_with fail
    exact bodyPost_ret (results_tmp rfl _ _ _) rfl ⟨rfl, HB.out⟩
  · have c1 := C1.out a d n ca m cd _ HA.out HD.out
    have e : cmpN z1.natAbs z2.natAbs = cmpI z1 z2 := by unfold cmpN cmpI; split <;> split <;> (try split) <;> (try split) <;> omega
    rw [e] at c1
    rw [decide_eq_false g1, decide_eq_false g2] at *
    clear e C1 C2 HA HD g1 g2 K
    go_enter Tryz.func98, Tryz.ntmps98
    go_wp2_with fail
    refine c1.mono ?_
    rintro e w1 ⟨rfl, hb⟩
    have HB2 := Lib.hid (below_then HB.out hb)
    clear hb HB c1
    go_wp2_with fail
    exact bodyPost_ret (results_tmp rfl _ _ _) rfl ⟨rfl, HB2.out⟩
end Wd
end Go.Proofs.YtjgcbeihgeaimaaGreatDoor
/-
  The reference's Same of fractions.
-/
namespace Go.Proofs.YtjgcbeihgeaimaaGreatDoor
namespace Wd
open Go.RowKit Lw

theorem wideZ {w : World} {a : Option Addr} {k c : Nat} {z : Int} (h : Lim w a k c (canon z.natAbs)) : Wide 0 w (.agg #[.bool (decide (z < 0)), .slice a k c]) z := ⟨a, k, c, rfl, h, fun _ _ _ => Nat.zero_le _⟩
end Wd
end Go.Proofs.YtjgcbeihgeaimaaGreatDoor
