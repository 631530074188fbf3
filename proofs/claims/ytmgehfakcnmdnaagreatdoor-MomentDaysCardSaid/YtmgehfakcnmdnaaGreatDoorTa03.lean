/-
  Lemmas and walks, texts joined: WPlus, WQPl, WDown, WCmp, WRound, WShort, WRowM, WLeft, WSub, Shelf, WClone.
-/
import Derived.RangeFuncNested
import Derived.RangeFuncBound
import Derived.RangeFuncCalls
import Derived.RangeFuncLeaves
import Derived.RangeFuncBox
import Derived.Shelf.Abstract
import Derived.Shelf.RegionOpen
import Derived.OwnWalkIn
import Derived.TacticsInMore
import Derived.LoopNIn
import Derived.LoopIn
import Derived.Deep.RegionHeld3
import Derived.Maps.AppendAt
import Derived.Deep.AppendLies
import Derived.Shelf.Strings.Builder1
import Derived.Shelf.Strings.Builder2
import Derived.Shelf.Small.Bits
import Derived.Shelf.Strings.BuilderF
import Derived.Shelf.Strconv.Itoa0
import Derived.Shelf.Strconv.Itoa1
import Derived.Shelf.LaysM
import Derived.Shelf.Strconv.Itoa2
import Derived.Shelf.Strconv.Itoa3
import Derived.Shelf.Strconv.Itoa4
import Derived.Shelf.Pu.ParseUintPublic10
import Derived.Shelf.Strings.Search1
import Derived.Shelf.Strings.Search2
import Derived.Shelf.Strings.Cut
import Derived.Shelf.Strings.Shaped
import Derived.Shelf.Strings.Prefix
import Derived.Shelf.Bits.Mul64
import Derived.Shelf.Strings.Repeat
import Derived.Shelf.SlicesE.Clone
import Derived.Test.YtmgehfakcnmdnaaGreatDoorTa02
import Derived.Test.YtmgehfakcnmdnaaGreatDoorProg
set_option linter.unusedSimpArgs false
set_option linter.unusedVariables false
/-
  The walks of plus and minus of package wide.
-/
namespace Go.Proofs.YtmgehfakcnmdnaaGreatDoor
namespace Wd
open Go.RowKit Lw

set_option maxRecDepth 100000 in
set_option maxHeartbeats 4000000 in
theorem plus_walk (a b : List Nat) (A D : Option Addr) (na ca nb cb : Nat) (w : World) (hA : Lim w A na ca a) (hD : Lim w D nb cb b) (hn : na + 1 ≤ 1000000) (hle : nb ≤ na) :
    Calls Tryz.prog 108 #[.slice A na ca, .slice D nb cb] w (FreshPost w (na + 1) fun L => val L = val a + val b) := by
  have la := hA.len
  have lb := hD.len
  have HA := Lib.hid hA
  have HD := Lib.hid hD
  clear hA hD
  have hmk : ∀ w, (Instr.makeSlice 27 (.int .i64 ((na : Int) + 1)) (.int .i64 ((na : Int) + 1))).run Tryz.prog w = .ok (.slice (some ⟨w.heap.size, 0, none⟩) (na + 1) (na + 1)) (w.alloc (.cells (nu (na + 1)) 91)) := fun w => by
    have := make_nu (na + 1) hn w
    rwa [Int.natCast_add] at this
  have hlt : ¬ (na : Int) < (nb : Int) := by omega
  go_enter Tryz.func108, Tryz.ntmps108
  go_wp2
  have st : PIn a b (List.replicate (na + 1) 0) 0 0 := by rw [← la]; exact PIn.zero a b
  have hA0 := Arr.nu w (na + 1)
  have hB0 := (Below.refl w.heap.size w).alloc (Nat.le_refl _) (.cells (nu (na + 1)) 91)
  clear hmk hlt
  go_loopw [6, 23] (fun c i wr => ∃ (k cc : Nat) (L : List Nat), k ≤ na ∧ i = .int .i64 k ∧ c = .int .u32 cc ∧ PIn a b L k cc ∧ Arr wr w.heap.size L ∧ Below w.heap.size w wr) (fun _ i _ => na - (intOf i).toNat)
  case atStart => exact ⟨0, 0, _, by omega, rfl, rfl, st, hA0, hB0⟩
  case round =>
    clear hA0 hB0 st
    obtain ⟨i, c, L, hi, rfl, rfl, hT, hR, hB⟩ := hrel
    have hLl := hT.len
    by_cases hlt : i < na
    · have hAw := HA.out.below hB
      obtain ⟨bA, oA, rfl, -, -⟩ := hAw.row (by omega)
      have cA := hAw.cell (k := i) (by omega)
      have i1 : (i : Int) < (na : Int) := by omega
      have i2 : (i : Int) < (na : Int) + 1 := by omega
      have xb := lb_get hAw.lb (k := i) (by omega)
      have ps := hT.step (by omega) hAw.lb (HD.out.below hB).lb
      have yb := at0_lt HD.out.lb i
      have cb := hT.c1
      have fL := hR.free i
      have cL := hR.cell (k := i) (by omega)
      generalize a[i]'(by omega) = x at cA xb ps
      by_cases hib : i < nb
      · have hDw := HD.out.below hB
        obtain ⟨bD, oD, rfl, -, -⟩ := hDw.row (by omega)
        have cD := hDw.cell (k := i) (by omega)
        have j1 : (i : Int) < (nb : Int) := by omega
        rw [at0_in (by omega)] at ps yb
        generalize b[i]'(by omega) = y at cD ps yb
        have ac := fun w => add32 x y c w xb yb cb
        generalize (x + y + c) % 4294967296 = v at ac ps
        generalize (x + y + c) / 4294967296 = k at ac ps
        have rs := hR.set i v
        have bs : Below w.heap.size w (wr.setCell ⟨w.heap.size, i, none⟩ (.int .u32 (v : Int))) := hB.setCell (p := ⟨w.heap.size, i, none⟩) (Nat.le_refl _) _
        have fin : ∃ (k' c' : Nat) (L' : List Nat), k' ≤ na ∧ Value.int .i64 ((i : Int) + 1) = .int .i64 (k' : Int) ∧ Value.int .u32 (k : Int) = .int .u32 (c' : Int) ∧ PIn a b L' k' c' ∧ Arr (wr.setCell ⟨w.heap.size, i, none⟩ (.int .u32 (v : Int))) w.heap.size L' ∧ Below w.heap.size w (wr.setCell ⟨w.heap.size, i, none⟩ (.int .u32 (v : Int))) :=
          ⟨i + 1, k, _, by omega, by simp, rfl, ps, rs, bs⟩
        have Fin := Lib.hid fin
        clear fin rs bs ps hT hR hB hAw hDw xb yb cb
        go_wp2_with (go_at_call 136; refine (ac _).mono ?_; rintro e w' ⟨rfl, rfl⟩)
        go_roundw
        case rel => exact Fin.out
        case measure => simp [intOf]; omega
      · have j1 : ¬ (i : Int) < (nb : Int) := by omega
        rw [at0_out (by omega)] at ps
        have ac : ∀ w, Calls Tryz.prog 136 #[.int .u32 (x : Int), .int .u32 0, .int .u32 (c : Int)] w fun e w' => e = .returned (.tuple #[.int .u32 (((x + 0 + c) % 4294967296 : Nat) : Int), .int .u32 (((x + 0 + c) / 4294967296 : Nat) : Int)]) ∧ w = w' := fun w => add32 x 0 c w xb (by decide) cb
        generalize (x + 0 + c) % 4294967296 = v at ac ps
        generalize (x + 0 + c) / 4294967296 = k at ac ps
        have rs := hR.set i v
        have bs : Below w.heap.size w (wr.setCell ⟨w.heap.size, i, none⟩ (.int .u32 (v : Int))) := hB.setCell (p := ⟨w.heap.size, i, none⟩) (Nat.le_refl _) _
        have fin : ∃ (k' c' : Nat) (L' : List Nat), k' ≤ na ∧ Value.int .i64 ((i : Int) + 1) = .int .i64 (k' : Int) ∧ Value.int .u32 (k : Int) = .int .u32 (c' : Int) ∧ PIn a b L' k' c' ∧ Arr (wr.setCell ⟨w.heap.size, i, none⟩ (.int .u32 (v : Int))) w.heap.size L' ∧ Below w.heap.size w (wr.setCell ⟨w.heap.size, i, none⟩ (.int .u32 (v : Int))) :=
          ⟨i + 1, k, _, by omega, by simp, rfl, ps, rs, bs⟩
        have Fin := Lib.hid fin
        clear fin rs bs ps hT hR hB hAw xb yb cb
        go_wp2_with (go_at_call 136; refine (ac _).mono ?_; rintro e w' ⟨rfl, rfl⟩)
        go_roundw
        case rel => exact Fin.out
        case measure => simp [intOf]; omega
    · obtain rfl : i = na := by omega
      have fL := hR.free i
      have cL := hR.cell (k := i) (by omega)
      have rs := hR.set i c
      have bs : Below w.heap.size w (wr.setCell ⟨w.heap.size, i, none⟩ (.int .u32 (c : Int))) := hB.setCell (p := ⟨w.heap.size, i, none⟩) (Nat.le_refl _) _
      have tf : val (L.set i c) = val a + val b ∧ Lb (L.set i c) := by rw [← la] at hT ⊢; exact hT.fin (by omega)
      have fin : FreshPost w (i + 1) (fun L => val L = val a + val b) (.returned (.slice (some ⟨w.heap.size, 0, none⟩) (i + 1) (i + 1))) (wr.setCell ⟨w.heap.size, i, none⟩ (.int .u32 (c : Int))) :=
        ⟨_, rfl, by simp; omega, tf.2, tf.1, rs, bs⟩
      have Fin := Lib.hid fin
      clear fin rs bs tf hT hR hB
      go_wp2
      refine bodyPost_ret (results_tmp rfl _ _ _) rfl ?_
      exact Fin.out
set_option maxRecDepth 100000 in
set_option maxHeartbeats 4000000 in
theorem minus_walk (a b : List Nat) (A D : Option Addr) (na ca nb cb : Nat) (w : World) (hA : Lim w A na ca a) (hD : Lim w D nb cb b) (hle : nb ≤ na) (hv : val b ≤ val a) :
    Calls Tryz.prog 109 #[.slice A na ca, .slice D nb cb] w (FreshPost w na fun L => val L = val a - val b) := by
  have la := hA.len
  have lb := hD.len
  have hsm := hA.sm
  have hmk := make_nu na hsm
  have HA := Lib.hid hA
  have HD := Lib.hid hD
  clear hA hD
  go_enter Tryz.func109, Tryz.ntmps109
  go_wp2
  have st : MIn a b (List.replicate na 0) 0 0 := by rw [← la]; exact MIn.zero a b
  have hA0 := Arr.nu w na
  have hB0 := (Below.refl w.heap.size w).alloc (Nat.le_refl _) (.cells (nu na) 91)
  clear hmk
  go_loopw [6, 15] (fun c i wr => ∃ (k cc : Nat) (L : List Nat), k ≤ na ∧ i = .int .i64 k ∧ c = .int .u32 cc ∧ MIn a b L k cc ∧ Arr wr w.heap.size L ∧ Below w.heap.size w wr) (fun _ i _ => na - (intOf i).toNat)
  case atStart => exact ⟨0, 0, _, by omega, rfl, rfl, st, hA0, hB0⟩
  case round =>
    clear hA0 hB0 st
    obtain ⟨i, c, L, hi, rfl, rfl, hT, hR, hB⟩ := hrel
    have hLl := hT.len
    by_cases hlt : i < na
    · have hAw := HA.out.below hB
      obtain ⟨bA, oA, rfl, -, -⟩ := hAw.row (by omega)
      have cA := hAw.cell (k := i) (by omega)
      have i1 : (i : Int) < (na : Int) := by omega
      have xb := lb_get hAw.lb (k := i) (by omega)
      have ps := hT.step (by omega) hAw.lb (HD.out.below hB).lb
      have yb := at0_lt HD.out.lb i
      have cb := hT.c1
      have fL := hR.free i
      have cL := hR.cell (k := i) (by omega)
      generalize a[i]'(by omega) = x at cA xb ps
      by_cases hib : i < nb
      · have hDw := HD.out.below hB
        obtain ⟨bD, oD, rfl, -, -⟩ := hDw.row (by omega)
        have cD := hDw.cell (k := i) (by omega)
        have j1 : (i : Int) < (nb : Int) := by omega
        rw [at0_in (by omega)] at ps yb
        generalize b[i]'(by omega) = y at cD ps yb
        have ac : ∀ w, Calls Tryz.prog 137 #[.int .u32 (x : Int), .int .u32 (y : Int), .int .u32 (c : Int)] w fun e w' => e = .returned (.tuple #[.int .u32 (((x + 4294967296 - y - c) % 4294967296 : Nat) : Int), .int .u32 ((if x < y + c then 1 else 0 : Nat) : Int)]) ∧ w = w' := fun w => sub32n x y c w xb yb cb
        generalize (x + 4294967296 - y - c) % 4294967296 = v at ac ps
        generalize (if x < y + c then 1 else 0 : Nat) = k at ac ps
        have rs := hR.set i v
        have bs : Below w.heap.size w (wr.setCell ⟨w.heap.size, i, none⟩ (.int .u32 (v : Int))) := hB.setCell (p := ⟨w.heap.size, i, none⟩) (Nat.le_refl _) _
        have fin : ∃ (k' c' : Nat) (L' : List Nat), k' ≤ na ∧ Value.int .i64 ((i : Int) + 1) = .int .i64 (k' : Int) ∧ Value.int .u32 (k : Int) = .int .u32 (c' : Int) ∧ MIn a b L' k' c' ∧ Arr (wr.setCell ⟨w.heap.size, i, none⟩ (.int .u32 (v : Int))) w.heap.size L' ∧ Below w.heap.size w (wr.setCell ⟨w.heap.size, i, none⟩ (.int .u32 (v : Int))) :=
          ⟨i + 1, k, _, by omega, by simp, rfl, ps, rs, bs⟩
        have Fin := Lib.hid fin
        clear fin rs bs ps hT hR hB hAw hDw xb yb cb
        go_wp2_with (go_at_call 137; refine (ac _).mono ?_; rintro e w' ⟨rfl, rfl⟩)
        go_roundw
        case rel => exact Fin.out
        case measure => simp [intOf]; omega
      · have j1 : ¬ (i : Int) < (nb : Int) := by omega
        rw [at0_out (by omega)] at ps
        have ac : ∀ w, Calls Tryz.prog 137 #[.int .u32 (x : Int), .int .u32 0, .int .u32 (c : Int)] w fun e w' => e = .returned (.tuple #[.int .u32 (((x + 4294967296 - 0 - c) % 4294967296 : Nat) : Int), .int .u32 ((if x < 0 + c then 1 else 0 : Nat) : Int)]) ∧ w = w' := fun w => sub32n x 0 c w xb (by decide) cb
        generalize (x + 4294967296 - 0 - c) % 4294967296 = v at ac ps
        generalize (if x < 0 + c then 1 else 0 : Nat) = k at ac ps
        have rs := hR.set i v
        have bs : Below w.heap.size w (wr.setCell ⟨w.heap.size, i, none⟩ (.int .u32 (v : Int))) := hB.setCell (p := ⟨w.heap.size, i, none⟩) (Nat.le_refl _) _
        have fin : ∃ (k' c' : Nat) (L' : List Nat), k' ≤ na ∧ Value.int .i64 ((i : Int) + 1) = .int .i64 (k' : Int) ∧ Value.int .u32 (k : Int) = .int .u32 (c' : Int) ∧ MIn a b L' k' c' ∧ Arr (wr.setCell ⟨w.heap.size, i, none⟩ (.int .u32 (v : Int))) w.heap.size L' ∧ Below w.heap.size w (wr.setCell ⟨w.heap.size, i, none⟩ (.int .u32 (v : Int))) :=
          ⟨i + 1, k, _, by omega, by simp, rfl, ps, rs, bs⟩
        have Fin := Lib.hid fin
        clear fin rs bs ps hT hR hB hAw xb yb cb
        go_wp2_with (go_at_call 137; refine (ac _).mono ?_; rintro e w' ⟨rfl, rfl⟩)
        go_roundw
        case rel => exact Fin.out
        case measure => simp [intOf]; omega
    · obtain rfl : i = na := by omega
      have tf : val L = val a - val b := by rw [← la] at hT; exact hT.fin (by omega) hv
      go_wp2
      exact bodyPost_ret (results_tmp rfl _ _ _) rfl ⟨L, rfl, by omega, hT.lb, tf, hR, hB⟩
end Wd
end Go.Proofs.YtmgehfakcnmdnaaGreatDoor
/-
  Plain law of the long division in limbs; no program in sight.
-/
namespace Go.Proofs.YtmgehfakcnmdnaaGreatDoor
namespace Wd

/-- One limb of the quotient: a guess out of the highest limbs is not too small. -/
theorem guess_ge {u v : List Nat} {n : Nat} (hn : 0 < n) (hu : u.length = n + 1) (hv : v.length = n) (lu : Lb u) (lv : Lb v) (hy : 0 < v[n - 1]) : val u / val v ≤ (u[n] * 4294967296 + u[n - 1]) / v[n - 1] := by
  have e1 := val_drop_div lu (i := n - 1) (by omega)
  have e2 := val_drop (l := u) (i := n - 1) (by omega)
  have e3 := val_drop (l := u) (i := n - 1 + 1) (by omega)
  rw [List.drop_of_length_le (show u.length ≤ n - 1 + 1 + 1 by omega)] at e3
  have e4 := val_split' (l := v) (i := n - 1) (by omega)
  have e5 := val_drop (l := v) (i := n - 1) (by omega)
  rw [List.drop_of_length_le (show v.length ≤ n - 1 + 1 by omega)] at e5
  have en : u[n - 1 + 1]'(by omega) = u[n] := by congr 1; omega
  rw [en] at e3
  simp only [val] at e3 e5
  generalize u[n] = un at *
  generalize u[n - 1] = um at *
  generalize v[n - 1] = vm at *
  have hP : 0 < 4294967296 ^ (n - 1) := Nat.pow_pos (by decide)
  have h1 : 4294967296 ^ (n - 1) * vm ≤ val v := by rw [e4, e5]; simp only [Nat.mul_zero, Nat.add_zero]; omega
  have h2 : un * 4294967296 + um = val u / 4294967296 ^ (n - 1) := by rw [← e1, e2, e3]; omega
  rw [h2, Nat.div_div_eq_div_mul]
  exact Nat.div_le_div_left h1 (Nat.mul_pos hP hy)
theorem digit_lt {U V : Nat} (h : U < V * 4294967296) : U / V < 4294967296 := by
  rcases Nat.eq_zero_or_pos V with rfl | hp
  · simp
  · rw [Nat.div_lt_iff_lt_mul hp, Nat.mul_comm]; exact h
theorem le_quo {q U V : Nat} (hV : 0 < V) : q * V ≤ U ↔ q ≤ U / V := (Nat.le_div_iff_mul_le hV).symm
theorem quo_fin {q U V R : Nat} (hV : 0 < V) (hq : U / V ≤ q) (h : R + q * V = U) : q = U / V ∧ R = U % V := by
  have h1 : q ≤ U / V := (le_quo hV).1 (by omega)
  have h2 : q = U / V := by omega
  refine ⟨h2, ?_⟩
  have := Nat.div_add_mod U V
  rw [← h2, Nat.mul_comm] at this
  omega
/-- The window of limbs that is divided. -/
def win (u : List Nat) (j n : Nat) : List Nat := (u.drop j).take (n + 1)
def put (u : List Nat) (j n : Nat) (r : List Nat) : List Nat := u.take j ++ (r ++ u.drop (j + n + 1))
theorem win_len {u : List Nat} {j n : Nat} (h : j + n + 1 ≤ u.length) : (win u j n).length = n + 1 := by simp [win]; omega
theorem put_len {u r : List Nat} {j n : Nat} (h : j + n + 1 ≤ u.length) (hr : r.length = n + 1) : (put u j n r).length = u.length := by simp [put]; omega
theorem lb_win {u : List Nat} (h : Lb u) (j n : Nat) : Lb (win u j n) := lb_take (lb_drop h _) _
theorem lb_app {a b : List Nat} (ha : Lb a) (hb : Lb b) : Lb (a ++ b) := fun x hx => (List.mem_append.1 hx).elim (ha x) (hb x)
theorem lb_put {u r : List Nat} (h : Lb u) (hr : Lb r) (j n : Nat) : Lb (put u j n r) := lb_app (lb_take h _) (lb_app hr (lb_drop h _))
/-- The quotient from limb j on, and what is left. -/
structure QIn (U V : Nat) (u q : List Nat) (n m j : Nat) : Prop where
  lu : u.length = n + m
  lq : q.length = m
  bu : Lb u
  bq : Lb q
  v : val (q.drop j) * 4294967296 ^ j * V + val u = U
  t : val (u.drop j) < V
theorem QIn.zero {u : List Nat} {V n m : Nat} (lu : u.length = n + m) (bu : Lb u) (ht : val u < V * 4294967296 ^ m) : QIn (val u) V u (List.replicate m 0) n m m :=
  ⟨lu, by simp, bu, lb_zeros _, by rw [List.drop_of_length_le (by simp)]; simp [val], by rw [val_drop_div bu (by omega), Nat.div_lt_iff_lt_mul (Nat.pow_pos (by decide))]; exact ht⟩
theorem QIn.high {U V : Nat} {u q : List Nat} {n m j : Nat} (h : QIn U V u q n m (j + 1)) (hj : j < m) (hV : V < 4294967296 ^ n) :
    j + n + 1 ≤ u.length ∧ val (win u j n) = val (u.drop j) ∧ val (u.drop (j + n + 1)) = 0 ∧ val (win u j n) < V * 4294967296 := by
  have hl := h.lu
  have ht := h.t
  have e1 := val_drop (l := u) (i := j) (by omega)
  have hx := lb_get h.bu (show j < u.length by omega)
  have hlt : val (u.drop j) < V * 4294967296 := by
    have : (val (u.drop (j + 1)) + 1) * 4294967296 ≤ V * 4294967296 := Nat.mul_le_mul_right _ ht
    omega
  have hpow : V * 4294967296 ≤ 4294967296 ^ (n + 1) := by rw [Nat.pow_succ]; exact Nat.mul_le_mul_right _ (by omega)
  have e2 : val (win u j n) = val (u.drop j) := by
    rw [win, val_take_mod (lb_drop h.bu _) (by simp; omega), Nat.mod_eq_of_lt (by omega)]
  have e3 : val (u.drop (j + n + 1)) = 0 := by
    have : u.drop (j + n + 1) = (u.drop j).drop (n + 1) := by rw [List.drop_drop]; rfl
    rw [this, val_drop_div (lb_drop h.bu _) (by simp; omega), Nat.div_eq_of_lt (by omega)]
  exact ⟨by omega, e2, e3, by rw [e2]; exact hlt⟩
theorem QIn.step {U V : Nat} {u q r : List Nat} {n m j : Nat} (h : QIn U V u q n m (j + 1)) (hj : j < m) (hV : V < 4294967296 ^ n) (hV0 : 0 < V) (hr : r.length = n + 1) (br : Lb r) (er : val r = val (win u j n) % V) :
    QIn U V (put u j n r) (q.set j (val (win u j n) / V)) n m j := by
  obtain ⟨h1, h2, h3, h4⟩ := h.high hj hV
  have hl := h.lu
  have hq := h.lq
  have hv := h.v
  have e1 : (put u j n r).drop j = r ++ u.drop (j + n + 1) := by rw [put, List.drop_left' (by simp; omega)]
  have e2 : val ((put u j n r).drop j) = val r := by rw [e1, val_append, h3]; simp
  refine ⟨by rw [put_len h1 hr, hl], by simpa using hq, lb_put h.bu br _ _, lb_set h.bq _ _ (digit_lt h4), ?_, by rw [e2, er]; exact Nat.mod_lt _ hV0⟩
  rw [val_drop_set _ (by omega)]
  have e3 : val (put u j n r) = val (u.take j) + 4294967296 ^ j * val r := by
    have := val_split' (l := put u j n r) (i := j) (by rw [put_len h1 hr]; omega)
    rw [e2] at this
    rw [this]
    congr 2
    rw [put, List.take_left' (by simp; omega)]
  have e4 := val_split' (l := u) (i := j) (by omega)
  rw [e3, er, h2]
  have e5 := Nat.div_add_mod (val (u.drop j)) V
  rw [← hv, e4, Nat.pow_succ]
  generalize val (u.drop j) = X at *
  generalize val (q.drop (j + 1)) = Q at *
  generalize 4294967296 ^ j = P at *
  have e6 := congrArg (P * ·) e5
  simp only [Nat.mul_add] at e6
  rw [← e6, Nat.add_mul, Nat.add_mul]
  have e7 : X / V * P * V = P * (V * (X / V)) := by rw [Nat.mul_assoc, Nat.mul_left_comm, Nat.mul_comm V]
  have e8 : 4294967296 * Q * P * V = Q * (P * 4294967296) * V := by rw [Nat.mul_comm 4294967296 Q, Nat.mul_assoc Q, Nat.mul_comm 4294967296 P]
  rw [e7, e8]
  omega
theorem QIn.fin {U V : Nat} {u q : List Nat} {n m : Nat} (h : QIn U V u q n m 0) : val q = U / V ∧ val u = U % V := by
  have hv := h.v
  have ht := h.t
  simp only [List.drop_zero, Nat.pow_zero, Nat.mul_one] at hv ht
  rw [← hv]
  constructor
  · rw [Nat.mul_comm, Nat.mul_add_div (by omega), Nat.div_eq_of_lt ht]; rfl
  · rw [Nat.mul_comm, Nat.mul_add_mod, Nat.mod_eq_of_lt ht]
/-- The divisor, shifted so that its highest bit is set. -/
structure Norm (b v : List Nat) (s n : Nat) : Prop where
  len : v.length = n
  lb : Lb v
  e : val v = val b * 2 ^ s
  s1 : s ≤ 31
  n1 : 0 < n
  top : ∀ h : n - 1 < v.length, 2147483648 ≤ v[n - 1]
theorem Norm.of {b L : List Nat} {s n : Nat} (hb : Lb b) (hlen : b.length = n) (hn : 0 < n) (hs : s ≤ 31) (hL : L.length = n + 1) (bL : Lb L) (hv : val L = val b * 2 ^ s) (h1 : ∀ h : n - 1 < b.length, 2147483648 ≤ b[n - 1] * 2 ^ s ∧ b[n - 1] * 2 ^ s < 4294967296) : Norm b (L.take n) s n := by
  have h1 := h1 (by omega)
  have hP : 0 < 4294967296 ^ (n - 1) := Nat.pow_pos (by decide)
  have e1 := val_split' (l := b) (i := n - 1) (by omega)
  have e2 := val_drop (l := b) (i := n - 1) (by omega)
  rw [List.drop_of_length_le (show b.length ≤ n - 1 + 1 by omega)] at e2
  simp only [val, Nat.mul_zero, Nat.add_zero] at e2
  have e3 := val_take_lt hb (show n - 1 ≤ b.length by omega)
  rw [e2] at e1
  generalize b[n - 1] = y at *
  have hpn : 4294967296 ^ n = 4294967296 ^ (n - 1) * 4294967296 := by rw [← Nat.pow_succ]; congr 1; omega
  have hlo : 4294967296 ^ (n - 1) * (y * 2 ^ s) ≤ val L := by
    rw [hv, e1, Nat.add_mul, Nat.mul_assoc]; omega
  have hhi : val L < 4294967296 ^ (n - 1) * (y * 2 ^ s + 2 ^ s) := by
    rw [hv, e1, Nat.add_mul, Nat.mul_add, Nat.mul_assoc]
    have : val (b.take (n - 1)) * 2 ^ s < 4294967296 ^ (n - 1) * 2 ^ s := Nat.mul_lt_mul_of_pos_right e3 (Nat.two_pow_pos s)
    omega
  have hdiv : y * 2 ^ s + 2 ^ s ≤ 4294967296 := by
    have : (2 : Nat) ^ 32 = 2 ^ s * 2 ^ (32 - s) := by rw [← Nat.pow_add]; congr 1; omega
    have h32 : (2 : Nat) ^ 32 = 4294967296 := rfl
    have h2 : y + 1 ≤ 2 ^ (32 - s) := by
      have : y * 2 ^ s < 2 ^ (32 - s) * 2 ^ s := by rw [Nat.mul_comm (2 ^ (32 - s))]; omega
      exact Nat.lt_of_mul_lt_mul_right this
    have h3 : (y + 1) * 2 ^ s ≤ 2 ^ (32 - s) * 2 ^ s := Nat.mul_le_mul_right _ h2
    rw [Nat.add_mul, Nat.one_mul, Nat.mul_comm (2 ^ (32 - s))] at h3
    omega
  have hlt : val L < 4294967296 ^ n := by
    rw [hpn]
    exact Nat.lt_of_lt_of_le hhi (Nat.mul_le_mul_left _ hdiv)
  have ht : val (L.take n) = val L := by rw [val_take_mod bL (by omega), Nat.mod_eq_of_lt hlt]
  refine ⟨by simp; omega, lb_take bL _, by rw [ht, hv], hs, hn, fun h => ?_⟩
  have e4 := val_drop_div (lb_take bL n) (i := n - 1) (by omega)
  have e5 := val_drop (l := L.take n) (i := n - 1) h
  rw [List.drop_of_length_le (show (L.take n).length ≤ n - 1 + 1 by simp; omega)] at e5
  simp only [val, Nat.mul_zero, Nat.add_zero] at e5
  rw [← e5, e4, ht, Nat.le_div_iff_mul_le hP, Nat.mul_comm]
  exact Nat.le_trans (Nat.mul_le_mul_left _ h1.1) hlo
theorem Norm.lt {b v : List Nat} {s n : Nat} (h : Norm b v s n) : val v < 4294967296 ^ n := by have := val_lt v h.lb; rwa [h.len] at this
theorem Norm.ge {b v : List Nat} {s n : Nat} (h : Norm b v s n) : 4294967296 ^ (n - 1) * 2147483648 ≤ val v := by
  have hl := h.len
  have hn := h.n1
  have ht := h.top (by omega)
  have e1 := val_split' (l := v) (i := n - 1) (by omega)
  have e2 := val_drop (l := v) (i := n - 1) (by omega)
  rw [List.drop_of_length_le (show v.length ≤ n - 1 + 1 by omega)] at e2
  simp only [val, Nat.mul_zero, Nat.add_zero] at e2
  rw [e2] at e1
  have : 4294967296 ^ (n - 1) * 2147483648 ≤ 4294967296 ^ (n - 1) * v[n - 1] := Nat.mul_le_mul_left _ ht
  omega
theorem Norm.pos {b v : List Nat} {s n : Nat} (h : Norm b v s n) : 0 < val v := Nat.lt_of_lt_of_le (Nat.mul_pos (Nat.pow_pos (by decide)) (by decide)) h.ge
/-- The dividend, shifted alike, starts below the divisor. -/
theorem Norm.start {b v : List Nat} {s n : Nat} (h : Norm b v s n) {a : List Nat} {A : Nat} (ha : Lb a) (hA : A = val a * 2 ^ s) {m : Nat} (hm : a.length + 1 = n + m) : A < val v * 4294967296 ^ m := by
  have h1 := val_lt a ha
  have hn := h.n1
  have h2 : (2 : Nat) ^ s ≤ 2147483648 := Nat.pow_le_pow_right (by decide) h.s1
  have hs0 : 0 < (2 : Nat) ^ s := Nat.two_pow_pos s
  have h3 : A < 4294967296 ^ a.length * 2 ^ s := by rw [hA]; exact Nat.mul_lt_mul_of_pos_right h1 hs0
  have h4 : 4294967296 ^ a.length * 2 ^ s ≤ 4294967296 ^ a.length * 2147483648 := Nat.mul_le_mul_left _ h2
  have h5 : 4294967296 ^ (n - 1) * 2147483648 * 4294967296 ^ m ≤ val v * 4294967296 ^ m := Nat.mul_le_mul_right _ h.ge
  have h6 : 4294967296 ^ (n - 1) * 2147483648 * 4294967296 ^ m = 4294967296 ^ a.length * 2147483648 := by
    rw [Nat.mul_assoc, Nat.mul_comm 2147483648, ← Nat.mul_assoc, ← Nat.pow_add]; congr 2; omega
  omega
theorem shift_quo (A b s : Nat) : A * 2 ^ s / (b * 2 ^ s) = A / b ∧ A * 2 ^ s % (b * 2 ^ s) = A % b * 2 ^ s :=
  ⟨Nat.mul_div_mul_right _ _ (Nat.two_pow_pos s), Nat.mul_mod_mul_right _ _ _⟩
end Wd
end Go.Proofs.YtmgehfakcnmdnaaGreatDoor
/-
  The walk of down of package wide: limbs from the highest one to the lowest one.
-/
namespace Go.Proofs.YtmgehfakcnmdnaaGreatDoor
namespace Wd
open Go.RowKit Lw Go.Shelf
attribute [local go_sem] Oper.semAt_some

/-- The first k indices from the top. -/
def dn (n : Nat) : Nat → List (Fin n)
  | 0 => []
  | k + 1 => if h : k < n then dn n k ++ [⟨n - 1 - k, by omega⟩] else dn n k
theorem dn_succ {n k : Nat} (h : k < n) : dn n (k + 1) = dn n k ++ [⟨n - 1 - k, by omega⟩] := by rw [dn, dif_pos h]
theorem dn_len {n : Nat} : ∀ {k : Nat}, k ≤ n → (dn n k).length = k
  | 0, _ => rfl
  | k + 1, h => by rw [dn_succ (by omega), List.length_append, dn_len (by omega)]; rfl
theorem dn_mem {n : Nat} : ∀ {k : Nat}, k ≤ n → ∀ x : Fin n, x ∈ dn n k ↔ n - k ≤ x.1
  | 0, _, x => by simp [dn]
  | k + 1, h, x => by
    rw [dn_succ (by omega), List.mem_append, dn_mem (by omega), List.mem_singleton, Fin.ext_iff]
    have := x.2
    simp only
    omega
theorem dn_succ' {n k p : Nat} (h : k + (p + 1) = n) : dn n (k + 1) = dn n k ++ [⟨p, by omega⟩] := by
  rw [dn_succ (by omega)]
  congr 2
  apply Fin.ext
  show n - 1 - k = p
  omega
/-- What a round keeps: what lay at the call, and the box with the limbs. -/
def KeepB (n₀ Bs : Nat) (W W' : World) : Prop := Below n₀ W W' ∧ W'.heap[Bs]? = W.heap[Bs]?
theorem keepB_t {n₀ Bs : Nat} {A B C : World} (h : KeepB n₀ Bs A B) (k : KeepB n₀ Bs B C) : KeepB n₀ Bs A C := ⟨h.1.trans k.1, k.2.trans h.2⟩
theorem keepB_b {n₀ Bs : Nat} {w : World} (hn : n₀ ≤ w.heap.size) (hb : Bs < w.heap.size) (W : World) (l : Nat) (o o' : Obj) (hl : w.heap.size ≤ l) (h : W.heap[l]? = some o) (h1 : o.isCells = false) (h2 : o.isWalk = false) : KeepB n₀ Bs W (W.putObj l o') :=
  ⟨belowK_b hn W l o o' hl h h1 h2, World.putObj_heap_other (by omega)⟩
def dnEnc (l : List Nat) (x : Fin l.length) : Array Value := #[.int .i64 (x.1 : Int), .int .u32 (l[x.1] : Int)]
set_option maxRecDepth 100000 in
set_option maxHeartbeats 1000000 in
theorem down_walk (a : Option Addr) (n cap : Nat) (w : World) :
    Calls Tryz.prog 135 #[.slice a n cap] w fun e w' => e = .returned (.func (.func 153) #[] #[.pointer (some ⟨w.heap.size, 0, none⟩)]) ∧ w' = w.alloc (.cells #[.slice a n cap] 27) := by
  go_enter Tryz.func135, Tryz.ntmps135
  go_wp2
  exact bodyPost_ret (results_tmp rfl _ _ _) rfl ⟨rfl, rfl⟩
set_option maxRecDepth 100000 in
set_option maxHeartbeats 2000000 in
theorem down1_in (F : Fence) (m : Nat) (hF : F.fn 153) (hro : F.round = none) (hm : 1 ≤ m) (lp Bs : Nat) (l : List Nat) (a : Option Addr) (len cap : Nat) (w0 : World) (hL : Lim w0 a len cap l) (J Jx : List (Fin l.length) → World → Prop)
    (hY : ∀ pre x W, J pre W → pre.length < l.length → YieldAt F (m - 1) Tryz.prog lp (dnEnc l x) W fun e W' =>
      (e = .returned (.bool true) ∧ J (pre ++ [x]) W' ∧ KeepB w0.heap.size Bs W W') ∨ (e = .returned (.bool false) ∧ Jx (pre ++ [x]) W'))
    (W : World) (hB0 : Below w0.heap.size w0 W) (hBs : W.heap[Bs]? = some (.cells #[.slice a len cap] 27 (0, 0))) (h0 : J [] W) :
    CallsIn F m Tryz.prog 153 #[.func (.yield lp) #[] #[], .pointer (some ⟨Bs, 0, none⟩)] W fun e W' => (∃ v, e = .returned v) ∧
      ((∃ ys, ys = dn l.length l.length ∧ J ys W') ∨ (∃ pre, (∃ k, k ≤ l.length ∧ pre = dn l.length k) ∧ Jx pre W')) := by
  have hlen := hL.len
  have hsm := hL.sm
  have HL := Lib.hid hL
  clear hL
  refine callsIn_of_wp Tryz.func153 rfl hF ?_ hro
  simp only [Tryz.ntmps153, List.size_toArray, List.length_cons, List.length_nil, Nat.reduceAdd, Nat.reduceSub, Array.replicate_succ, Array.replicate_zero, List.push_toArray, List.append_toArray, List.nil_append, List.cons_append]
  have cB := cell_of_one hBs
  gi_wp2
  gi_loopw [3] (fun i wr => ∃ k j : Nat, k + j = l.length ∧ i = .int .i64 ((j : Int) - 1) ∧ J (dn l.length k) wr ∧ KeepB w0.heap.size Bs W wr)
    (fun i _ => (intOf i + 1).toNat)
  case atStart => exact ⟨0, l.length, by omega, by simp [hlen], h0, Below.refl _ _, rfl⟩
  case round =>
    obtain ⟨k, j, hk, rfl, hJs, hnx⟩ := hrel
    have cB := cell_of_one (hnx.2.trans hBs)
    cases j with
    | succ p =>
      have hLr := HL.out.below (hB0.trans hnx.1)
      obtain ⟨b, off, rfl, -, -⟩ := hLr.row (by omega)
      have hcx := hLr.cell (k := p) (by omega)
      obtain ⟨fn, tmps, assign, body, hy, hR⟩ := hY _ ⟨p, by omega⟩ wr hJs (by rw [dn_len (by omega)]; omega)
      dsimp only [dnEnc] at hy
      have e1 : (((p + 1 : Nat)) : Int) - 1 = (p : Int) := by omega
      have k1 : (p : Int) < (len : Int) := by omega
      have k0 : (0 : Int) ≤ (p : Int) := by omega
      have hs := dn_succ' hk
      have HS := Lib.hid hs
      clear hs hLr
      rw [e1]
      gi_wp2
      refine hR.mono ?_
      rintro e W3 (⟨rfl, hJ3, hk3⟩ | ⟨rfl, hJx3⟩)
      · gi_wp2
        go_roundw
        case rel => exact ⟨k + 1, p, by omega, by first | rfl | simp, by rw [HS.out]; exact hJ3, keepB_t hnx hk3⟩
        case measure => simp [intOf]
      · gi_wp2
        refine bodyPost_ret (results_none rfl _ _ _) rfl ?_
        exact ⟨⟨_, rfl⟩, .inr ⟨_, ⟨k + 1, by omega, HS.out.symm⟩, hJx3⟩⟩
    | zero =>
      obtain rfl : k = l.length := by omega
      gi_wp2
      go_end0
      exact ⟨⟨_, rfl⟩, .inl ⟨_, rfl, hJs⟩⟩
theorem down_stops (F : Fence) (m : Nat) (hF : F.fn 153) (hro : F.round = none) (hm : 1 ≤ m) (Bs : Nat) (l : List Nat) (a : Option Addr) (len cap : Nat) (w0 w : World) (hL : Lim w0 a len cap l) (hB0 : Below w0.heap.size w0 w) (hBs : w.heap[Bs]? = some (.cells #[.slice a len cap] 27 (0, 0))) :
    SeqStopsK F m Tryz.prog 153 #[.pointer (some ⟨Bs, 0, none⟩)] (dnEnc l) (KeepB w0.heap.size Bs) (fun ys => ys = dn l.length l.length) (fun pre => ∃ k, k ≤ l.length ∧ pre = dn l.length k) l.length w := fun lp J Jx W hW _ _ hY h0 =>
  down1_in F m hF hro hm lp Bs l a len cap w0 hL J Jx hY W (hB0.trans (hW.mono hB0.size)) ((hW.block Bs (lt_of_block hBs)).trans hBs) h0
end Wd
end Go.Proofs.YtmgehfakcnmdnaaGreatDoor
/-
  The walk of compare of package wide.
-/
namespace Go.Proofs.YtmgehfakcnmdnaaGreatDoor
namespace Wd
open Go.RowKit Lw Go.Shelf
attribute [local go_sem] Oper.semAt_some

def cmpN (X Y : Nat) : Int := if X < Y then -1 else if Y < X then 1 else 0
theorem cmp_lt {X Y : Nat} (h : X < Y) : cmpN X Y = -1 := if_pos h
theorem cmp_gt {X Y : Nat} (h : Y < X) : cmpN X Y = 1 := by rw [cmpN, if_neg (by omega), if_pos h]
theorem cmp_eq (X : Nat) : cmpN X X = 0 := by rw [cmpN, if_neg (by omega), if_neg (by omega)]
/-- Limbs that are equal from some place on. -/
theorem drop_dn {a b : List Nat} (hlen : a.length = b.length) {k : Nat} (hk : k ≤ a.length) (h : ∀ x ∈ dn a.length k, a[x.1] = at0 b x.1) : a.drop (a.length - k) = b.drop (a.length - k) := by
  apply List.ext_getElem
  · simp; omega
  · intro j h1 h2
    simp only [List.getElem_drop]
    have hj : a.length - k + j < a.length := by simp at h1; omega
    have := h ⟨a.length - k + j, hj⟩ ((dn_mem hk _).2 (by simp))
    rw [this, at0_in (by omega)]
set_option maxRecDepth 100000 in
set_option maxHeartbeats 4000000 in
theorem compare_walk (X Y : Nat) (A D : Option Addr) (na ca nb cb : Nat) (w : World) (hA : Lim w A na ca (canon X)) (hD : Lim w D nb cb (canon Y)) :
    Calls Tryz.prog 107 #[.slice A na ca, .slice D nb cb] w fun e w' => e = .returned (.int .i64 (cmpN X Y)) ∧ Below w.heap.size w w' := by
  have la := hA.len
  have lb := hD.len
  have sa := hA.sm
  have sb := hD.sm
  refine (callsIn_wide (n := 3)).1 ?_
  refine callsIn_of_wp_marks Tryz.func107 rfl trivial ?_ rfl
  simp only [Tryz.ntmps107, List.size_toArray, List.length_cons, List.length_nil, Nat.reduceAdd, Nat.reduceSub, Array.replicate_succ, Array.replicate_zero, List.push_toArray, List.append_toArray, List.nil_append, List.cons_append]
  by_cases hne : na = nb
  · subst hne
    gi_wp2_with (refine ⟨trivial, ?_⟩; gi_at_call 135; refine (callsIn_wide.2 (down_walk _ _ _ _)).mono ?_; rintro e w' ⟨rfl, rfl⟩)
    have bR := Boxed.new w 27 (.slice D na cb)
    have bC := Boxed.new (w.alloc (.cells #[.slice D na cb] 27)) 3 (.int .i64 0)
    have bL := Boxed.new ((w.alloc (.cells #[.slice D na cb] 27)).alloc (.cells #[.int .i64 0] 3)) 27 (.slice A na ca)
    simp only [World.size_alloc] at bC bL
    have hB0 : Below w.heap.size w (((w.alloc (.cells #[.slice D na cb] 27)).alloc (.cells #[.int .i64 0] 3)).alloc (.cells #[.slice A na ca] 27)) := (((Below.refl _ w).alloc (Nat.le_refl _) _).alloc (by simp) _).alloc (by simp; omega) _
    refine wpIn_rangeFunc_ownG rfl (by omega) (gf := 153) (lb := #[.pointer (some ⟨w.heap.size + 1 + 1, 0, none⟩)]) rfl trivial (enters_of Tryz.func153 (by kernel_rfl) rfl)
      (down_stops Fence.wide _ trivial rfl (by omega) (w.heap.size + 1 + 1) (canon X) A na ca w _ hA hB0 bL) keepB_t (keepB_b (by simp; omega) (by simp)) (Below.refl _ _) (fun _ => rfl)
      (fun pre W => ((∀ x ∈ pre, (canon X)[x.1] = at0 (canon Y) x.1) ∧ W.cell? ⟨w.heap.size, 0, none⟩ = some (.slice D na cb) ∧ W.cell? ⟨w.heap.size + 1, 0, none⟩ = some (.int .i64 0) ∧ W.frozen? ⟨w.heap.size + 1, 0, none⟩ = false) ∧ Below w.heap.size w W)
      (fun c pre W => (c = .ret ∧ ∃ ini last, pre = ini ++ [last] ∧ (∀ x ∈ ini, (canon X)[x.1] = at0 (canon Y) x.1) ∧ (((canon X)[last.1] < at0 (canon Y) last.1 ∧ W.cell? ⟨w.heap.size + 1, 0, none⟩ = some (.int .i64 (-1))) ∨ (at0 (canon Y) last.1 < (canon X)[last.1] ∧ W.cell? ⟨w.heap.size + 1, 0, none⟩ = some (.int .i64 1)))) ∧ Below w.heap.size w W)
      (OwnFrom.and (Own.from (fun s A B row hs hg hr => ⟨hs.1, cell_kept hs.2.1 hg hr, cell_kept hs.2.2.1 hg hr, (frozen_kept hs.2.2.1 hg hr).trans hs.2.2.2⟩) _) (ownFrom_below (Nat.le_refl _) (by simp; omega)))
      (fun c => OwnFrom.and (Own.from (fun s A B row hs hg hr => by
        obtain ⟨hc, ini, last, e1, e2, e3⟩ := hs
        refine ⟨hc, ini, last, e1, e2, ?_⟩
        rcases e3 with ⟨g, h⟩ | ⟨g, h⟩
        · exact .inl ⟨g, cell_kept h hg hr⟩
        · exact .inr ⟨g, cell_kept h hg hr⟩) _) (ownFrom_below (Nat.le_refl _) (by simp; omega)))
      ⟨⟨by simp, ((bR.alloc _).alloc _).cell, (bC.alloc _).cell, (bC.alloc _).frozen⟩, hB0⟩
      (fun x => { tmps := #[.slice A na ca, .slice D na cb, undef, .pointer (some ⟨w.heap.size, 0, none⟩), .pointer (some ⟨w.heap.size + 1, 0, none⟩), .int .i64 (x.1 : Int), .int .u32 ((canon X)[x.1] : Int), .slice A na ca, .int .i64 na, .slice D na cb, .int .i64 na, .bool false, undef, undef, undef, undef, undef, .slice A na ca, .func (.func 153) #[] #[.pointer (some ⟨w.heap.size + 1 + 1, 0, none⟩)], .int .i64 (x.1 : Int), .int .u32 ((canon X)[x.1] : Int), undef, undef, undef, undef, undef, undef, undef, undef, undef, undef, undef, undef], defers := [] }) ?assign ?body ?done ?stop
    case assign =>
      intro l x W K hK
      dsimp only [dnEnc]
      gi_wp2
      exact hK
    case body =>
      rintro l pre x W ⟨⟨hp, hcb, hcr, hfr⟩, hB⟩ _
      have hx := x.2
      have hDw := hD.below hB
      obtain ⟨bD, oD, rfl, -, -⟩ := hDw.row (by omega)
      have cD := hDw.cell (k := x.1) (by omega)
      have ey := at0_in (b := canon Y) (i := x.1) (by omega)
      have x1 : (x.1 : Int) < (na : Int) := by omega
      rw [← ey] at cD
      generalize hxv : (canon X)[x.1] = xv
      generalize hyv : at0 (canon Y) x.1 = yv at cD
      have KX : ∀ pre' : List (Fin (canon X).length), pre' = pre → ∀ z ∈ pre', (canon X)[z.1] = at0 (canon Y) z.1 := fun _ e => by rw [e]; exact hp
      have Hxv := Lib.hid hxv
      have Hyv := Lib.hid hyv
      have HP := Lib.hid hp
      clear hp hDw hxv hyv KX ey
      gi_wp2
      · have h1 : xv < yv := by omega
        rw [← Hxv.out, ← Hyv.out] at h1
        exact ⟨(KeepsOthers.setCell _ _ _).from _, ⟨rfl, pre, x, rfl, HP.out, .inl ⟨h1, World.cell?_setCell_same' _ _ _ (by rw [hcr]; rfl)⟩⟩, hB.setCell (p := ⟨w.heap.size + 1, 0, none⟩) (by simp) _⟩
      · have h1 : yv < xv := by omega
        rw [← Hxv.out, ← Hyv.out] at h1
        exact ⟨(KeepsOthers.setCell _ _ _).from _, ⟨rfl, pre, x, rfl, HP.out, .inr ⟨h1, World.cell?_setCell_same' _ _ _ (by rw [hcr]; rfl)⟩⟩, hB.setCell (p := ⟨w.heap.size + 1, 0, none⟩) (by simp) _⟩
      · have h1 : xv = yv := by omega
        rw [← Hxv.out, ← Hyv.out] at h1
        refine ⟨KeepsFrom.refl _ _, ⟨Below.refl _ _, rfl⟩, ⟨fun z hz => ?_, hcb, hcr, hfr⟩, hB⟩
        rcases List.mem_append.1 hz with hz | hz
        · exact HP.out z hz
        · rw [List.mem_singleton.1 hz]; exact h1
    case done =>
      rintro D' ys W hD' rfl ⟨⟨hne, _, hcr, hfr⟩, hB⟩ hK
      have hXY : X = Y := by
        have := drop_dn (a := canon X) (b := canon Y) (by omega) (Nat.le_refl _) hne
        simp only [Nat.sub_self, List.drop_zero] at this
        rw [← val_canon X, this, val_canon]
      have HXY := Lib.hid hXY
      clear hXY hne
      gi_wp2
      have hK' := (KeepsOthers.setCell W ⟨w.heap.size + 1, 0, none⟩ (.int .i64 0)).same D' _ hK rfl
      refine ⟨by simp, .inl ⟨_, _, rfl, run_takeDeferred hK', ?_⟩⟩
      have hc5 := cell_kept (World.cell?_setCell_same' W ⟨w.heap.size + 1, 0, none⟩ (.int .i64 0) (by rw [hcr]; rfl)) (grownBy_putObj' _ D' (.deferred none)) (fun r e => by cases e; exact ⟨_, hK', rfl⟩)
      refine ⟨.int .i64 0, ?_, by rw [HXY.out, cmp_eq], (hB.setCell (p := ⟨w.heap.size + 1, 0, none⟩) (by simp) _).trans (belowK_b (w := w) (Nat.le_refl _) _ D' _ _ (by simp at hD'; omega) hK' rfl rfl)⟩
      simp [results, Tryz.f107, go_sem, hc5]
    case stop =>
      rintro D' c pre W hD' ⟨k, hk, rfl⟩ ⟨⟨rfl, ini, last, e1, e2, e3⟩, hB⟩ hK
      obtain ⟨k', rfl⟩ : ∃ k', k = k' + 1 := by
        cases k with
        | zero => simp [dn] at e1
        | succ k' => exact ⟨k', rfl⟩
      rw [dn_succ (by omega)] at e1
      obtain ⟨rfl, e5⟩ := List.append_inj' e1 rfl
      have e6 : last.1 = na - 1 - k' := by
        have : (⟨(canon X).length - 1 - k', by omega⟩ : Fin (canon X).length) = last := by simpa using e5
        rw [← this]; simp only; omega
      have e7 := drop_dn (a := canon X) (b := canon Y) (by omega) (by omega) e2
      rw [show (canon X).length - k' = last.1 + 1 by omega] at e7
      have lx := last.2
      have hres : ∃ r, cmpN X Y = r ∧ W.cell? ⟨w.heap.size + 1, 0, none⟩ = some (.int .i64 r) := by
        rcases e3 with ⟨g, h⟩ | ⟨g, h⟩
        · rw [at0_in (by omega)] at g
          have := lt_of_top (lb_canon X) (by omega) lx e7 g
          rw [val_canon, val_canon] at this
          exact ⟨-1, cmp_lt this, h⟩
        · rw [at0_in (by omega)] at g
          have := lt_of_top (lb_canon Y) (by omega) (show last.1 < (canon Y).length by omega) e7.symm g
          rw [val_canon, val_canon] at this
          exact ⟨1, cmp_gt this, h⟩
      obtain ⟨r, hr, hcr⟩ := hres
      have Hr := Lib.hid hr
      clear hr e1 e2 e3 e5 e6 e7
      gi_wp2
      refine ⟨by simp, .inl ⟨_, _, rfl, run_takeDeferred hK, ?_⟩⟩
      have hc5 := cell_kept hcr (grownBy_putObj' _ D' (.deferred none)) (fun r e => by cases e; exact ⟨_, hK, rfl⟩)
      refine ⟨.int .i64 r, ?_, by rw [Hr.out], hB.trans (belowK_b (w := w) (Nat.le_refl _) W D' _ _ (by simp at hD'; omega) hK rfl rfl)⟩
      simp [results, Tryz.f107, go_sem, hc5]
  · have ne1 : ¬ (na : Int) = (nb : Int) := by omega
    have hB0 : ∀ v, Below w.heap.size w ((w.alloc (.cells #[.slice D nb cb] 27)).alloc (.cells #[v] 3)) := fun v => ((Below.refl _ w).alloc (Nat.le_refl _) _).alloc (by simp) _
    have HB := Lib.hid hB0
    clear hB0
    rcases Nat.lt_or_gt_of_ne hne with g | g
    · have hc := Lib.hid (cmp_lt (canon_lt_of_len (A := X) (B := Y) (by omega)))
      have g1 : (na : Int) < (nb : Int) := by omega
      clear hA hD la lb
      gi_wp2
      refine ⟨.int .i64 (-1), ?_, by rw [hc.out], HB.out _⟩
      simp [results, Tryz.f107, go_sem]
    · have hc := Lib.hid (cmp_gt (canon_lt_of_len (A := Y) (B := X) (by omega)))
      have g1 : ¬ (na : Int) < (nb : Int) := by omega
      clear hA hD la lb
      gi_wp2
      refine ⟨.int .i64 1, ?_, by rw [hc.out], HB.out _⟩
      simp [results, Tryz.f107, go_sem]
end Wd
end Go.Proofs.YtmgehfakcnmdnaaGreatDoor
/-
  A region that draws its order, inside a round of a range over a function, by the laws for one outside.
-/
namespace Go.Proofs.YtmgehfakcnmdnaaGreatDoor
namespace Wd
open Go.RowKit

section
variable {P : Program} {ops : Array Oper} {Q : Exit → Act → World → Prop} {md : Region.Mode} {S : World → Prop} {l n : Nat}

def noDefer (ops : Array Oper) : Bool := ops.all fun o => match o.op with | .defer _ => false | _ => true
theorem noDefer_spec (h : noDefer ops = true) {i : Nat} {o : Oper} (hi : ops[i]? = some o) : ∀ c, o.op ≠ .defer c := by
  intro c hc
  have := Array.all_eq_true.1 h
  obtain ⟨hlt, he⟩ := Array.getElem?_eq_some_iff.1 hi
  have h2 := this i hlt
  rw [he, hc] at h2
  cases h2
theorem wpOp_toIn (hnd : noDefer ops = true) (hL : ¬ LetsOut Q) {i : Nat} {K K' : Act → World → Prop} (hK : ∀ a w, K a w → K' a w) {a : Act} {w : World} (h : wpOp P ops Q i K a w) : wpOpIn (Fence.wide.inRound l) n P ops Q i K' a w := by
  unfold wpOp at h
  unfold wpOpIn
  cases ho : ops[i]? with
  | none => simp only [ho] at h ⊢; exact hK _ _ h
  | some o =>
    simp only [ho] at h ⊢
    by_cases hw : Region.wanted o (yielded ops a.tmps) = true
    · simp only [hw, if_true] at h ⊢
      rcases h with h | h
      · refine ⟨fun _ _ => trivial, ?_⟩
        rw [Oper.semAt_eq _ _ _ (noDefer_spec hnd ho)]
        unfold Oper.wp at h
        generalize (execOp a.eval o).run P w = r at *
        cases r with
        | ok x w' =>
          cases x <;> simp only [Oper.upon, Oper.uponIn] at h ⊢ <;> first | exact hK _ _ h | exact h | skip
          · refine ⟨(fun e => by cases e), CallsIn.inRound l (callsIn_wide.2 (h.mono fun e w'' he => ?_))⟩
            cases e <;> first | exact hK _ _ he | exact he
          · exact ⟨(fun e => by cases e), fun c cs _ => let ⟨v, w'', r, s⟩ := h c cs; ⟨v, w'', hK _ _ r, stepsIn_wide.2 s⟩⟩
        | halt x w' => cases x <;> simp only [Oper.upon, Oper.uponIn] at h ⊢ <;> exact h
      · exact absurd h.2 hL
    · simp only [hw, if_false] at h ⊢
      exact ⟨fun _ _ => trivial, hK _ _ h⟩
theorem wpAny_toIn (hnd : noDefer ops = true) (hL : ¬ LetsOut Q) : ∀ (fuel : Nat) (listed : Array Bool) (a : Act) (w : World), wpAny P md ops Q fuel listed a w → wpAnyIn (Fence.wide.inRound l) n P md ops Q fuel listed a w
  | 0, _, _, _, h => h
  | fuel + 1, listed, a, w, h => ⟨h.1, fun i hi => wpOp_toIn hnd hL (fun a w => wpAny_toIn hnd hL fuel _ a w) (h.2 i hi)⟩
theorem round_region {id : Nat} {a : Act} {w : World} (hm : P.follows .mixedOrders = true) (hnd : noDefer ops = true) (hL : ¬ LetsOut Q) (hS : S w.drew)
    (h : S w.drew → wpAnyH P .any ops Q S ops.size (Array.replicate ops.size false) a w.drew) : (Code.region id ops true).wpIn (Fence.wide.inRound l) n P Q a w :=
  wpIn_region_any hm (wpAny_toIn hnd hL _ _ _ _ (wpAny_of_held _ _ _ _ (h hS)))
theorem take_at (i : Nat) (dst : Option Tmp) (v : Value) {oi : Oper} {fuel : Nat} {listed : Array Bool} {a : Act} {w : World} (hi : ops[i]? = some oi) (hd : oi.dst = dst)
    (hs : Region.noSelect ops = true) (hf : Region.free md ops listed i = true) (hr : (Region.ready md ops listed).contains i = true)
    (hQ : ∀ c a w, Q (.panic c) (a.put oi.dst v) w → Q (.panic c) a w) (hy : YieldsIf P ops S oi v a) (hS : S w)
    (h : wpAnyH P md ops Q S fuel (listed.setIfInBounds i true) (a.put dst v) w) : wpAnyH P md ops Q S (fuel + 1) listed a w :=
  wpAnyH_take hi hs hf hr hQ hy hS (by rw [hd]; exact h)
end
end Wd
end Go.Proofs.YtmgehfakcnmdnaaGreatDoor
/-
  The walk of short of package wide.
-/
namespace Go.Proofs.YtmgehfakcnmdnaaGreatDoor
namespace Wd
open Go.RowKit Lw Go.Shelf
attribute [local go_sem] Oper.semAt_some

theorem Arr.own {A B : World} {g : Nat} {L : List Nat} {row : Option Nat} (h : Arr A g L) (hg : A.grownBy B row) (hr : ∀ r, row = some r → ∃ o : Obj, A.heap[r]? = some o ∧ o.isCells = false) : Arr B g L := by
  unfold Arr at h ⊢
  refine (hg.block g (lt_of_block h) fun e => ?_).trans h
  obtain ⟨o, ho, hc⟩ := hr g e.symm
  rw [h] at ho
  cases ho
  cases hc
theorem Arr.drewN {w : World} {g : Nat} {L : List Nat} (h : Arr w g L) (n : Nat) : Arr (w.drewN n) g L := h
theorem Arr.drew {w : World} {g : Nat} {L : List Nat} (h : Arr w g L) : Arr w.drew g L := h
theorem Boxed.own {A B : World} {b : Nat} {t : TypeId} {v : Value} {row : Option Nat} (h : Boxed A b t v) (hg : A.grownBy B row) (hr : ∀ r, row = some r → ∃ o : Obj, A.heap[r]? = some o ∧ o.isCells = false) : Boxed B b t v := by
  refine h.kept hg fun e => ?_
  obtain ⟨o, ho, hc⟩ := hr b e.symm
  rw [show A.heap[b]? = _ from h] at ho
  cases ho
  cases hc
theorem grownBy_set2 (W : World) (b o : Nat) (v : Value) : W.grownBy (W.setCell ⟨b, o, none⟩ v) (some b) :=
  ⟨rfl, rfl, rfl, (KeepsWalks.setCell W _ v).size, fun k _ hk => Below.heap_setCell _ _ _ k (fun e => hk (by rw [e]))⟩
theorem Lim.own {A B : World} {a : Option Addr} {n cap : Nat} {l : List Nat} {row : Option Nat} (h : Lim A a n cap l) (hg : A.grownBy B row) (hr : ∀ r, row = some r → ∃ o : Obj, A.heap[r]? = some o ∧ o.isCells = false) : Lim B a n cap l :=
  ⟨h.len, h.lb, h.cp, h.sm, fun p => by
    obtain ⟨b, off, e, lt, r⟩ := h.row p
    exact ⟨b, off, e, Nat.lt_of_lt_of_le lt hg.size, fun j v hv => cell_kept (r j v hv) hg hr⟩⟩
/-- What the loop of short holds: the limbs of the quotient and the rest. -/
structure SH (l : List Nat) (d g n : Nat) (pre : List (Fin l.length)) (W : World) (L : List Nat) (r : Nat) : Prop where
  arr : Arr W g L
  len : L.length = n
  lb : Lb L
  r1 : r < d
  v : pre = dn l.length pre.length → DIn l L d (l.length - pre.length) r
theorem dn_take {n : Nat} {pre : List (Fin n)} {x : Fin n} (h : pre ++ [x] = dn n (pre ++ [x]).length) : pre = dn n pre.length ∧ x.1 + pre.length + 1 = n := by
  rw [List.length_append, List.length_singleton] at h
  have hk : pre.length < n := by
    rcases Nat.lt_or_ge pre.length n with g | g
    · exact g
    · have : ∀ k, n ≤ k → (dn n k).length ≤ n := by
        intro k hk
        induction k with
        | zero => simp [dn]
        | succ k ih =>
          rw [dn]
          by_cases hlt : k < n
          · have := dn_len (n := n) (k := k + 1) (by omega)
            rw [dn] at this
            omega
          · rw [dif_neg hlt]; exact ih (by omega)
      have h2 := congrArg List.length h
      rw [List.length_append, List.length_singleton] at h2
      have := this (pre.length + 1) (by omega)
      omega
  rw [dn_succ hk] at h
  obtain ⟨h1, h2⟩ := List.append_inj' h rfl
  refine ⟨h1, ?_⟩
  have : x = ⟨n - 1 - pre.length, by omega⟩ := by simpa using h2
  rw [this]; simp only; omega
theorem SH.own {l : List Nat} {d g n : Nat} {pre : List (Fin l.length)} {A B : World} {L : List Nat} {r : Nat} {row : Option Nat} (h : SH l d g n pre A L r) (hg : A.grownBy B row) (hr : ∀ r, row = some r → ∃ o : Obj, A.heap[r]? = some o ∧ o.isCells = false) : SH l d g n pre B L r := ⟨h.arr.own hg hr, h.len, h.lb, h.r1, h.v⟩
theorem SH.zero (l : List Nat) {d g n : Nat} (hn : l.length = n) (hd : 0 < d) {W : World} (hA : Arr W g (List.replicate n 0)) : SH l d g n [] W (List.replicate n 0) 0 :=
  ⟨hA, by simp, lb_zeros _, hd, fun _ => by have := DIn.zero l hd; rw [hn] at this ⊢; exact this⟩
theorem SH.step {l : List Nat} {d g n : Nat} {pre : List (Fin l.length)} {W W' : World} {L : List Nat} {r : Nat} (h : SH l d g n pre W L r) (hl : Lb l) (hd : d ≤ 4294967296) (hn : l.length = n) (x : Fin l.length) (hA : Arr W' g (L.set x.1 ((r * 4294967296 + l[x.1]) / d))) :
    SH l d g n (pre ++ [x]) W' (L.set x.1 ((r * 4294967296 + l[x.1]) / d)) ((r * 4294967296 + l[x.1]) % d) := by
  refine ⟨hA, by simpa using h.len, lb_set h.lb _ _ (quo_lt h.r1 (lb_get hl x.2)), Nat.mod_lt _ (Nat.lt_of_le_of_lt (Nat.zero_le _) h.r1), fun e => ?_⟩
  obtain ⟨e1, e2⟩ := dn_take e
  have hv := h.v e1
  rw [show l.length - pre.length = x.1 + 1 by omega] at hv
  have := hv.step x.2 hl
  rw [List.length_append, List.length_singleton, show l.length - (pre.length + 1) = x.1 by omega]
  exact this
set_option maxRecDepth 100000 in
set_option maxHeartbeats 4000000 in
theorem short_walk (l : List Nat) (A : Option Addr) (n cap d : Nat) (w : World) (hA : Lim w A n cap l) (hd0 : 0 < d) (hd : d < 4294967296) :
    Calls Tryz.prog 154 #[.slice A n cap, .int .u32 (d : Int)] w fun e w' => e = .returned (.tuple #[.slice (some ⟨w.heap.size + 1, 0, none⟩) (canon (val l / d)).length n, .int .u32 ((val l % d : Nat) : Int)]) ∧ Lim w' (some ⟨w.heap.size + 1, 0, none⟩) (canon (val l / d)).length n (canon (val l / d)) ∧ Below w.heap.size w w' := by
  have la := hA.len
  have sa := hA.sm
  have hmk := make_nu n sa
  refine (callsIn_wide (n := 3)).1 ?_
  refine callsIn_of_wp_marks Tryz.func154 rfl trivial ?_ rfl
  simp only [Tryz.ntmps154, List.size_toArray, List.length_cons, List.length_nil, Nat.reduceAdd, Nat.reduceSub, Array.replicate_succ, Array.replicate_zero, List.push_toArray, List.append_toArray, List.nil_append, List.cons_append]
  gi_wp2_with (refine ⟨trivial, ?_⟩; gi_at_call 135; refine (callsIn_wide.2 (down_walk _ _ _ _)).mono ?_; rintro e w' ⟨rfl, rfl⟩)
  have bD := Boxed.new w 91 (.int .u32 (d : Int))
  have aG := Arr.nu (w.alloc (.cells #[.int .u32 (d : Int)] 91)) n
  have bO := Boxed.new ((w.alloc (.cells #[.int .u32 (d : Int)] 91)).alloc (.cells (nu n) 91)) 27 (.slice (some ⟨w.heap.size + 1, 0, none⟩) n n)
  have bR := Boxed.new (((w.alloc (.cells #[.int .u32 (d : Int)] 91)).alloc (.cells (nu n) 91)).alloc (.cells #[.slice (some ⟨w.heap.size + 1, 0, none⟩) n n] 27)) 91 (.int .u32 0)
  have bL := Boxed.new ((((w.alloc (.cells #[.int .u32 (d : Int)] 91)).alloc (.cells (nu n) 91)).alloc (.cells #[.slice (some ⟨w.heap.size + 1, 0, none⟩) n n] 27)).alloc (.cells #[.int .u32 0] 91)) 27 (.slice A n cap)
  simp only [World.size_alloc] at aG bO bR bL
  have aG2 := ((aG.below ((Below.refl _ _).alloc (Nat.le_refl _) (.cells #[.slice (some ⟨w.heap.size + 1, 0, none⟩) n n] 27))).below ((Below.refl _ _).alloc (Nat.le_refl _) (.cells #[.int .u32 0] 91))).below ((Below.refl _ _).alloc (Nat.le_refl _) (.cells #[.slice A n cap] 27))
  have hB0 : Below w.heap.size w (((((w.alloc (.cells #[.int .u32 (d : Int)] 91)).alloc (.cells (nu n) 91)).alloc (.cells #[.slice (some ⟨w.heap.size + 1, 0, none⟩) n n] 27)).alloc (.cells #[.int .u32 0] 91)).alloc (.cells #[.slice A n cap] 27)) :=
    (((((Below.refl _ w).alloc (Nat.le_refl _) _).alloc (by simp) _).alloc (by simp; omega) _).alloc (by simp; omega) _).alloc (by simp; omega) _
  have bD2 := (((bD.alloc (.cells (nu n) 91)).alloc (.cells #[.slice (some ⟨w.heap.size + 1, 0, none⟩) n n] 27)).alloc (.cells #[.int .u32 0] 91)).alloc (.cells #[.slice A n cap] 27)
  have bO2 := (bO.alloc (.cells #[.int .u32 0] 91)).alloc (.cells #[.slice A n cap] 27)
  have bR2 := bR.alloc (.cells #[.slice A n cap] 27)
  have hmx : Tryz.prog.follows .mixedOrders = true := by kernel_rfl
  refine wpIn_rangeFunc_ownG rfl (by omega) (gf := 153) (lb := #[.pointer (some ⟨w.heap.size + 1 + 1 + 1 + 1, 0, none⟩)]) rfl trivial (enters_of Tryz.func153 (by kernel_rfl) rfl)
    (down_stops Fence.wide _ trivial rfl (by omega) (w.heap.size + 1 + 1 + 1 + 1) l A n cap w _ hA hB0 bL) keepB_t (keepB_b (by simp; omega) (by simp)) (Below.refl _ _) (fun _ => rfl)
    (fun pre W => (∃ L r, SH l d (w.heap.size + 1) n pre W L r ∧ Boxed W w.heap.size 91 (.int .u32 (d : Int)) ∧ Boxed W (w.heap.size + 1 + 1) 27 (.slice (some ⟨w.heap.size + 1, 0, none⟩) n n) ∧ Boxed W (w.heap.size + 1 + 1 + 1) 91 (.int .u32 (r : Int))) ∧ Below w.heap.size w W)
    (fun _ _ _ => False)
    (OwnFrom.and (Own.from (fun s A B row hs hg hr => by obtain ⟨L, r, h1, h2, h3, h4⟩ := hs; exact ⟨L, r, h1.own hg hr, Boxed.own h2 hg hr, Boxed.own h3 hg hr, Boxed.own h4 hg hr⟩) _) (ownFrom_below (Nat.le_refl _) (by simp; omega)))
    (fun _ _ _ _ _ hs _ _ => hs)
    ⟨⟨_, 0, SH.zero l la hd0 aG2, bD2, bO2, bR2⟩, hB0⟩
    (fun x => { tmps := #[.slice A n cap, .int .u32 (d : Int), undef, .pointer (some ⟨w.heap.size, 0, none⟩), .slice none 0 0, .int .u32 0, .pointer (some ⟨w.heap.size + 1 + 1, 0, none⟩), .pointer (some ⟨w.heap.size + 1 + 1 + 1, 0, none⟩), .int .i64 (x.1 : Int), .int .u32 (l[x.1] : Int), .slice A n cap, .int .i64 n, .slice (some ⟨w.heap.size + 1, 0, none⟩) n n, .slice A n cap, .func (.func 153) #[] #[.pointer (some ⟨w.heap.size + 1 + 1 + 1 + 1, 0, none⟩)], .int .i64 (x.1 : Int), .int .u32 (l[x.1] : Int), undef, undef, undef, undef, undef, undef, undef, undef, undef, undef, undef, undef, undef], defers := [] }) ?assign ?body ?done ?stop
  case assign =>
    intro l x W K hK
    dsimp only [dnEnc]
    gi_wp2
    exact hK
  case body =>
    rintro lp pre x W ⟨⟨L, r, hS, hbD, hbO, hbR⟩, hB⟩ _
    have hx := x.2
    have c1 := hbD.cell
    have c2 := hbO.cell
    have c3 := hbR.cell
    have f3 := hbR.frozen
    obtain ⟨lx, c4⟩ : ∃ lx : Nat, W.cell? ⟨w.heap.size + 1, x.1, none⟩ = some (.int .u32 (lx : Int)) := ⟨_, hS.arr.cell (k := x.1) (by rw [hS.len]; omega)⟩
    have f4 := hS.arr.free x.1
    have x1 : (x.1 : Int) < (n : Int) := by omega
    have dv := fun W => div32 r l[x.1] d W hS.r1 (lb_get hA.lb x.2) hd
    have st := fun W' hA' => hS.step hA.lb (Nat.le_of_lt hd) la x (W' := W') hA'
    generalize hq : (r * 4294967296 + l[x.1]) / d = q at dv st
    generalize hm : (r * 4294967296 + l[x.1]) % d = m at dv st
    generalize hxv : l[x.1] = xv at *
    have St := Lib.hid st
    have HS := Lib.hid hS
    have HB := Lib.hid hB
    clear st hS hq hm hxv hB bD aG bO bR bL aG2 hB0 bD2 bO2 bR2 hmk
    gi_wp2
    refine round_region (S := fun w' => w'.cell? ⟨w.heap.size, 0, none⟩ = some (.int .u32 (d : Int)) ∧ w'.cell? ⟨w.heap.size + 1 + 1, 0, none⟩ = some (.slice (some ⟨w.heap.size + 1, 0, none⟩) n n)) hmx (by kernel_rfl) (fun h => by obtain ⟨_, _, h⟩ := h; exact h) ⟨c1, c2⟩ (fun hHeld => ?_)
    refine take_at 0 (some 18) (.slice (some ⟨w.heap.size + 1, 0, none⟩) n n) rfl rfl (by kernel_rfl) (by kernel_rfl) (by kernel_rfl) (fun _ _ _ h => h) (Or.inl ⟨by rfl, ?_⟩) (by assumption) ?_
    · intro w hSw
      go_simp
      try with_reducible rfl
    simp only [Act.put, List.setIfInBounds_toArray, List.set_cons_zero, List.set_cons_succ]
    refine take_at 1 (some 19) (.int .i64 (x.1 : Int)) rfl rfl (by kernel_rfl) (by kernel_rfl) (by kernel_rfl) (fun _ _ _ h => h) (Or.inl ⟨by rfl, ?_⟩) (by assumption) ?_
    · intro w hSw
      go_simp
      try with_reducible rfl
    simp only [Act.put, List.setIfInBounds_toArray, List.set_cons_zero, List.set_cons_succ]
    refine take_at 3 (some 21) (.int .u32 (xv : Int)) rfl rfl (by kernel_rfl) (by kernel_rfl) (by kernel_rfl) (fun _ _ _ h => h) (Or.inl ⟨by rfl, ?_⟩) (by assumption) ?_
    · intro w hSw
      go_simp
      try with_reducible rfl
    simp only [Act.put, List.setIfInBounds_toArray, List.set_cons_zero, List.set_cons_succ]
    refine take_at 4 (some 22) (.int .u32 (d : Int)) rfl rfl (by kernel_rfl) (by kernel_rfl) (by kernel_rfl) (fun _ _ _ h => h) (Or.inl ⟨by rfl, ?_⟩) (by assumption) ?_
    · intro w hSw
      go_simp
      try with_reducible rfl
    simp only [Act.put, List.setIfInBounds_toArray, List.set_cons_zero, List.set_cons_succ]
    refine wpAnyH_ready (rs := [2]) (by kernel_rfl) (by simp) ?_
    refine AllReadyH.cons rfl (fun K hK => ?_) AllReadyH.nil
    go_simp
    refine hK.out _ _ hHeld (fun hHeld => ?_)
    clear hK K
    try simp only [Act.put, List.setIfInBounds_toArray, List.set_cons_zero, List.set_cons_succ]
    refine wpAnyH_ready (rs := [5]) (by kernel_rfl) (by simp) ?_
    refine AllReadyH.cons rfl (fun K hK => ?_) AllReadyH.nil
    go_simp
    go_at_call 164
    refine (dv _).mono ?_
    rintro e w' ⟨rfl, nn, rfl⟩
    dsimp only
    refine hK.out _ _ ⟨c1, c2⟩ (fun hHeld => ?_)
    clear hK K
    try simp only [Act.put, List.setIfInBounds_toArray, List.set_cons_zero, List.set_cons_succ]
    refine take_at 6 (some 17) (.tuple #[.int .u32 (q : Int), .int .u32 (m : Int)]) rfl rfl (by kernel_rfl) (by kernel_rfl) (by kernel_rfl) (fun _ _ _ h => h) (Or.inl ⟨by rfl, ?_⟩) (by assumption) ?_
    · intro w hSw
      go_simp
      try with_reducible rfl
    simp only [Act.put, List.setIfInBounds_toArray, List.set_cons_zero, List.set_cons_succ]
    refine take_at 7 (some 24) (.int .u32 (q : Int)) rfl rfl (by kernel_rfl) (by kernel_rfl) (by kernel_rfl) (fun _ _ _ h => h) (Or.inl ⟨by rfl, ?_⟩) (by assumption) ?_
    · intro w hSw
      go_simp
      try with_reducible rfl
    simp only [Act.put, List.setIfInBounds_toArray, List.set_cons_zero, List.set_cons_succ]
    refine take_at 8 (some 25) (.int .u32 (m : Int)) rfl rfl (by kernel_rfl) (by kernel_rfl) (by kernel_rfl) (fun _ _ _ h => h) (Or.inl ⟨by rfl, ?_⟩) (by assumption) ?_
    · intro w hSw
      go_simp
      try with_reducible rfl
    simp only [Act.put, List.setIfInBounds_toArray, List.set_cons_zero, List.set_cons_succ]
    refine take_at 9 (some 26) (.pointer (some ⟨w.heap.size + 1, x.1, none⟩)) rfl rfl (by kernel_rfl) (by kernel_rfl) (by kernel_rfl) (fun _ _ _ h => h) (Or.inl ⟨by rfl, ?_⟩) (by assumption) ?_
    · intro w hSw
      go_simp
      try with_reducible rfl
    simp only [Act.put, List.setIfInBounds_toArray, List.set_cons_zero, List.set_cons_succ]
    refine wpAnyH_ready (rs := [10]) (by kernel_rfl) (by simp) ?_
    refine AllReadyH.cons rfl (fun K hK => ?_) AllReadyH.nil
    go_simp
    refine hK.out _ _ ⟨(World.cell?_setCell_far _ _ _ _ (by simp <;> omega)).trans hHeld.1, (World.cell?_setCell_far _ _ _ _ (by simp <;> omega)).trans hHeld.2⟩ (fun hHeld => ?_)
    clear hK K
    try simp only [Act.put, List.setIfInBounds_toArray, List.set_cons_zero, List.set_cons_succ]
    refine wpAnyH_ready (rs := [11]) (by kernel_rfl) (by simp) ?_
    refine AllReadyH.cons rfl (fun K hK => ?_) AllReadyH.nil
    go_simp
    refine hK.out _ _ ⟨(World.cell?_setCell_far _ _ _ _ (by simp <;> omega)).trans hHeld.1, (World.cell?_setCell_far _ _ _ _ (by simp <;> omega)).trans hHeld.2⟩ (fun hHeld => ?_)
    clear hK K
    try simp only [Act.put, List.setIfInBounds_toArray, List.set_cons_zero, List.set_cons_succ]
    refine wpAnyH_done (by kernel_rfl) ?_ _
    gi_wp2
    clear hHeld c1 c2 c3 c4 f3 f4 dv
    have ko : KeepsOthers W (W.drewN (1 + nn)) := ⟨Nat.le_refl _, fun _ _ h _ => h⟩
    refine ⟨((ko.trans (KeepsOthers.setCell _ _ _)).trans (KeepsOthers.setCell _ _ _)).from _, ⟨((below_drewN (Below.refl _ W) _).setCell (p := ⟨w.heap.size + 1, x.1, none⟩) (by simp) _).setCell (p := ⟨w.heap.size + 1 + 1 + 1, 0, none⟩) (by simp; omega) _, ?_⟩, ⟨_, _, St.out _ ?_, ?_, ?_, ?_⟩, ((below_drewN HB.out _).setCell (p := ⟨w.heap.size + 1, x.1, none⟩) (by simp) _).setCell (p := ⟨w.heap.size + 1 + 1 + 1, 0, none⟩) (by simp; omega) _⟩
    · rw [Below.heap_setCell _ _ _ _ (by simp), Below.heap_setCell _ _ _ _ (by simp; omega)]; rfl
    · exact ((HS.out.arr.drewN _).set x.1 q).other (by simp; omega) _
    · exact ((show Boxed (W.drewN (1 + nn)) _ _ _ from hbD).kept (grownBy_set2 _ _ _ _) (by simp)).other (by omega) _
    · exact ((show Boxed (W.drewN (1 + nn)) _ _ _ from hbO).kept (grownBy_set2 _ _ _ _) (by simp)).other (by omega) _
    · exact Boxed.set _ ((show Boxed (W.drewN (1 + nn)) _ _ _ from hbR).kept (grownBy_set2 _ _ _ _) (by simp; omega))
  case done =>
    rintro D ys W hD rfl ⟨⟨L, r, hS, hbD, hbO, hbR⟩, hB⟩ hK
    have hv := hS.v (by rw [dn_len (Nat.le_refl _)])
    rw [dn_len (Nat.le_refl _), Nat.sub_self] at hv
    obtain ⟨v1, v2⟩ := hv.fin
    have hlim := hS.arr.lim (cap := n) hS.lb (by rw [hS.len]; exact Nat.le_refl _) (by rw [hS.len]; exact sa)
    rw [hS.len] at hlim
    have tr := fun W' h => trim_walk L (some ⟨w.heap.size + 1, 0, none⟩) n n W' h
    rw [v1] at tr
    have Tr := Lib.hid tr
    have HL := Lib.hid hlim
    have hlt := hlim.trim
    rw [v1] at hlt
    have HLT := Lib.hid hlt
    have KT := Lib.hid (fun k => (hlim.below (below_drewN (Below.refl _ W) k)))
    have V2 := Lib.hid v2
    have HB := Lib.hid hB
    have c2 := hbO.cell
    have c3 := hbR.cell
    clear hv v1 v2 hlim tr hlt hB hS
    gi_wp2
    refine wpIn_wide.2 ?_
    have hlw := HL.out.below (Below.refl _ W).drew
    go_region_held3 (fun w' => w'.cell? ⟨w.heap.size + 1 + 1, 0, none⟩ = some (.slice (some ⟨w.heap.size + 1, 0, none⟩) n n) ∧ w'.cell? ⟨w.heap.size + 1 + 1 + 1, 0, none⟩ = some (.int .u32 (r : Int)) ∧ Lim w' (some ⟨w.heap.size + 1, 0, none⟩) n n L) (first | exact ⟨c2, c3, hlw⟩ | assumption) (first | (go_at_call 106; refine (Tr.out _ (And.right (And.right (by assumption)))).mono ?_; rintro e w' ⟨rfl, rfl⟩))
    all_goals gi_wp2
    all_goals
      refine ⟨by simp, .inl ⟨_, _, rfl, run_takeDeferred (w := W.drew) hK, ?_⟩⟩
      refine ⟨_, results_tmp2 rfl _ _ _, ?_, (HLT.out.below (Below.refl _ W).drew).own (grownBy_putObj' _ D (.deferred none)) (fun r e => by cases e; exact ⟨_, hK, rfl⟩), HB.out.drew.trans (belowK_b (w := w) (Nat.le_refl _) W.drew D _ _ (by simp at hD; omega) hK rfl rfl)⟩
      rw [← V2.out]
      rfl
  case stop =>
    rintro D c pre W _ _ h _
    exact h.elim
end Wd
end Go.Proofs.YtmgehfakcnmdnaaGreatDoor
/-
  Limbs that lie at the beginning of a block that may be written.
-/
namespace Go.Proofs.YtmgehfakcnmdnaaGreatDoor
namespace Wd
open Go.RowKit Lw

def Row (w : World) (g : Nat) (L : List Nat) : Prop := ∃ cur : Array Value, w.heap[g]? = some (.cells cur 91 (0, 0)) ∧ cur.toList.take L.length = us L
theorem Arr.row {w : World} {g : Nat} {L : List Nat} (h : Arr w g L) : Row w g L := ⟨_, h, by show List.take L.length (us L) = us L; exact List.take_of_length_le (by simp [us])⟩
theorem Row.lt {w : World} {g : Nat} {L : List Nat} (h : Row w g L) : g < w.heap.size := by obtain ⟨c, h, _⟩ := h; exact lt_of_block h
theorem row_get {L : List Nat} {cur : Array Value} (h : cur.toList.take L.length = us L) {k : Nat} (hk : k < L.length) : cur[k]? = some (.int .u32 (L[k] : Int)) := by
  have e := congrArg (·[k]?) h
  simp only [List.getElem?_take_of_lt hk] at e
  simpa [us, hk] using e
theorem Row.cell {w : World} {g : Nat} {L : List Nat} (h : Row w g L) {k : Nat} (hk : k < L.length) : w.cell? ⟨g, k, none⟩ = some (.int .u32 (L[k] : Int)) := by
  obtain ⟨c, h, e⟩ := h
  have := row_get e hk
  simp only [World.cell?, h]
  simpa using this
theorem Row.free {w : World} {g : Nat} {L : List Nat} (h : Row w g L) (k : Nat) : w.frozen? ⟨g, k, none⟩ = false := by
  obtain ⟨c, h, _⟩ := h
  simp [World.frozen?, h]
theorem Row.set {w : World} {g : Nat} {L : List Nat} (h : Row w g L) (k v : Nat) : Row (w.setCell ⟨g, k, none⟩ (.int .u32 (v : Int))) g (L.set k v) := by
  have hlt := h.lt
  obtain ⟨c, h, e⟩ := h
  have h' : w.heap[g] = .cells c 91 (0, 0) := by simpa [Array.getElem?_eq_getElem hlt] using h
  refine ⟨c.set! k (.int .u32 (v : Int)), ?_, ?_⟩
  · show (w.heap.modify g _)[g]? = _
    rw [Array.getElem?_eq_getElem (by simpa using hlt), Array.getElem_modify_self, h']
    simp [Addr.spot, Array.set!_eq_setIfInBounds]
  · rw [Array.set!_eq_setIfInBounds, Array.toList_setIfInBounds, List.length_set, List.take_set, e]
    simp [us, List.map_set]
theorem Row.own {A B : World} {g : Nat} {L : List Nat} {row : Option Nat} (h : Row A g L) (hg : A.grownBy B row) (hne : some g ≠ row) : Row B g L := by
  have hlt := h.lt
  obtain ⟨c, h, e⟩ := h
  exact ⟨c, (hg.block g hlt hne).trans h, e⟩
theorem Row.other {w : World} {g : Nat} {L : List Nat} (h : Row w g L) {p : Addr} (hp : p.block ≠ g) (v : Value) : Row (w.setCell p v) g L := by
  obtain ⟨c, h, e⟩ := h
  exact ⟨c, by rw [Below.heap_setCell _ _ _ _ (by simpa using Ne.symm hp)]; exact h, e⟩
theorem Row.below {w w' : World} {g : Nat} {L : List Nat} (h : Row w g L) (hb : Below w.heap.size w w') : Row w' g L := by
  have hlt := h.lt
  obtain ⟨c, h, e⟩ := h
  exact ⟨c, (hb.block g hlt).trans h, e⟩
/-- A window of the limbs as a slice. -/
theorem Row.lim {w : World} {g : Nat} {L : List Nat} (h : Row w g L) (hl : Lb L) (j n : Nat) {cap : Nat} (hj : j + n ≤ L.length) (hc : n ≤ cap) (hs : n ≤ 1000000) : Lim w (some ⟨g, j, none⟩) n cap ((L.drop j).take n) :=
  ⟨by simp; omega, lb_take (lb_drop hl _) _, hc, hs, fun _ => ⟨g, j, rfl, h.lt, fun i v hv => by
    have hi : i < n := by
      have h1 := (List.getElem?_eq_some_iff.1 hv).1
      rw [List.length_map, List.length_take] at h1
      omega
    rw [h.cell (k := j + i) (by omega)]
    rw [List.getElem?_map, List.getElem?_take_of_lt hi, List.getElem?_drop, List.getElem?_eq_getElem (by omega)] at hv
    simpa using hv⟩⟩
theorem Row.lim0 {w : World} {g : Nat} {L : List Nat} (h : Row w g L) (hl : Lb L) {cap : Nat} (hc : L.length ≤ cap) (hs : L.length ≤ 1000000) : Lim w (some ⟨g, 0, none⟩) L.length cap L := by
  have := h.lim hl 0 L.length (cap := cap) (by omega) hc hs
  simpa using this
/-- What a call owns, as limbs. -/
abbrev OwnL (w : World) (B : Nat) (V : Value) (L : List Nat) : Prop := w.ownsRow B 91 1 V L.length (us L)
theorem own_row {w : World} {B : Nat} {V : Value} {L : List Nat} (h : OwnL w B V L) (hn : 0 < L.length) : ∃ g cap, V = .slice (some ⟨g, 0, none⟩) L.length cap ∧ L.length ≤ cap ∧ B ≤ g ∧ Row w g L := by
  rcases h.2 with ⟨_, h0⟩ | ⟨g, cap, cur, rfl, hg, hh, h1, h2, h3, h4⟩
  · omega
  · exact ⟨g, cap, rfl, h1, hg, cur, hh, by simpa using h4⟩
theorem own_lim {w : World} {B : Nat} {V : Value} {L : List Nat} (h : OwnL w B V L) (hl : Lb L) (hs : L.length ≤ 1000000) : ∃ a cap, V = .slice a L.length cap ∧ Lim w a L.length cap L ∧ ∀ b off, a = some ⟨b, off, none⟩ → B ≤ b := by
  rcases h.2 with ⟨rfl, h0⟩ | ⟨g, cap, cur, rfl, hg, hh, h1, h2, h3, h4⟩
  · obtain rfl := List.length_eq_zero_iff.1 h0
    exact ⟨none, 0, rfl, Lim.nil _, fun b off e => by cases e⟩
  · exact ⟨_, cap, rfl, Row.lim0 ⟨cur, hh, by simpa using h4⟩ hl h1 hs, fun b off e => by cases e; exact hg⟩
end Wd
end Go.Proofs.YtmgehfakcnmdnaaGreatDoor
/-
  The walk of left of package wide, at less than 32 bits.
-/
namespace Go.Proofs.YtmgehfakcnmdnaaGreatDoor
namespace Wd
open Go.RowKit Lw

theorem or_add (c x s : Nat) (hc : c < 2 ^ s) (hs : s < 32) (hx : x < 4294967296) : bits BinOp.or IntKind.u64 (c : Int) ((x * 2 ^ s : Nat) : Int) = ((c + x * 2 ^ s : Nat) : Int) := by
  have h1 : (2 : Nat) ^ s ≤ 2 ^ 31 := Nat.pow_le_pow_right (by decide) (by omega)
  have h2 : x * 2 ^ s ≤ 4294967295 * 2147483648 := Nat.mul_le_mul (by omega) h1
  have e : c + x * 2 ^ s = c ||| x * 2 ^ s := by
    have := Nat.shiftLeft_add_eq_or_of_lt hc x
    rw [Nat.shiftLeft_eq, Nat.or_comm] at this
    rw [← this, Nat.add_comm]
  rw [u64_or_nat _ _ (by have : (2:Nat) ^ 31 = 2147483648 := rfl; omega) (by omega), e]
set_option maxRecDepth 100000 in
set_option maxHeartbeats 4000000 in
theorem left_walk (l : List Nat) (A : Option Addr) (n cap s : Nat) (w : World) (hA : Lim w A n cap l) (hs : s < 32) (hn : n + 1 ≤ 1000000) :
    Calls Tryz.prog 156 #[.slice A n cap, .int .i64 (s : Int)] w fun e w' => ∃ V L, e = .returned V ∧ L.length = n + 1 ∧ Lb L ∧ val L = val l * 2 ^ s ∧ OwnL w' w.heap.size V L ∧ Below w.heap.size w w' := by
  have la := hA.len
  have hmk : ∀ w : World, (Instr.makeSlice 27 (.int .i64 0) (.int .i64 ((n : Int) + 1))).run Tryz.prog w = .ok (.slice (some ⟨w.heap.size, 0, none⟩) 0 (n + 1)) (w.alloc (.cells (nu (n + 1)) 91)) := fun w => by
    obtain ⟨i, hi, hzz⟩ := Option.map_eq_some_iff.1 info4
    simp only [Prod.mk.injEq] at hzz
    obtain ⟨hz, hs, hb⟩ := hzz
    have h := run_make (P := Tryz.prog) w 27 91 i _ Tryz.underlying27 hi hz .i64 .i64 0 ((n : Int) + 1) (by omega) (by omega) (by rw [hb]; omega) (by omega)
    have e : ((n : Int) + 1).toNat = n + 1 := by omega
    rw [hs, e, Nat.mul_one] at h
    show _ = Result.ok _ (w.alloc (.cells (us (List.replicate (n + 1) 0)).toArray 91))
    rw [← made_us]
    exact h
  obtain ⟨i0', hi, hzz⟩ := Option.map_eq_some_iff.1 info4
  simp only [Prod.mk.injEq] at hzz
  obtain ⟨hz0, hz1, hz2⟩ := hzz
  have k1 : (s : Int).tdiv 32 = 0 := Int.tdiv_eq_zero_of_lt (by omega) (by omega)
  have k2 : (s : Int).tmod 32 = (s : Int) := Int.tmod_eq_of_lt (by omega) (by omega)
  have HA := Lib.hid hA
  clear hA
  go_enter Tryz.func156, Tryz.ntmps156
  go_wp2
  have hA0 := World.ownsRow_made w (nu (n + 1)) (n + 1) (base := w.heap.size) (e := 91) (size := 1) (Nat.le_refl _) (by unfold maxLen; omega) (by simp [nu, us])
  have hB0 := (Below.refl w.heap.size w).alloc (Nat.le_refl _) (.cells (nu (n + 1)) 91)
  clear hmk
  go_loopw [5, 6, 20] (fun V c i wr => ∃ (k cc : Nat) (L : List Nat), k ≤ n ∧ c = .int .u64 cc ∧ i = .int .i64 k ∧ FIn l L s k cc ∧ OwnL wr w.heap.size V L ∧ Below w.heap.size w wr) (fun _ _ i _ => n - (intOf i).toNat)
  case atStart => exact ⟨0, 0, [], by omega, rfl, rfl, FIn.zero l s, hA0, hB0⟩
  case round =>
    clear hA0 hB0
    obtain ⟨k, c, L, hk, rfl, rfl, hF, hO, hB⟩ := hrel
    have hL := hF.len
    have hc := hF.c1
    have hsz := hB.size
    have h31 : (2 : Nat) ^ s ≤ 2147483648 := Nat.pow_le_pow_right (show 0 < 2 by decide) (show s ≤ 31 by omega)
    have HO := Lib.hid hO
    have HB := Lib.hid hB
    clear hO hB
    by_cases hlt : k < n
    · have hAw := HA.out.below HB.out
      obtain ⟨bA, oA, rfl, -, -⟩ := hAw.row (by omega)
      have cA := hAw.cell (k := k) (by omega)
      have i1 : (k : Int) < (n : Int) := by omega
      have xb := lb_get hAw.lb (k := k) (by omega)
      have st := hF.step (by omega) hAw.lb
      have oa := or_add c l[k] s hc hs xb
      generalize l[k]'(by omega) = x at cA xb st oa
      have hp : x * 2 ^ s ≤ 4294967295 * 2147483648 := Nat.mul_le_mul (by omega) h31
      have r1 : IntKind.u64.wrap ((x : Int) * 2 ^ s) = ((x * 2 ^ s : Nat) : Int) := by
        rw [show (x : Int) * 2 ^ s = ((x * 2 ^ s : Nat) : Int) by rw [Int.natCast_mul, Int.natCast_pow]; rfl]
        exact IntWalk.u64_in _ (by omega)
      generalize x * 2 ^ s = p at *
      generalize hT : c + p = T at oa st
      have St := Lib.hid st
      have ev : ((T % 4294967296 : Nat) : Int) = (T : Int) % 4294967296 := by omega
      have ed : ((T / 4294967296 : Nat) : Int) = (T : Int) / 4294967296 := by omega
      have Ev := Lib.hid ev
      have Ed := Lib.hid ed
      clear st hF hAw ev ed
      go_wp2_with (at_builtin; refine wpList_append_own _ rfl (.tmp 31) (.tmp 34) 27 rfl w.heap.size 91 i0' (.int .u32 0) 1 4 Tryz.underlying27 hi hz0 hz1 hz2 rfl (by decide) _ _ _ rfl (HO.out.alloc _) ⟨wr.heap.size, 0, none⟩ 1 1 [.int .u32 ((T : Int) % 4294967296)] rfl rfl (by intro j u hj; match j, hj with | 0, hj => (simp at hj; subst hj; simp [Addr.add])) (by intro u hu; simp at hu; subst hu; rfl) (by unfold maxLen; omega) (by omega) (by simp; omega) ?_)
      intro v' w1 hown' hgrow _
      have hB1 := (HB.out.alloc (Nat.le_of_lt_succ (by omega)) (.cells #[.int .u32 ((T : Int) % 4294967296)] 91)).grown hgrow (by simp; omega) (fun k e => (HO.out.lt k e).1)
      rw [← Ev.out] at hown'
      have hO1 : OwnL w1 w.heap.size v' (L ++ [T % 4294967296]) := by
        show w1.ownsRow _ _ 1 v' (L ++ [T % 4294967296]).length (us (L ++ [T % 4294967296]))
        rw [List.length_append, us, List.map_append, hL]
        exact hown'
      have fin : ∃ (k' c' : Nat) (L' : List Nat), k' ≤ n ∧ Value.int .u64 ((T : Int) / 4294967296) = .int .u64 (c' : Int) ∧ Value.int .i64 ((k : Int) + 1) = .int .i64 (k' : Int) ∧ FIn l L' s k' c' ∧ OwnL w1 w.heap.size v' L' ∧ Below w.heap.size w w1 :=
        ⟨k + 1, T / 4294967296, _, by omega, by rw [Ed.out], by simp, St.out, hO1, hB1⟩
      have Fin := Lib.hid fin
      clear fin hown' hgrow hB1 hO1
      go_wp2
      go_roundw
      case rel => exact Fin.out
      case measure => simp [intOf]; omega
    · obtain rfl : k = n := by omega
      have hcb : (c : Int) % 4294967296 = c := by omega
      have ff : val (L ++ [c]) = val l * 2 ^ s ∧ Lb (L ++ [c]) ∧ (L ++ [c]).length = l.length + 1 := by rw [← la] at hF; exact hF.fin (by omega)
      have FF := Lib.hid ff
      clear ff hF
      go_wp2_with (at_builtin; refine wpList_append_own _ rfl (.tmp 39) (.tmp 42) 27 rfl w.heap.size 91 i0' (.int .u32 0) 1 4 Tryz.underlying27 hi hz0 hz1 hz2 rfl (by decide) _ _ _ rfl (HO.out.alloc _) ⟨wr.heap.size, 0, none⟩ 1 1 [.int .u32 (c : Int)] rfl rfl (by intro j u hj; match j, hj with | 0, hj => (simp at hj; subst hj; simp [Addr.add])) (by intro u hu; simp at hu; subst hu; rfl) (by unfold maxLen; omega) (by omega) (by simp; omega) ?_)
      intro v' w1 hown' hgrow _
      have hB1 := (HB.out.alloc (Nat.le_of_lt_succ (by omega)) (.cells #[.int .u32 (c : Int)] 91)).grown hgrow (by simp; omega) (fun k e => (HO.out.lt k e).1)
      have hO1 : OwnL w1 w.heap.size v' (L ++ [c]) := by
        show w1.ownsRow _ _ 1 v' (L ++ [c]).length (us (L ++ [c]))
        rw [List.length_append, us, List.map_append, hL]
        exact hown'
      have Fin := Lib.hid (show ∃ V L', Ending.returned v' = .returned V ∧ L'.length = k + 1 ∧ Lb L' ∧ val L' = val l * 2 ^ s ∧ OwnL w1 w.heap.size V L' ∧ Below w.heap.size w w1 from ⟨v', L ++ [c], rfl, by rw [FF.out.2.2, la], FF.out.2.1, FF.out.1, hO1, hB1⟩)
      clear hown' hgrow hB1 hO1
      go_wp2
      refine bodyPost_ret (results_tmp rfl _ _ _) rfl ?_
      exact Fin.out
end Wd
end Go.Proofs.YtmgehfakcnmdnaaGreatDoor
/-
  The walk of subtract of package wide.
-/
namespace Go.Proofs.YtmgehfakcnmdnaaGreatDoor
namespace Wd
open Go.RowKit Lw

theorem Lim.grown {A B : World} {a : Option Addr} {n cap : Nat} {l : List Nat} {g : Nat} (h : Lim A a n cap l) (hg : A.grownBy B (some g)) (hne : ∀ b off, a = some ⟨b, off, none⟩ → b ≠ g) : Lim B a n cap l :=
  ⟨h.len, h.lb, h.cp, h.sm, fun p => by
    obtain ⟨b, off, e, lt, r⟩ := h.row p
    exact ⟨b, off, e, Nat.lt_of_lt_of_le lt hg.size, fun j v hv => hg.cell (r j v hv) (by have := hne b off e; simpa using this)⟩⟩
structure SubPost (w : World) (g : Nat) (U v : List Nat) (q : Nat) (e : Ending) (w' : World) : Prop where
  e : e = .returned (.bool (decide (q * val v ≤ val U)))
  r : ∃ U', Row w' g U' ∧ U'.length = U.length ∧ Lb U' ∧ (q * val v ≤ val U → val U' + q * val v = val U)
  g : w.grownBy w' (some g)
set_option maxRecDepth 100000 in
set_option maxHeartbeats 4000000 in
theorem subtract_walk (U v : List Nat) (g cu n cv q : Nat) (D : Option Addr) (w : World) (hU : Row w g U) (bU : Lb U) (lU : U.length = n + 1) (hD : Lim w D n cv v) (hne : ∀ b off, D = some ⟨b, off, none⟩ → b ≠ g) (hq : q < 4294967296) (hn : n + 1 ≤ 1000000) :
    Calls Tryz.prog 166 #[.slice (some ⟨g, 0, none⟩) (n + 1) cu, .slice D n cv, .int .u32 (q : Int)] w (SubPost w g U v q) := by
  have lv := hD.len
  have HD := Lib.hid hD
  have HU := Lib.hid hU
  have Bv := Lib.hid hD.lb
  clear hD hU
  go_enter Tryz.func166, Tryz.ntmps166
  go_wp2
  go_loopw [7, 8, 14] (fun c br i wr => ∃ (k cc b : Nat) (L : List Nat), k ≤ n ∧ c = .int .u64 cc ∧ br = .int .u32 b ∧ i = .int .i64 k ∧ SIn U v q L k cc b ∧ Row wr g L ∧ w.grownBy wr (some g)) (fun _ _ i _ => n - (intOf i).toNat)
  case atStart => exact ⟨0, 0, 0, U, by omega, rfl, rfl, rfl, SIn.zero v q bU, HU.out, World.grownBy.refl _ _⟩
  case round =>
    obtain ⟨k, c, b, L, hk, rfl, rfl, rfl, hS, hR, hG⟩ := hrel
    have hL := hS.len
    by_cases hlt : k < n
    · have hDw := HD.out.grown hG hne
      obtain ⟨bD, oD, rfl, -, -⟩ := hDw.row (by omega)
      have cD := hDw.cell (k := k) (by omega)
      have i1 : (k : Int) < (n : Int) := by omega
      have i2 : (k : Int) < (n : Int) + 1 := by omega
      have cL := hR.cell (k := k) (by omega)
      have fL := hR.free k
      have st := hS.step (by omega) (by omega) Bv.out hq
      have lb := lb_get hS.lb (k := k) (by omega)
      have xb := lb_get Bv.out (k := k) (by omega)
      have qb := q_bd hq xb hS.c1
      have b1 := hS.b1
      have c1 := hS.c1
      generalize v[k]'(by omega) = x at cD st xb qb
      generalize L[k]'(by omega) = y at cL st lb
      have hp : q * x ≤ 4294967295 * 4294967295 := Nat.mul_le_mul (by omega) (by omega)
      have r1 : IntKind.u64.wrap ((q : Int) * (x : Int)) = ((q * x : Nat) : Int) := by rw [← Int.natCast_mul]; exact IntWalk.u64_in _ (by omega)
      generalize q * x = p at *
      have sb := fun w => sub32n y ((c + p) % 4294967296) b w lb (Nat.mod_lt _ (by decide)) b1
      generalize hvv : (y + 4294967296 - (c + p) % 4294967296 - b) % 4294967296 = vv at st sb
      generalize hkk : (if y < (c + p) % 4294967296 + b then 1 else 0 : Nat) = kk at st sb
      have em : (((c + p) % 4294967296 : Nat) : Int) = ((c : Int) + (p : Int)) % 4294967296 := by omega
      have ed : (((c + p) / 4294967296 : Nat) : Int) = ((c : Int) + (p : Int)) / 4294967296 := by omega
      rw [em] at sb
      have rs := hR.set k vv
      have gs := hG.trans (grownBy_set2 wr g k (.int .u32 (vv : Int)))
      have fin : ∃ (k' c' b' : Nat) (L' : List Nat), k' ≤ n ∧ Value.int .u64 (((c : Int) + (p : Int)) / 4294967296) = .int .u64 (c' : Int) ∧ Value.int .u32 (kk : Int) = .int .u32 (b' : Int) ∧ Value.int .i64 ((k : Int) + 1) = .int .i64 (k' : Int) ∧ SIn U v q L' k' c' b' ∧ Row (wr.setCell ⟨g, k, none⟩ (.int .u32 (vv : Int))) g L' ∧ w.grownBy (wr.setCell ⟨g, k, none⟩ (.int .u32 (vv : Int))) (some g) :=
        ⟨k + 1, _, kk, _, by omega, by rw [← ed], rfl, by simp, st, rs, gs⟩
      have Fin := Lib.hid fin
      have q1 : c + p < 18446744073709551616 := by omega
      clear qb
      clear fin rs gs st hvv hkk em ed hS hR hG hDw lb b1
      go_wp2_with (go_at_call 137; refine (sb _).mono ?_; rintro e w' ⟨rfl, rfl⟩)
      go_roundw
      case rel => exact Fin.out
      case measure => simp [intOf]; omega
    · obtain rfl : k = n := by omega
      have cL := hR.cell (k := k) (by omega)
      have fL := hR.free k
      have lb := lb_get hS.lb (k := k) (by omega)
      have la := SIn.last (u0 := U) (v := v) (u := L) (q := q) (c := c) (br := b) (by rw [lv]; exact hS) (by omega)
      have c1 := hS.c1
      have b1 := hS.b1
      simp only [lv] at la
      generalize L[k]'(by omega) = y at *
      have sb := fun w => sub32n y c b w lb c1 b1
      generalize (y + 4294967296 - c - b) % 4294967296 = vv at la sb
      generalize hkk : (if y < c + b then 1 else 0 : Nat) = kk at la sb
      have k1 : kk ≤ 1 := by rw [← hkk]; exact br_le _ _ _
      have dn := SIn.done (u0 := U) (v := v) (u' := L.set k vv) (q := q) (g := kk) (by simp; omega) (by omega) la.1 bU k1 (by rw [lv]; exact la.2)
      have rs := hR.set k vv
      have gs := hG.trans (grownBy_set2 wr g k (.int .u32 (vv : Int)))
      have ekk : ((kk : Int) == 0) = decide (q * val v ≤ val U) := by
        have h := dn.1
        rcases Nat.eq_zero_or_pos kk with e0 | e0
        · rw [decide_eq_true (h.1 e0), e0]; rfl
        · have h3 : ¬ q * val v ≤ val U := fun h2 => by have := h.2 h2; omega
          rw [decide_eq_false h3, beq_eq_false_iff_ne]
          omega
      have fin : SubPost w g U v q (.returned (.bool ((kk : Int) == 0))) (wr.setCell ⟨g, k, none⟩ (.int .u32 (vv : Int))) :=
        ⟨by rw [ekk], ⟨_, rs, by simp; omega, la.1, fun h => dn.2 (dn.1.2 h)⟩, gs⟩
      have Fin := Lib.hid fin
      clear fin rs gs dn la hkk ekk hS hR hG lb b1
      have i2 : (k : Int) < (k : Int) + 1 := by omega
      have c2 : (c : Int) % 4294967296 = c := by omega
      go_wp2_with (go_at_call 137; refine (sb _).mono ?_; rintro e w' ⟨rfl, rfl⟩)
      refine bodyPost_ret (results_tmp rfl _ _ _) rfl ?_
      exact Fin.out
end Wd
end Go.Proofs.YtmgehfakcnmdnaaGreatDoor
/-
  The library contracts that this claim uses, laid at its program: cut out of what the shelf's own program writes.
-/
namespace Go.Proofs
open Go.Shelf
def Tryz.lays133_ren : Go.Shelf.Ren := ⟨fun | 133 => 155 | 128 => 165 | n => n, fun | 51 => 91 | 3 => 3 | 4 => 4 | 46 => 92 | 5 => 5 | 9 => 9 | n => n, fun | n => n⟩
theorem Tryz.lays133 : Go.Proofs.Lays.n133 Tryz.prog Tryz.lays133_ren := {
  mixed := by kernel_rfl
  f128 := Tryz.func165.trans (congrArg some (by kernel_rfl))
  f133 := Tryz.func155.trans (congrArg some (by kernel_rfl))
  t3 := Tryz.underlying3
  a3 := Tryz.isAgg3
  z3 := Tryz.sizeOf3
  v3 := Tryz.zeroValue3
  t4 := Tryz.underlying4
  a4 := Tryz.isAgg4
  z4 := Tryz.sizeOf4
  v4 := Tryz.zeroValue4
  t5 := Tryz.underlying5
  a5 := Tryz.isAgg5
  z5 := Tryz.sizeOf5
  v5 := Tryz.zeroValue5
  t9 := Tryz.underlying9
  a9 := Tryz.isAgg9
  z9 := Tryz.sizeOf9
  v9 := Tryz.zeroValue9
  t46 := Tryz.underlying92
  a46 := Tryz.isAgg92
  z46 := Tryz.sizeOf92
  v46 := Tryz.zeroValue92
  t51 := Tryz.underlying91
  a51 := Tryz.isAgg91
  z51 := Tryz.sizeOf91
  v51 := Tryz.zeroValue91 }
/-- bits.LeadingZeros32: "LeadingZeros32 returns the number of leading zero bits in x; the result is 32 for x == 0.": IT RETURNS '32 - Lib.bitLen x'; the world is as it was. ITS CALLEE bits.Len32 IS MET BY ITS OWN CONTRACT OFF THE SHELF (lay that first): entered in place it sends the kernel out of memory. (LAID: no walk: one application.) -/
theorem Tryz.bits_LeadingZeros32 (x : Int) (w : World) (h0 : 0 ≤ x) (h1 : x ≤ 4294967295) :
    Calls Tryz.prog 155 #[.int .u32 x] w fun e w' => e = .returned (.int .i64 (32 - (Lib.bitLen x.toNat : Int))) ∧ w' = w := Any.bits_LeadingZeros32 Tryz.lays133 x w h0 h1
def Tryz.lays134_ren : Go.Shelf.Ren := ⟨fun | 134 => 68 | 129 => 102 | n => n, fun | 53 => 65 | 3 => 3 | 4 => 4 | 46 => 92 | 5 => 5 | 9 => 9 | n => n, fun | n => n⟩
theorem Tryz.lays134 : Go.Proofs.Lays.n134 Tryz.prog Tryz.lays134_ren := {
  mixed := by kernel_rfl
  f129 := Tryz.func102.trans (congrArg some (by kernel_rfl))
  f134 := Tryz.func68.trans (congrArg some (by kernel_rfl))
  t3 := Tryz.underlying3
  a3 := Tryz.isAgg3
  z3 := Tryz.sizeOf3
  v3 := Tryz.zeroValue3
  t4 := Tryz.underlying4
  a4 := Tryz.isAgg4
  z4 := Tryz.sizeOf4
  v4 := Tryz.zeroValue4
  t5 := Tryz.underlying5
  a5 := Tryz.isAgg5
  z5 := Tryz.sizeOf5
  v5 := Tryz.zeroValue5
  t9 := Tryz.underlying9
  a9 := Tryz.isAgg9
  z9 := Tryz.sizeOf9
  v9 := Tryz.zeroValue9
  t46 := Tryz.underlying92
  a46 := Tryz.isAgg92
  z46 := Tryz.sizeOf92
  v46 := Tryz.zeroValue92
  t53 := Tryz.underlying65
  a53 := Tryz.isAgg65
  z53 := Tryz.sizeOf65
  v53 := Tryz.zeroValue65 }
/-- bits.LeadingZeros64: "LeadingZeros64 returns the number of leading zero bits in x; the result is 64 for x == 0.": IT RETURNS '64 - Lib.bitLen x'; the world is as it was. ITS CALLEE bits.Len64 IS MET BY ITS OWN CONTRACT OFF THE SHELF (lay that first): entered in place it sends the kernel out of memory. (LAID: no walk: one application.) -/
theorem Tryz.bits_LeadingZeros64 (x : Int) (w : World) (h0 : 0 ≤ x) (h1 : x ≤ 18446744073709551615) :
    Calls Tryz.prog 68 #[.int .u64 x] w fun e w' => e = .returned (.int .i64 (64 - (Lib.bitLen x.toNat : Int))) ∧ w' = w := Any.bits_LeadingZeros64 Tryz.lays134 x w h0 h1
def Tryz.laysM173_ren : Go.Shelf.Ren := ⟨fun | 173 => 66 | 246 => 95 | 283 => 127 | 284 => 128 | 285 => 129 | 286 => 130 | 129 => 102 | 317 => 147 | 318 => 148 | 319 => 149 | 320 => 150 | 337 => 162 | 338 => 163 | n => n, fun | 2 => 2 | 3 => 3 | 9 => 9 | 4 => 4 | 171 => 161 | 0 => 0 | 53 => 65 | 37 => 103 | 5 => 5 | 173 => 163 | 212 => 180 | 51 => 91 | 20 => 20 | 213 => 181 | 46 => 92 | 232 => 200 | 233 => 201 | n => n, fun | 17 => 5 | 18 => 6 | 19 => 7 | n => n⟩
theorem Tryz.laysM173 : Go.Proofs.LaysM.n173 Tryz.prog Tryz.laysM173_ren := {
  mixed := by kernel_rfl
  f129 := Tryz.func102.trans (congrArg some (by kernel_rfl))
  f173 := Tryz.func66.trans (congrArg some (by kernel_rfl))
  f246 := Tryz.func95.trans (congrArg some (by kernel_rfl))
  f283 := Tryz.func127.trans (congrArg some (by kernel_rfl))
  f284 := Tryz.func128.trans (congrArg some (by kernel_rfl))
  f285 := Tryz.func129.trans (congrArg some (by kernel_rfl))
  f286 := Tryz.func130.trans (congrArg some (by kernel_rfl))
  f317 := Tryz.func147.trans (congrArg some (by kernel_rfl))
  f318 := Tryz.func148.trans (congrArg some (by kernel_rfl))
  f319 := Tryz.func149.trans (congrArg some (by kernel_rfl))
  f320 := Tryz.func150.trans (congrArg some (by kernel_rfl))
  f337 := Tryz.func162.trans (congrArg some (by kernel_rfl))
  f338 := Tryz.func163.trans (congrArg some (by kernel_rfl))
  t0 := Tryz.underlying0
  a0 := Tryz.isAgg0
  z0 := Tryz.sizeOf0
  v0 := Tryz.zeroValue0
  t2 := Tryz.underlying2
  a2 := Tryz.isAgg2
  z2 := Tryz.sizeOf2
  v2 := Tryz.zeroValue2
  t3 := Tryz.underlying3
  a3 := Tryz.isAgg3
  z3 := Tryz.sizeOf3
  v3 := Tryz.zeroValue3
  t4 := Tryz.underlying4
  a4 := Tryz.isAgg4
  z4 := Tryz.sizeOf4
  v4 := Tryz.zeroValue4
  t5 := Tryz.underlying5
  a5 := Tryz.isAgg5
  z5 := Tryz.sizeOf5
  v5 := Tryz.zeroValue5
  t9 := Tryz.underlying9
  a9 := Tryz.isAgg9
  z9 := Tryz.sizeOf9
  v9 := Tryz.zeroValue9
  t20 := Tryz.underlying20
  a20 := Tryz.isAgg20
  z20 := Tryz.sizeOf20
  v20 := Tryz.zeroValue20
  t37 := Tryz.underlying103
  a37 := Tryz.isAgg103
  z37 := Tryz.sizeOf103
  v37 := Tryz.zeroValue103
  t46 := Tryz.underlying92
  a46 := Tryz.isAgg92
  z46 := Tryz.sizeOf92
  v46 := Tryz.zeroValue92
  t51 := Tryz.underlying91
  a51 := Tryz.isAgg91
  z51 := Tryz.sizeOf91
  v51 := Tryz.zeroValue91
  t53 := Tryz.underlying65
  a53 := Tryz.isAgg65
  z53 := Tryz.sizeOf65
  v53 := Tryz.zeroValue65
  t171 := Tryz.underlying161
  a171 := Tryz.isAgg161
  z171 := Tryz.sizeOf161
  v171 := Tryz.zeroValue161
  t173 := Tryz.underlying163
  a173 := Tryz.isAgg163
  z173 := Tryz.sizeOf163
  v173 := Tryz.zeroValue163
  t212 := Tryz.underlying180
  a212 := Tryz.isAgg180
  z212 := Tryz.sizeOf180
  v212 := Tryz.zeroValue180
  t213 := Tryz.underlying181
  a213 := Tryz.isAgg181
  z213 := Tryz.sizeOf181
  t232 := Tryz.underlying200
  a232 := Tryz.isAgg200
  z232 := Tryz.sizeOf200
  v232 := Tryz.zeroValue200
  t233 := Tryz.underlying201
  a233 := Tryz.isAgg201
  z233 := Tryz.sizeOf201
  v233 := Tryz.zeroValue201
  g17 := by kernel_rfl
  g18 := by kernel_rfl
  g19 := by kernel_rfl
  i0 := by kernel_rfl
  i2 := by kernel_rfl
  i3 := by kernel_rfl
  i4 := by kernel_rfl
  i5 := by kernel_rfl
  i9 := by kernel_rfl
  i20 := by kernel_rfl
  i37 := by kernel_rfl
  i46 := by kernel_rfl
  i51 := by kernel_rfl
  i53 := by kernel_rfl
  i171 := by kernel_rfl
  i173 := by kernel_rfl
  i212 := by kernel_rfl
  i232 := by kernel_rfl
  i233 := by kernel_rfl
  m17 := by kernel_rfl
  m18 := by kernel_rfl
  m19 := by kernel_rfl }
open Go.RowKit Go.Sort Go.Lib in
/-- strconv.FormatInt: "FormatInt returns the string representation of i in the given base": AT BASE 10: i's decimal numeral, for every int64. (LAID: no walk: one application.) -/
theorem Tryz.strconv_FormatInt_10 (n : Int) (h0 : -9223372036854775808 ≤ n) (h1 : n ≤ 9223372036854775807) (w : World) (htab : Lib.TabIs Tryz.prog w "internal/strconv.uint64pow10" .u64 Lib.pow10Tab) :
    Calls Tryz.prog 66 #[.int .i64 n, .int .i64 10] w fun e w' => e = .returned (.string ⟨(Lib.itoa n).toArray⟩) ∧ ∃ k os, w' = grow (w.drewN k) os := Any.strconv_FormatInt_10 Tryz.laysM173 n h0 h1 w htab
def Tryz.laysPu14_ren : Go.Shelf.Ren := ⟨fun | 14 => 65 | 16 => 93 | 17 => 94 | 19 => 121 | 20 => 122 | 21 => 123 | 22 => 124 | 23 => 125 | 24 => 126 | 25 => 144 | 27 => 146 | 26 => 145 | 28 => 161 | 29 => 95 | 30 => 127 | 31 => 128 | 32 => 129 | 33 => 130 | 35 => 102 | 34 => 147 | 36 => 148 | 37 => 149 | 38 => 150 | 39 => 162 | 40 => 163 | n => n, fun | 9 => 9 | 3 => 3 | 22 => 65 | 24 => 106 | 25 => 107 | 4 => 4 | 34 => 155 | 5 => 5 | 36 => 92 | 37 => 103 | 0 => 0 | 39 => 158 | 21 => 21 | 44 => 177 | 47 => 167 | 50 => 196 | 48 => 194 | 2 => 2 | 52 => 161 | 55 => 163 | 59 => 180 | 60 => 91 | 20 => 20 | 61 => 181 | 65 => 200 | 66 => 201 | 67 => 141 | n => n, fun | 0 => 3 | 1 => 4 | 2 => 5 | 3 => 6 | 4 => 7 | n => n⟩
theorem Tryz.laysPu14 : Go.Proofs.LaysPu.n14 Tryz.prog Tryz.laysPu14_ren := {
  mixed := by kernel_rfl
  f14 := Tryz.func65.trans (congrArg some (by kernel_rfl))
  f16 := Tryz.func93.trans (congrArg some (by kernel_rfl))
  f17 := Tryz.func94.trans (congrArg some (by kernel_rfl))
  f19 := Tryz.func121.trans (congrArg some (by kernel_rfl))
  f20 := Tryz.func122.trans (congrArg some (by kernel_rfl))
  f21 := Tryz.func123.trans (congrArg some (by kernel_rfl))
  f22 := Tryz.func124.trans (congrArg some (by kernel_rfl))
  f23 := Tryz.func125.trans (congrArg some (by kernel_rfl))
  f24 := Tryz.func126.trans (congrArg some (by kernel_rfl))
  f25 := Tryz.func144.trans (congrArg some (by kernel_rfl))
  f26 := Tryz.func145.trans (congrArg some (by kernel_rfl))
  f27 := Tryz.func146.trans (congrArg some (by kernel_rfl))
  f28 := Tryz.func161.trans (congrArg some (by kernel_rfl))
  f29 := Tryz.func95.trans (congrArg some (by kernel_rfl))
  f30 := Tryz.func127.trans (congrArg some (by kernel_rfl))
  f31 := Tryz.func128.trans (congrArg some (by kernel_rfl))
  f32 := Tryz.func129.trans (congrArg some (by kernel_rfl))
  f33 := Tryz.func130.trans (congrArg some (by kernel_rfl))
  f34 := Tryz.func147.trans (congrArg some (by kernel_rfl))
  f35 := Tryz.func102.trans (congrArg some (by kernel_rfl))
  f36 := Tryz.func148.trans (congrArg some (by kernel_rfl))
  f37 := Tryz.func149.trans (congrArg some (by kernel_rfl))
  f38 := Tryz.func150.trans (congrArg some (by kernel_rfl))
  f39 := Tryz.func162.trans (congrArg some (by kernel_rfl))
  f40 := Tryz.func163.trans (congrArg some (by kernel_rfl))
  t0 := Tryz.underlying0
  a0 := Tryz.isAgg0
  z0 := Tryz.sizeOf0
  v0 := Tryz.zeroValue0
  i0 := by kernel_rfl
  t2 := Tryz.underlying2
  a2 := Tryz.isAgg2
  z2 := Tryz.sizeOf2
  v2 := Tryz.zeroValue2
  i2 := by kernel_rfl
  t3 := Tryz.underlying3
  a3 := Tryz.isAgg3
  z3 := Tryz.sizeOf3
  v3 := Tryz.zeroValue3
  i3 := by kernel_rfl
  t4 := Tryz.underlying4
  a4 := Tryz.isAgg4
  z4 := Tryz.sizeOf4
  v4 := Tryz.zeroValue4
  i4 := by kernel_rfl
  t5 := Tryz.underlying5
  a5 := Tryz.isAgg5
  z5 := Tryz.sizeOf5
  v5 := Tryz.zeroValue5
  i5 := by kernel_rfl
  t9 := Tryz.underlying9
  a9 := Tryz.isAgg9
  z9 := Tryz.sizeOf9
  v9 := Tryz.zeroValue9
  i9 := by kernel_rfl
  t20 := Tryz.underlying20
  a20 := Tryz.isAgg20
  z20 := Tryz.sizeOf20
  v20 := Tryz.zeroValue20
  i20 := by kernel_rfl
  t21 := Tryz.underlying21
  a21 := Tryz.isAgg21
  z21 := Tryz.sizeOf21
  v21 := Tryz.zeroValue21
  i21 := by kernel_rfl
  t22 := Tryz.underlying65
  a22 := Tryz.isAgg65
  z22 := Tryz.sizeOf65
  v22 := Tryz.zeroValue65
  i22 := by kernel_rfl
  t24 := Tryz.underlying106
  a24 := Tryz.isAgg106
  z24 := Tryz.sizeOf106
  v24 := Tryz.zeroValue106
  i24 := by kernel_rfl
  t25 := Tryz.underlying107
  a25 := Tryz.isAgg107
  z25 := Tryz.sizeOf107
  v25 := Tryz.zeroValue107
  i25 := by kernel_rfl
  t34 := Tryz.underlying155
  a34 := Tryz.isAgg155
  z34 := Tryz.sizeOf155
  v34 := Tryz.zeroValue155
  i34 := by kernel_rfl
  c34 := by kernel_rfl
  t36 := Tryz.underlying92
  a36 := Tryz.isAgg92
  z36 := Tryz.sizeOf92
  v36 := Tryz.zeroValue92
  i36 := by kernel_rfl
  t37 := Tryz.underlying103
  a37 := Tryz.isAgg103
  z37 := Tryz.sizeOf103
  v37 := Tryz.zeroValue103
  i37 := by kernel_rfl
  t39 := Tryz.underlying158
  a39 := Tryz.isAgg158
  z39 := Tryz.sizeOf158
  v39 := Tryz.zeroValue158
  i39 := by kernel_rfl
  t44 := Tryz.underlying177
  a44 := Tryz.isAgg177
  z44 := Tryz.sizeOf177
  v44 := Tryz.zeroValue177
  i44 := by kernel_rfl
  t47 := Tryz.underlying167
  a47 := Tryz.isAgg167
  z47 := Tryz.sizeOf167
  v47 := Tryz.zeroValue167
  i47 := by kernel_rfl
  t48 := Tryz.underlying194
  a48 := Tryz.isAgg194
  z48 := Tryz.sizeOf194
  v48 := Tryz.zeroValue194
  i48 := by kernel_rfl
  t50 := Tryz.underlying196
  a50 := Tryz.isAgg196
  z50 := Tryz.sizeOf196
  v50 := Tryz.zeroValue196
  i50 := by kernel_rfl
  t52 := Tryz.underlying161
  a52 := Tryz.isAgg161
  z52 := Tryz.sizeOf161
  v52 := Tryz.zeroValue161
  i52 := by kernel_rfl
  t55 := Tryz.underlying163
  a55 := Tryz.isAgg163
  z55 := Tryz.sizeOf163
  v55 := Tryz.zeroValue163
  i55 := by kernel_rfl
  t59 := Tryz.underlying180
  a59 := Tryz.isAgg180
  z59 := Tryz.sizeOf180
  v59 := Tryz.zeroValue180
  i59 := by kernel_rfl
  t60 := Tryz.underlying91
  a60 := Tryz.isAgg91
  z60 := Tryz.sizeOf91
  v60 := Tryz.zeroValue91
  i60 := by kernel_rfl
  t61 := Tryz.underlying181
  a61 := Tryz.isAgg181
  z61 := Tryz.sizeOf181
  t65 := Tryz.underlying200
  a65 := Tryz.isAgg200
  z65 := Tryz.sizeOf200
  v65 := Tryz.zeroValue200
  i65 := by kernel_rfl
  t66 := Tryz.underlying201
  a66 := Tryz.isAgg201
  z66 := Tryz.sizeOf201
  v66 := Tryz.zeroValue201
  i66 := by kernel_rfl
  t67 := Tryz.underlying141
  a67 := Tryz.isAgg141
  z67 := Tryz.sizeOf141
  v67 := Tryz.zeroValue141
  i67 := by kernel_rfl
  g0 := by kernel_rfl
  m0 := by kernel_rfl
  g1 := by kernel_rfl
  m1 := by kernel_rfl
  g2 := by kernel_rfl
  m2 := by kernel_rfl
  g3 := by kernel_rfl
  m3 := by kernel_rfl
  g4 := by kernel_rfl
  m4 := by kernel_rfl }
open Go.RowKit in
/-- strconv.ParseUint(s, 10, 64), AT EVERY STRING THAT SPELLS A uint64 ('Lib.parseUintB 64 s.data.toList = .ok u'): u, AND NO ERROR. (LAID: no walk: one application.) -/
theorem Tryz.strconv_ParseUint_10_at64_ok (s : ByteArray) (hmax : s.size ≤ 9223372036854775806) (u : Nat) (h : Lib.parseUintB 64 s.data.toList = .ok u) (w : World) :
    Calls Tryz.prog 65 #[.string s, .int .i64 10, .int .i64 64] w fun e w' => e = .returned (.tuple #[.int .u64 u, .nilIface]) ∧ (w' = w ∨ w' = Lib.bytesWorld w 5 s) := Any.strconv_ParseUint_10_at64_ok Tryz.laysPu14 s hmax u h w
def Tryz.lays219_ren : Go.Shelf.Ren := ⟨fun | 219 => 120 | 217 => 140 | 225 => 141 | 224 => 142 | 267 => 143 | 266 => 159 | 314 => 160 | n => n, fun | 9 => 9 | 3 => 3 | 4 => 4 | 5 => 5 | 46 => 92 | 146 => 165 | 51 => 91 | n => n, fun | 1 => 2 | n => n⟩
theorem Tryz.lays219 : Go.Proofs.Lays.n219 Tryz.prog Tryz.lays219_ren := {
  mixed := by kernel_rfl
  f217 := Tryz.func140.trans (congrArg some (by kernel_rfl))
  f219 := Tryz.func120.trans (congrArg some (by kernel_rfl))
  f224 := Tryz.func142.trans (congrArg some (by kernel_rfl))
  f225 := Tryz.func141.trans (congrArg some (by kernel_rfl))
  f266 := Tryz.func159.trans (congrArg some (by kernel_rfl))
  f267 := Tryz.func143.trans (congrArg some (by kernel_rfl))
  f314 := Tryz.func160.trans (congrArg some (by kernel_rfl))
  t3 := Tryz.underlying3
  a3 := Tryz.isAgg3
  z3 := Tryz.sizeOf3
  v3 := Tryz.zeroValue3
  t4 := Tryz.underlying4
  a4 := Tryz.isAgg4
  z4 := Tryz.sizeOf4
  v4 := Tryz.zeroValue4
  t5 := Tryz.underlying5
  a5 := Tryz.isAgg5
  z5 := Tryz.sizeOf5
  v5 := Tryz.zeroValue5
  t9 := Tryz.underlying9
  a9 := Tryz.isAgg9
  z9 := Tryz.sizeOf9
  v9 := Tryz.zeroValue9
  t46 := Tryz.underlying92
  a46 := Tryz.isAgg92
  z46 := Tryz.sizeOf92
  v46 := Tryz.zeroValue92
  t51 := Tryz.underlying91
  a51 := Tryz.isAgg91
  z51 := Tryz.sizeOf91
  v51 := Tryz.zeroValue91
  t146 := Tryz.underlying165
  a146 := Tryz.isAgg165
  z146 := Tryz.sizeOf165
  v146 := Tryz.zeroValue165
  g1 := by kernel_rfl }
open Go.RowKit Go.Lib in
/-- internal/stringslite.Index (what strings.Index calls) AT A substr OF ONE BYTE c: IT RETURNS 'Lib.indexByte s c'; the world is as it was. (LAID: no walk: one application.) -/
theorem Tryz.stringslite_Index_one (s : ByteArray) (c : UInt8) (w : World) :
    Calls Tryz.prog 120 #[.string s, .string ⟨#[c]⟩] w fun e w' => e = .returned (.int .i64 (Lib.indexByte s.data.toList c)) ∧ w' = w := Any.stringslite_Index_one Tryz.lays219 s c w
open Go.RowKit Go.Lib in
def Tryz.lays207_ren : Go.Shelf.Ren := ⟨fun | 207 => 119 | n => n, fun | 9 => 9 | 4 => 4 | 3 => 3 | n => n, fun | n => n⟩
theorem Tryz.lays207 : Go.Proofs.Lays.n207 Tryz.prog Tryz.lays207_ren := {
  mixed := by kernel_rfl
  f207 := Tryz.func119.trans (congrArg some (by kernel_rfl))
  t3 := Tryz.underlying3
  a3 := Tryz.isAgg3
  z3 := Tryz.sizeOf3
  v3 := Tryz.zeroValue3
  t4 := Tryz.underlying4
  a4 := Tryz.isAgg4
  z4 := Tryz.sizeOf4
  v4 := Tryz.zeroValue4
  t9 := Tryz.underlying9
  a9 := Tryz.isAgg9
  z9 := Tryz.sizeOf9
  v9 := Tryz.zeroValue9 }
open Go.RowKit Go.Lib in
/-- internal/stringslite.HasSuffix (what strings.HasSuffix calls). (LAID: no walk: one application.) -/
theorem Tryz.stringslite_HasSuffix (s p : ByteArray) (w : World) (hs : s.size ≤ 9223372036854775807) :
    Calls Tryz.prog 119 #[.string s, .string p] w fun e w' => e = .returned (.bool (Lib.hasSuffix s.data.toList p.data.toList)) ∧ w' = w := Any.stringslite_HasSuffix Tryz.lays207 s p w hs
def Tryz.lays264_ren : Go.Shelf.Ren := ⟨fun | 264 => 35 | n => n, fun | 53 => 65 | 46 => 92 | n => n, fun | n => n⟩
theorem Tryz.lays264 : Go.Proofs.Lays.n264 Tryz.prog Tryz.lays264_ren := {
  mixed := by kernel_rfl
  f264 := Tryz.func35.trans (congrArg some (by kernel_rfl))
  t46 := Tryz.underlying92
  a46 := Tryz.isAgg92
  z46 := Tryz.sizeOf92
  v46 := Tryz.zeroValue92
  t53 := Tryz.underlying65
  a53 := Tryz.isAgg65
  z53 := Tryz.sizeOf65
  v53 := Tryz.zeroValue65 }
open Go.RowKit Go.Lib in
theorem Tryz.bits_Mul64 (x y : Nat) (hx : x < 18446744073709551616) (hy : y < 18446744073709551616) (w : World) :
    Calls Tryz.prog 35 #[.int .u64 x, .int .u64 y] w fun e w' => e = .returned (.tuple #[.int .u64 ((x * y / 18446744073709551616 : Nat) : Int), .int .u64 ((x * y % 18446744073709551616 : Nat) : Int)]) ∧ w' = w := Any.bits_Mul64 Tryz.lays264 x y hx hy w
def Tryz.lays105_ren : Go.Shelf.Ren := ⟨fun | 105 => 67 | 212 => 96 | 99 => 97 | 165 => 98 | 166 => 99 | 170 => 100 | 169 => 101 | 263 => 131 | 264 => 35 | 206 => 132 | 240 => 133 | 241 => 134 | 276 => 151 | 277 => 152 | n => n, fun | 9 => 9 | 3 => 3 | 4 => 4 | 20 => 20 | 0 => 0 | 46 => 92 | 109 => 131 | 5 => 5 | 72 => 136 | 76 => 138 | 51 => 91 | 146 => 165 | 53 => 65 | 148 => 66 | 70 => 134 | 37 => 103 | 75 => 106 | 127 => 167 | 164 => 183 | 80 => 141 | n => n, fun | n => n⟩
theorem Tryz.lays105 : Go.Proofs.Lays.n105 Tryz.prog Tryz.lays105_ren := {
  mixed := by kernel_rfl
  f99 := Tryz.func97.trans (congrArg some (by kernel_rfl))
  f105 := Tryz.func67.trans (congrArg some (by kernel_rfl))
  f165 := Tryz.func98.trans (congrArg some (by kernel_rfl))
  f166 := Tryz.func99.trans (congrArg some (by kernel_rfl))
  f169 := Tryz.func101.trans (congrArg some (by kernel_rfl))
  f170 := Tryz.func100.trans (congrArg some (by kernel_rfl))
  f206 := Tryz.func132.trans (congrArg some (by kernel_rfl))
  f212 := Tryz.func96.trans (congrArg some (by kernel_rfl))
  f240 := Tryz.func133.trans (congrArg some (by kernel_rfl))
  f241 := Tryz.func134.trans (congrArg some (by kernel_rfl))
  f263 := Tryz.func131.trans (congrArg some (by kernel_rfl))
  f264 := Tryz.func35.trans (congrArg some (by kernel_rfl))
  f276 := Tryz.func151.trans (congrArg some (by kernel_rfl))
  f277 := Tryz.func152.trans (congrArg some (by kernel_rfl))
  t0 := Tryz.underlying0
  a0 := Tryz.isAgg0
  z0 := Tryz.sizeOf0
  v0 := Tryz.zeroValue0
  t3 := Tryz.underlying3
  a3 := Tryz.isAgg3
  z3 := Tryz.sizeOf3
  v3 := Tryz.zeroValue3
  t4 := Tryz.underlying4
  a4 := Tryz.isAgg4
  z4 := Tryz.sizeOf4
  v4 := Tryz.zeroValue4
  t5 := Tryz.underlying5
  a5 := Tryz.isAgg5
  z5 := Tryz.sizeOf5
  v5 := Tryz.zeroValue5
  t9 := Tryz.underlying9
  a9 := Tryz.isAgg9
  z9 := Tryz.sizeOf9
  v9 := Tryz.zeroValue9
  t20 := Tryz.underlying20
  a20 := Tryz.isAgg20
  z20 := Tryz.sizeOf20
  v20 := Tryz.zeroValue20
  t37 := Tryz.underlying103
  a37 := Tryz.isAgg103
  z37 := Tryz.sizeOf103
  v37 := Tryz.zeroValue103
  t46 := Tryz.underlying92
  a46 := Tryz.isAgg92
  z46 := Tryz.sizeOf92
  v46 := Tryz.zeroValue92
  t51 := Tryz.underlying91
  a51 := Tryz.isAgg91
  z51 := Tryz.sizeOf91
  v51 := Tryz.zeroValue91
  t53 := Tryz.underlying65
  a53 := Tryz.isAgg65
  z53 := Tryz.sizeOf65
  v53 := Tryz.zeroValue65
  t70 := Tryz.underlying134
  a70 := Tryz.isAgg134
  z70 := Tryz.sizeOf134
  v70 := Tryz.zeroValue134
  t72 := Tryz.underlying136
  a72 := Tryz.isAgg136
  z72 := Tryz.sizeOf136
  v72 := Tryz.zeroValue136
  t75 := Tryz.underlying106
  a75 := Tryz.isAgg106
  z75 := Tryz.sizeOf106
  v75 := Tryz.zeroValue106
  t76 := Tryz.underlying138
  a76 := Tryz.isAgg138
  z76 := Tryz.sizeOf138
  v76 := Tryz.zeroValue138
  t109 := Tryz.underlying131
  a109 := Tryz.isAgg131
  z109 := Tryz.sizeOf131
  v109 := Tryz.zeroValue131
  t127 := Tryz.underlying167
  a127 := Tryz.isAgg167
  z127 := Tryz.sizeOf167
  v127 := Tryz.zeroValue167
  t146 := Tryz.underlying165
  a146 := Tryz.isAgg165
  z146 := Tryz.sizeOf165
  v146 := Tryz.zeroValue165
  t148 := Tryz.underlying66
  a148 := Tryz.isAgg66
  z148 := Tryz.sizeOf66
  v148 := Tryz.zeroValue66
  t164 := Tryz.underlying183
  a164 := Tryz.isAgg183
  z164 := Tryz.sizeOf183
  v164 := Tryz.zeroValue183 }
theorem Tryz.Builder_Extra_105 : Builder.Extra Tryz.prog Tryz.lays105_ren := {
  sizeBuilder := by kernel_rfl
  liesBuilder := by kernel_rfl
  t5 := Tryz.underlying5
  a5 := Tryz.isAgg5
  z5 := Tryz.sizeOf5
  v5 := Tryz.zeroValue5
  infoByte := by kernel_rfl
  cellsByte := by kernel_rfl
  sizeByte := by kernel_rfl
  neB5 := by decide }
open Go.RowKit Go.Lib in
/-- **strings.Repeat: count ≥ 0, the result within one allocation: count copies of s.** (LAID: no walk: one application.) -/
theorem Tryz.strings_Repeat (s : ByteArray) (c : Nat) (w : World) (hc : c ≤ 9223372036854775807) (hlen : s.size * c ≤ 140737488355328) :
    Calls Tryz.prog 67 #[.string s, .int .i64 c] w fun e w' => e = .returned (.string ⟨(Lib.repeatL s.data.toList c).toArray⟩) ∧ Below w.heap.size w w' := Any.strings_Repeat Tryz.lays105 Tryz.Builder_Extra_105 s c w hc hlen
def Tryz.laysSlE041_f138_ren : Go.Shelf.Ren := ⟨fun | 41 => 138 | n => n, fun | 22 => 27 | 23 => 91 | 4 => 4 | n => n, fun | n => n⟩
theorem Tryz.laysSlE041_f138 : Go.Proofs.SlLaysE0.n41 Tryz.prog Tryz.laysSlE041_f138_ren := {
  mixed := by kernel_rfl
  f41 := ⟨Tryz.f138.name, by decide, Tryz.func138.trans (congrArg some (by kernel_rfl))⟩
  t4 := Tryz.underlying4
  a4 := Tryz.isAgg4
  z4 := Tryz.sizeOf4
  v4 := Tryz.zeroValue4
  t22 := Tryz.underlying27
  a22 := Tryz.isAgg27
  z22 := Tryz.sizeOf27
  v22 := Tryz.zeroValue27 }
open Go.RowKit Go.Lib in
/-- slices.Clone: "Clone returns a copy of the slice. The elements are copied using assignment, so this is a shallow clone. The result may have additional unused capacity. The result preserves the nilness of s.": OF A SLICE THAT IS NOT nil IT RETURNS A SLICE THAT IS NOT nil, OF THE SAME CELLS, IN MEMORY OF THE CALL's OWN ('ownsRow': the how-to's 6f); below the heap's size at the call all is as it was. (LAID AT THE INSTANCE 'slices.Clone[[]uint32,uint32]': no walk: one application.) -/
theorem Tryz.slices_Clone (i0 : TypeInfo) (z : Value) (size bytes : Nat) (hi : Tryz.prog.info? 91 = some i0) (hz0 : i0.zero = some z) (hz1 : i0.size = size) (hz2 : i0.bytes = bytes) (hzs : z.cells.size = size) (hsz : 0 < size) (z23 : ∀ w, (Go.sizeOf 91).run Tryz.prog w = .ok size w) (b off n c : Nat) (news : List Value) (w : World) (hl : news.length = n * size) (hn : n ≤ maxLen) (hbig : n * bytes ≤ 140737488355328) (hc : ∀ j u, news[j]? = some u → w.cell? ⟨b, off + j, none⟩ = some u) (h1 : ∀ u ∈ news, u.oneCell' = true) :
    Calls Tryz.prog 138 #[.slice (some ⟨b, off, none⟩) n c] w fun e w' => ∃ v', e = .returned v' ∧ w'.ownsRow w.heap.size 91 size v' n news ∧ v' ≠ .slice none 0 0 ∧ Below w.heap.size w w' := AnyE.slices_Clone Tryz.laysSlE041_f138 i0 z size bytes hi hz0 hz1 hz2 hzs hsz z23 b off n c news w hl hn hbig hc h1
open Go.RowKit Go.Lib in
/-- The same at nil: nil comes back; the world is as it was; nothing is asked of the element's type. (LAID AT THE INSTANCE 'slices.Clone[[]uint32,uint32]': no walk: one application.) -/
theorem Tryz.slices_Clone_nil (n c : Nat) (w : World) :
    Calls Tryz.prog 138 #[.slice none n c] w fun e w' => e = .returned (.slice none 0 0) ∧ w' = w := AnyE.slices_Clone_nil Tryz.laysSlE041_f138 n c w
end Go.Proofs
/-
  slices.Clone of limbs, and LeadingZeros32.
-/
namespace Go.Proofs.YtmgehfakcnmdnaaGreatDoor
namespace Wd
open Go.RowKit Lw

theorem quiet_more {P : Program} {f : FuncId} {args : Array Value} {w : World} {n : Nat} {v : Value} (h : ∀ w : World, Calls P f args w fun e w' => e = .returned v ∧ ∃ m, w' = w.drewN m) :
    Calls P f args (w.drewN n) fun e w'' => e = .returned v ∧ ∃ m, w'' = w.drewN m :=
  (h (w.drewN n)).mono fun _ _ ⟨he, m, hm⟩ => ⟨he, n + m, by rw [hm]; simp only [World.drewN, Nat.add_assoc]⟩
theorem quiet_add_more {P : Program} {f : FuncId} {args : Array Value} {w : World} {a n : Nat} {v : Value} (h : ∀ w : World, Calls P f args w fun e w' => e = .returned v ∧ ∃ m, w' = w.drewN m) :
    Calls P f args (w.drewN (a + n)) fun e w'' => e = .returned v ∧ ∃ m, w'' = w.drewN (a + m) :=
  (h (w.drewN (a + n))).mono fun _ _ ⟨he, m, hm⟩ => ⟨he, n + m, by rw [hm]; simp only [World.drewN, Nat.add_assoc]⟩
theorem sz4 (w : World) : (sizeOf 91).run Tryz.prog w = .ok 1 w := by
  obtain ⟨i, hi, hzz⟩ := Option.map_eq_some_iff.1 info4
  simp only [Prod.mk.injEq] at hzz
  have c : Tryz.prog.cellsOf 91 = 1 := by kernel_rfl
  rw [run_sizeOf _ hi, c]
/-- slices.Clone: limbs of one's own. -/
theorem clone_walk (l : List Nat) (A : Option Addr) (n cap : Nat) (w : World) (hA : Lim w A n cap l) (h0 : 0 < n) :
    Calls Tryz.prog 138 #[.slice A n cap] w fun e w' => ∃ V, e = .returned V ∧ OwnL w' w.heap.size V l ∧ Below w.heap.size w w' := by
  obtain ⟨i, hi, hzz⟩ := Option.map_eq_some_iff.1 info4
  simp only [Prod.mk.injEq] at hzz
  obtain ⟨hz, hs, hb⟩ := hzz
  have la := hA.len
  have sa := hA.sm
  obtain ⟨b, off, rfl, _, r⟩ := hA.row h0
  refine (Tryz.slices_Clone i _ 1 4 hi hz hs hb rfl (by decide) sz4 b off n cap (us l) w (by simp [us, la]) (by unfold maxLen; omega) (by omega) (fun j u hu => r j u hu) (fun u hu => by obtain ⟨x, _, rfl⟩ := List.mem_map.1 hu; rfl)).mono ?_
  rintro e w' ⟨v', rfl, ho, _, hbl⟩
  rw [← la] at ho
  exact ⟨v', rfl, ho, hbl⟩
end Wd
end Go.Proofs.YtmgehfakcnmdnaaGreatDoor
