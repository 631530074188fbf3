/-
  Lemmas and walks, texts joined: TKPt, ShelfK, TKSrt, TKMsk, TKAdd, TKLst, TKMx, TKMax, TKFnd, TKIns, TKSm, WCmp, WShort, WRowM.
-/
import Derived.Shelf.SlicesQ.Contains
import Derived.Shelf.SlicesQ.IndexFunc
import Derived.Shelf.SlSortCmp.Whole1
import Derived.Shelf.Spec.TrailingZeros
import Derived.Shelf.SlSortCmp.NoneTotal
import Derived.Laws.Bits64b
import Derived.LoopTactic
import Derived.Laws.StructEq
import Derived.RangeFuncWrites
import Derived.Maps.AppendAt
import Derived.Deep.AppendLies
import Derived.Test.YtjgcbeihgeaimaaGreatDoorTa05
import Derived.Test.YtjgcbeihgeaimaaGreatDoorProg
import Derived.Test.YtjgcbeihgeaimaaGreatDoorTa04
import Derived.Test.YtjgcbeihgeaimaaGreatDoorTa03
import Derived.Test.YtjgcbeihgeaimaaGreatDoorTa02
set_option linter.unusedSimpArgs false
set_option linter.unusedVariables false
/-
  The reference's tracklets: Part, before.
-/
namespace Go.Proofs.YtjgcbeihgeaimaaGreatDoor
namespace Tk
theorem gre_drop {s t : List Nat} {n k : Nat} (hn : n < s.length) (hk : k < t.length) : gre (s.drop n) (t.drop k) = if s[n] = t[k] then gre (s.drop (n + 1)) (t.drop (k + 1)) else gre (s.drop n) (t.drop (k + 1)) := by
  rw [List.drop_eq_getElem_cons hn, List.drop_eq_getElem_cons hk, gre]
theorem gre_full {s t : List Nat} {n k : Nat} (hn : s.length ≤ n) (hk : k < t.length) : gre (s.drop n) (t.drop k) = gre (s.drop n) (t.drop (k + 1)) := by
  rw [List.drop_eq_nil_of_le hn, gre, gre]
theorem gre_end {s t : List Nat} {n k : Nat} (hk : t.length ≤ k) (hn : n ≤ s.length) : gre (s.drop n) (t.drop k) = [] ↔ n = s.length := by
  rw [List.drop_eq_nil_of_le hk]
  rcases Nat.lt_or_ge n s.length with h | h
  · rw [List.drop_eq_getElem_cons h, gre]
    constructor
    · intro e; cases e
    · intro e; omega
  · rw [List.drop_eq_nil_of_le h, gre]
    exact ⟨fun _ => by omega, fun _ => rfl⟩
theorem lt_drop {s t : List Nat} {i : Nat} (hs : i < s.length) (ht : i < t.length) : ltL (s.drop i) (t.drop i) = if s[i] = t[i] then ltL (s.drop (i + 1)) (t.drop (i + 1)) else decide (s[i] < t[i]) := by
  rw [List.drop_eq_getElem_cons hs, List.drop_eq_getElem_cons ht, ltL]
theorem lt_end {s t : List Nat} {i : Nat} (hs : i ≤ s.length) (ht : i ≤ t.length) (h : s.length ≤ i ∨ t.length ≤ i) : ltL (s.drop i) (t.drop i) = decide (s.length < t.length) := by
  rcases Nat.lt_or_ge i t.length with c | c
  · have e : s.length = i := by omega
    rw [List.drop_eq_nil_of_le (by omega), List.drop_eq_getElem_cons c, ltL, decide_eq_true (by omega)]
  · rw [List.drop_eq_nil_of_le c, decide_eq_false (by omega)]
    cases s.drop i <;> rfl
end Tk
namespace Tw
open Go.RowKit Lw Tk Ow

theorem quiet_draws {P : Program} {f : FuncId} {args : Array Value} {w : World} {n : Nat} {v : Value}
    (h : Calls P f args (w.drewN n) fun e w' => e = .returned v ∧ ∃ q, w' = (w.drewN n).drewN q) : Calls P f args (w.drewN n) fun e w'' => e = .returned v ∧ ∃ m, w'' = w.drewN m :=
  h.mono fun _ _ ⟨he, q, hq⟩ => ⟨he, n + q, by rw [hq, World.drewN_drewN]⟩
theorem quiet_add_draws {P : Program} {f : FuncId} {args : Array Value} {w : World} {a n : Nat} {v : Value}
    (h : Calls P f args (w.drewN (a + n)) fun e w' => e = .returned v ∧ ∃ q, w' = (w.drewN (a + n)).drewN q) : Calls P f args (w.drewN (a + n)) fun e w'' => e = .returned v ∧ ∃ m, w'' = w.drewN (a + m) :=
  h.mono fun _ _ ⟨he, q, hq⟩ => ⟨he, n + q, by rw [hq, World.drewN_drewN, Nat.add_assoc]⟩
theorem drawn_more {w W : World} (h : ∃ q, W = w.drewN q) (n : Nat) : ∃ q, W.drewN n = w.drewN q := by
  obtain ⟨q, rfl⟩ := h
  exact ⟨q + n, World.drewN_drewN _ _ _⟩
theorem drawn_below {w W : World} (h : ∃ q, W = w.drewN q) : Below w.heap.size w W := by
  obtain ⟨q, rfl⟩ := h
  exact drewN_below2 (Below.refl _ _) q
theorem row1 {w : World} {A : Option Addr} {l : List Nat} (h : RowsG 1 inE w A l) {i : Nat} (hi : i < l.length) : ∃ g, A = some ⟨g, 0, none⟩ ∧ w.cell? ⟨g, i, none⟩ = some (.int .i64 (l[i] : Int)) := by
  obtain ⟨g, e, -, r⟩ := h.row i hi
  have := r 0 _ rfl
  rw [Nat.mul_one, Nat.add_zero] at this
  exact ⟨g, e, this⟩
set_option maxRecDepth 100000 in
set_option maxHeartbeats 4000000 in
theorem part_any (A1 A2 : Option Addr) (c1 c2 : Nat) (s t : List Nat) (w : World) (h1 : RowsG 1 inE w A1 s) (h2 : RowsG 1 inE w A2 t) (hs : s.length ≤ 1000000) (ht : t.length ≤ 1000000) :
    Calls Tryz.prog 27 #[.slice A1 s.length c1, .slice A2 t.length c2] w fun e w' => e = .returned (.bool (decide (gre s t = []))) ∧ ∃ q, w' = w.drewN q := by
  have H1 := Lib.hid (fun w' (hb : Below w.heap.size w w') => h1.below hb)
  have H2 := Lib.hid (fun w' (hb : Below w.heap.size w w') => h2.below hb)
  clear h1 h2
  go_enter Tryz.func27, Tryz.ntmps27
  go_wp2_with fail
  go_loopw [5, 6] (fun vn z wr => ∃ n k : Nat, vn = .int .i64 (n : Int) ∧ z = .int .i64 (k : Int) ∧ n ≤ s.length ∧ k ≤ t.length ∧ Hid (gre (s.drop n) (t.drop k) = gre s t) ∧ Hid (∃ q, wr = w.drewN q)) (fun _ z _ => ((t.length : Int) - intOf z).toNat)
  case atStart => exact ⟨0, 0, rfl, rfl, by omega, by omega, Lib.hid rfl, Lib.hid ⟨0, rfl⟩⟩
  case round =>
    obtain ⟨n, k, rfl, rfl, hn, hk, EG, BB⟩ := hrel
    have hkk : IntKind.i64.wrap ((k : Int) + 1) = ((k + 1 : Nat) : Int) := by rw [IntKind.wrap_i64]; omega
    have hnn : IntKind.i64.wrap ((n : Int) + 1) = ((n + 1 : Nat) : Int) := by rw [IntKind.wrap_i64]; omega
    have EQ := EG.out
    by_cases hkt : k < t.length
    · have ki : (k : Int) < (t.length : Int) := by omega
      obtain ⟨g2, rfl, d0⟩ := row1 (H2.out _ (drawn_below BB.out)) hkt
      by_cases hns : n < s.length
      · have ni : (n : Int) < (s.length : Int) := by omega
        obtain ⟨g1, rfl, c0⟩ := row1 (H1.out _ (drawn_below BB.out)) hns
        rw [gre_drop hns hkt] at EQ
        by_cases e : s[n] = t[k]
        · have e2 : ((s[n] : Int) == (t[k] : Int)) = true := by rw [e]; exact beq_self_eq_true _
          rw [if_pos e] at EQ
          have EQ := Lib.hid EQ
          clear EG e
          generalize s[n] = a at *
          generalize t[k] = b at *
          go_wp2_with fail
          go_quiet (fail)
          go_wp2_with fail
          go_roundw
          case rel => exact ⟨n + 1, k + 1, rfl, rfl, by omega, by omega, EQ, Lib.hid (drawn_more BB.out _)⟩
          case measure => simp [intOf]; omega
        · have e2 : ((s[n] : Int) == (t[k] : Int)) = false := beq_eq_false_iff_ne.2 (by omega)
          rw [if_neg e] at EQ
          have EQ := Lib.hid EQ
          clear EG e
          generalize s[n] = a at *
          generalize t[k] = b at *
          go_wp2_with fail
          go_quiet (fail)
          go_wp2_with fail
          go_roundw
          case rel => exact ⟨n, k + 1, rfl, rfl, by omega, by omega, EQ, Lib.hid (drawn_more BB.out _)⟩
          case measure => simp [intOf]; omega
      · have ni : ¬ (n : Int) < (s.length : Int) := by omega
        rw [gre_full (by omega) hkt] at EQ
        have EQ := Lib.hid EQ
        clear EG
        go_wp2_with fail
        go_quiet (fail)
        go_wp2_with fail
        go_roundw
        case rel => exact ⟨n, k + 1, rfl, rfl, by omega, by omega, EQ, Lib.hid (drawn_more BB.out _)⟩
        case measure => simp [intOf]; omega
    · have ki : ¬ (k : Int) < (t.length : Int) := by omega
      have e3 : ((n : Int) == (s.length : Int)) = decide (gre s t = []) := by
        rw [← EQ, Bool.eq_iff_iff, decide_eq_true_iff, gre_end (by omega) hn, beq_iff_eq]
        omega
      have e3 := Lib.hid e3
      clear EG EQ
      go_wp2_with fail
      refine bodyPost_ret (results_tmp rfl _ _ _) rfl ⟨?_, BB.out⟩
      first | exact congrArg (fun b => Ending.returned (.bool b)) e3.out | rfl
set_option maxRecDepth 100000 in
set_option maxHeartbeats 4000000 in
theorem before_any (A1 A2 : Option Addr) (c1 c2 : Nat) (s t : List Nat) (w : World) (h1 : RowsG 1 inE w A1 s) (h2 : RowsG 1 inE w A2 t) (hs : s.length ≤ 1000000) (ht : t.length ≤ 1000000) :
    Calls Tryz.prog 28 #[.slice A1 s.length c1, .slice A2 t.length c2] w fun e w' => e = .returned (.bool (ltL s t)) ∧ ∃ q, w' = w.drewN q := by
  have H1 := Lib.hid (fun w' (hb : Below w.heap.size w w') => h1.below hb)
  have H2 := Lib.hid (fun w' (hb : Below w.heap.size w w') => h2.below hb)
  clear h1 h2
  go_enter Tryz.func28, Tryz.ntmps28
  go_wp2_with fail
  go_loopw [5] (fun z wr => ∃ i : Nat, z = .int .i64 (i : Int) ∧ i ≤ s.length ∧ i ≤ t.length ∧ Hid (ltL (s.drop i) (t.drop i) = ltL s t) ∧ Hid (∃ q, wr = w.drewN q)) (fun z _ => ((t.length : Int) - intOf z).toNat)
  case atStart => exact ⟨0, rfl, by omega, by omega, Lib.hid rfl, Lib.hid ⟨0, rfl⟩⟩
  case round =>
    obtain ⟨i, rfl, hi, hj, EG, BB⟩ := hrel
    have hii : IntKind.i64.wrap ((i : Int) + 1) = ((i + 1 : Nat) : Int) := by rw [IntKind.wrap_i64]; omega
    have EQ := EG.out
    by_cases his : i < s.length
    · have q1 : (i : Int) < (s.length : Int) := by omega
      obtain ⟨g1, rfl, c0⟩ := row1 (H1.out _ (drawn_below BB.out)) his
      by_cases hit : i < t.length
      · have q2 : (i : Int) < (t.length : Int) := by omega
        obtain ⟨g2, rfl, d0⟩ := row1 (H2.out _ (drawn_below BB.out)) hit
        rw [lt_drop his hit] at EQ
        by_cases e : s[i] = t[i]
        · have e2 : ((s[i] : Int) == (t[i] : Int)) = true := by rw [e]; exact beq_self_eq_true _
          rw [if_pos e] at EQ
          have EQ := Lib.hid EQ
          clear EG e
          generalize s[i] = a at *
          generalize t[i] = b at *
          go_wp2_with fail
          go_quiet (fail)
          go_wp2_with fail
          go_roundw
          case rel => exact ⟨i + 1, rfl, by omega, by omega, EQ, Lib.hid (drawn_more BB.out _)⟩
          case measure => simp [intOf]; omega
        · have e2 : ((s[i] : Int) == (t[i] : Int)) = false := beq_eq_false_iff_ne.2 (by omega)
          rw [if_neg e] at EQ
          have e4 : decide ((s[i] : Int) < (t[i] : Int)) = ltL s t := by
            rw [← EQ]
            exact decide_eq_decide.2 (by omega)
          have EQ := Lib.hid e4
          clear EG e e4
          generalize s[i] = a at *
          generalize t[i] = b at *
          go_wp2_with fail
          go_quiet (fail)
          have d1 := d0
          have c1' := c0
          rw [← World.cell?_drewN (n := nq)] at d0 c0
          go_wp2_with fail
          go_quiet (fail)
          go_wp2_with fail
          refine bodyPost_ret (results_tmp rfl _ _ _) rfl ⟨?_, drawn_more (drawn_more BB.out _) _⟩
          first | exact congrArg (fun b => Ending.returned (.bool b)) EQ.out | rfl
      · have q2 : ¬ (i : Int) < (t.length : Int) := by omega
        rw [lt_end hi hj (by omega)] at EQ
        have e4 : decide ((s.length : Int) < (t.length : Int)) = ltL s t := by rw [← EQ]; exact decide_eq_decide.2 (by omega)
        have EQ := Lib.hid e4
        clear EG e4
        go_wp2_with fail
        refine bodyPost_ret (results_tmp rfl _ _ _) rfl ⟨?_, BB.out⟩
        first | exact congrArg (fun b => Ending.returned (.bool b)) EQ.out | rfl
    · have q1 : ¬ (i : Int) < (s.length : Int) := by omega
      rw [lt_end hi hj (by omega)] at EQ
      have e4 : decide ((s.length : Int) < (t.length : Int)) = ltL s t := by rw [← EQ]; exact decide_eq_decide.2 (by omega)
      have EQ := Lib.hid e4
      clear EG e4
      go_wp2_with fail
      refine bodyPost_ret (results_tmp rfl _ _ _) rfl ⟨?_, BB.out⟩
      first | exact congrArg (fun b => Ending.returned (.bool b)) EQ.out | rfl
end Tw
end Go.Proofs.YtjgcbeihgeaimaaGreatDoor
/-
  The library contracts that tracklets use, laid at this program.
-/
namespace Go.Proofs
open Go.Shelf
def Tryz.slCont_ren : Go.Shelf.Ren := ⟨fun | 7 => 38 | 6 => 56 | n => n, fun | 22 => 54 | 24 => 57 | 4 => 4 | 0 => 0 | 3 => 3 | n => n, fun n => n⟩
theorem Tryz.slCont : Go.Proofs.SlLaysQ.n7 Tryz.prog Tryz.slCont_ren := {
  mixed := by kernel_rfl
  f6 := ⟨Tryz.f56.name, by decide, Tryz.func56.trans (congrArg some (by kernel_rfl))⟩
  f7 := ⟨Tryz.f38.name, by decide, Tryz.func38.trans (congrArg some (by kernel_rfl))⟩
  t0 := Tryz.underlying0
  a0 := Tryz.isAgg0
  z0 := Tryz.sizeOf0
  v0 := Tryz.zeroValue0
  t3 := Tryz.underlying3
  a3 := Tryz.isAgg3
  z3 := Tryz.sizeOf3
  v3 := Tryz.zeroValue3
  t4 := Tryz.underlying4
  a4 := Tryz.isAgg4
  z4 := Tryz.sizeOf4
  v4 := Tryz.zeroValue4
  t22 := Tryz.underlying54
  a22 := Tryz.isAgg54
  z22 := Tryz.sizeOf54
  v22 := Tryz.zeroValue54 }
def Tryz.slContF_ren : Go.Shelf.Ren := ⟨fun | 8 => 39 | 6 => 57 | n => n, fun | 22 => 54 | 23 => 57 | 25 => 83 | 4 => 4 | 3 => 3 | 0 => 0 | n => n, fun n => n⟩
theorem Tryz.slContF : Go.Proofs.SlLaysH0.n8 Tryz.prog Tryz.slContF_ren := {
  mixed := by kernel_rfl
  f6 := ⟨Tryz.f57.name, by decide, Tryz.func57.trans (congrArg some (by kernel_rfl))⟩
  f8 := ⟨Tryz.f39.name, by decide, Tryz.func39.trans (congrArg some (by kernel_rfl))⟩
  t0 := Tryz.underlying0
  a0 := Tryz.isAgg0
  z0 := Tryz.sizeOf0
  v0 := Tryz.zeroValue0
  t3 := Tryz.underlying3
  a3 := Tryz.isAgg3
  z3 := Tryz.sizeOf3
  v3 := Tryz.zeroValue3
  t4 := Tryz.underlying4
  a4 := Tryz.isAgg4
  z4 := Tryz.sizeOf4
  v4 := Tryz.zeroValue4
  t22 := Tryz.underlying54
  a22 := Tryz.isAgg54
  z22 := Tryz.sizeOf54
  v22 := Tryz.zeroValue54
  t25 := Tryz.underlying83
  a25 := Tryz.isAgg83
  z25 := Tryz.sizeOf83
  v25 := Tryz.zeroValue83 }
def Tryz.slSort_ren : Go.Shelf.Ren := ⟨fun | 6 => 23 | 15 => 43 | 14 => 42 | 28 => 66 | 29 => 67 | 20 => 58 | 21 => 59 | 22 => 60 | 23 => 61 | 24 => 62 | 25 => 63 | 26 => 64 | 27 => 65 | 46 => 85 | 47 => 86 | 48 => 87 | 49 => 88 | 50 => 89 | 57 => 106 | n => n, fun | 22 => 32 | 24 => 62 | 25 => 65 | 3 => 3 | 39 => 87 | 0 => 0 | 53 => 119 | 55 => 55 | 4 => 4 | 46 => 112 | 45 => 111 | 50 => 116 | 5 => 5 | 9 => 9 | 66 => 135 | 70 => 139 | 76 => 154 | 77 => 123 | n => n, fun n => n⟩
theorem Tryz.slSort : Go.Proofs.SlLaysF.n6 Tryz.prog Tryz.slSort_ren := {
  mixed := by kernel_rfl
  f6 := ⟨Tryz.f23.name, by decide, Tryz.func23.trans (congrArg some (by kernel_rfl))⟩
  f14 := ⟨Tryz.f42.name, by decide, Tryz.func42.trans (congrArg some (by kernel_rfl))⟩
  f15 := Tryz.func43.trans (congrArg some (by kernel_rfl))
  f20 := ⟨Tryz.f58.name, by decide, Tryz.func58.trans (congrArg some (by kernel_rfl))⟩
  f21 := ⟨Tryz.f59.name, by decide, Tryz.func59.trans (congrArg some (by kernel_rfl))⟩
  f22 := ⟨Tryz.f60.name, by decide, Tryz.func60.trans (congrArg some (by kernel_rfl))⟩
  f23 := ⟨Tryz.f61.name, by decide, Tryz.func61.trans (congrArg some (by kernel_rfl))⟩
  f24 := ⟨Tryz.f62.name, by decide, Tryz.func62.trans (congrArg some (by kernel_rfl))⟩
  f25 := ⟨Tryz.f63.name, by decide, Tryz.func63.trans (congrArg some (by kernel_rfl))⟩
  f26 := ⟨Tryz.f64.name, by decide, Tryz.func64.trans (congrArg some (by kernel_rfl))⟩
  f27 := ⟨Tryz.f65.name, by decide, Tryz.func65.trans (congrArg some (by kernel_rfl))⟩
  f28 := Tryz.func66.trans (congrArg some (by kernel_rfl))
  f29 := Tryz.func67.trans (congrArg some (by kernel_rfl))
  f46 := ⟨Tryz.f85.name, by decide, Tryz.func85.trans (congrArg some (by kernel_rfl))⟩
  f47 := Tryz.func86.trans (congrArg some (by kernel_rfl))
  f48 := Tryz.func87.trans (congrArg some (by kernel_rfl))
  f49 := ⟨Tryz.f88.name, by decide, Tryz.func88.trans (congrArg some (by kernel_rfl))⟩
  f50 := ⟨Tryz.f89.name, by decide, Tryz.func89.trans (congrArg some (by kernel_rfl))⟩
  f57 := ⟨Tryz.f106.name, by decide, Tryz.func106.trans (congrArg some (by kernel_rfl))⟩
  t0 := Tryz.underlying0
  a0 := Tryz.isAgg0
  z0 := Tryz.sizeOf0
  v0 := Tryz.zeroValue0
  t3 := Tryz.underlying3
  a3 := Tryz.isAgg3
  z3 := Tryz.sizeOf3
  v3 := Tryz.zeroValue3
  t4 := Tryz.underlying4
  a4 := Tryz.isAgg4
  z4 := Tryz.sizeOf4
  v4 := Tryz.zeroValue4
  t5 := Tryz.underlying5
  a5 := Tryz.isAgg5
  z5 := Tryz.sizeOf5
  v5 := Tryz.zeroValue5
  t9 := Tryz.underlying9
  a9 := Tryz.isAgg9
  z9 := Tryz.sizeOf9
  v9 := Tryz.zeroValue9
  t22 := Tryz.underlying32
  a22 := Tryz.isAgg32
  z22 := Tryz.sizeOf32
  v22 := Tryz.zeroValue32
  a24 := Tryz.isAgg62
  z24 := Tryz.sizeOf62
  t25 := Tryz.underlying65
  a25 := Tryz.isAgg65
  z25 := Tryz.sizeOf65
  v25 := Tryz.zeroValue65
  t39 := Tryz.underlying87
  a39 := Tryz.isAgg87
  z39 := Tryz.sizeOf87
  v39 := Tryz.zeroValue87
  t45 := Tryz.underlying111
  a45 := Tryz.isAgg111
  z45 := Tryz.sizeOf111
  v45 := Tryz.zeroValue111
  t46 := Tryz.underlying112
  a46 := Tryz.isAgg112
  z46 := Tryz.sizeOf112
  v46 := Tryz.zeroValue112
  t50 := Tryz.underlying116
  a50 := Tryz.isAgg116
  z50 := Tryz.sizeOf116
  v50 := Tryz.zeroValue116
  t53 := Tryz.underlying119
  a53 := Tryz.isAgg119
  z53 := Tryz.sizeOf119
  v53 := Tryz.zeroValue119
  t55 := Tryz.underlying55
  a55 := Tryz.isAgg55
  z55 := Tryz.sizeOf55
  v55 := Tryz.zeroValue55
  t66 := Tryz.underlying135
  a66 := Tryz.isAgg135
  z66 := Tryz.sizeOf135
  v66 := Tryz.zeroValue135
  t70 := Tryz.underlying139
  a70 := Tryz.isAgg139
  z70 := Tryz.sizeOf139
  v70 := Tryz.zeroValue139
  t76 := Tryz.underlying154
  a76 := Tryz.isAgg154
  z76 := Tryz.sizeOf154
  v76 := Tryz.zeroValue154
  t77 := Tryz.underlying123
  a77 := Tryz.isAgg123
  z77 := Tryz.sizeOf123
  v77 := Tryz.zeroValue123 }
def Tryz.lays7tz_ren : Go.Shelf.Ren := ⟨fun | 29 => 41 | n => n, fun | 22 => 55 | 3 => 3 | 4 => 4 | 25 => 87 | 54 => 109 | 0 => 0 | 5 => 5 | n => n, fun | 1 => 0 | n => n⟩
theorem Tryz.lays7tz : Go.Proofs.Lays7.n29 Tryz.prog Tryz.lays7tz_ren := {
  mixed := by kernel_rfl
  f29 := Tryz.func41.trans (congrArg some (by kernel_rfl))
  t0 := Tryz.underlying0
  a0 := Tryz.isAgg0
  z0 := Tryz.sizeOf0
  v0 := Tryz.zeroValue0
  i0 := by kernel_rfl
  t3 := Tryz.underlying3
  a3 := Tryz.isAgg3
  z3 := Tryz.sizeOf3
  v3 := Tryz.zeroValue3
  i3 := by kernel_rfl
  t4 := Tryz.underlying4
  a4 := Tryz.isAgg4
  z4 := Tryz.sizeOf4
  v4 := Tryz.zeroValue4
  i4 := by kernel_rfl
  t5 := Tryz.underlying5
  a5 := Tryz.isAgg5
  z5 := Tryz.sizeOf5
  v5 := Tryz.zeroValue5
  i5 := by kernel_rfl
  t22 := Tryz.underlying55
  a22 := Tryz.isAgg55
  z22 := Tryz.sizeOf55
  v22 := Tryz.zeroValue55
  i22 := by kernel_rfl
  t25 := Tryz.underlying87
  a25 := Tryz.isAgg87
  z25 := Tryz.sizeOf87
  v25 := Tryz.zeroValue87
  i25 := by kernel_rfl
  t54 := Tryz.underlying109
  a54 := Tryz.isAgg109
  z54 := Tryz.sizeOf109
  g1 := by kernel_rfl }
end Go.Proofs
/-
  The sort of the kept sets.
-/
namespace Go.Proofs.YtjgcbeihgeaimaaGreatDoor
namespace Tw
open Go.RowKit Lw Tk Ow Go.Shelf Go.Sort

theorem sort_heap {α : Type} [Inhabited α] (enc : α → Value) (w : World) (blk off m : Nat) (dk : Array α) (os : Array Obj) {k : Nat} (hk : k < w.heap.size) (hne : k ≠ blk) : (sortWorld enc w blk off m dk os).heap[k]? = w.heap[k]? := by
  unfold sortWorld grow putRow mapBlock
  show ((w.heap.modify blk _) ++ os)[k]? = _
  rw [Array.getElem?_append_left (by simpa using hk), Array.getElem?_modify, if_neg (fun e => hne e.symm)]
theorem sort_size {α : Type} [Inhabited α] (enc : α → Value) (w : World) (blk off m : Nat) (dk : Array α) (os : Array Obj) : w.heap.size ≤ (sortWorld enc w blk off m dk os).heap.size := by
  unfold sortWorld grow putRow mapBlock
  show _ ≤ ((w.heap.modify blk _) ++ os).size
  simp
theorem sort_below {α : Type} [Inhabited α] (enc : α → Value) (w : World) (blk off m : Nat) (dk : Array α) (os : Array Obj) {B : Nat} (hB : B ≤ blk) (hw : B ≤ w.heap.size) : Below B w (sortWorld enc w blk off m dk os) :=
  ⟨rfl, rfl, rfl, sort_size enc w blk off m dk os, fun k hk => sort_heap enc w blk off m dk os (by omega) (by omega)⟩
/-- A slice of slices of ints. -/
def SetsAt (w : World) (V : Value) (K : List (List Nat)) : Prop :=
  ∃ A cap, ∃ S : List Sl, V = .slice A K.length cap ∧ S.length = K.length ∧ RowsG 1 slE w A S ∧ ∀ i (h : i < S.length) (h2 : i < K.length), (S[i]'h).n = (K[i]'h2).length ∧ RowsG 1 inE w (S[i]'h).a (K[i]'h2)
theorem SetsAt.below {w w' : World} {V : Value} {K : List (List Nat)} (h : SetsAt w V K) (hb : Below w.heap.size w w') : SetsAt w' V K := by
  obtain ⟨A, cap, S, h1, h2, h3, h4⟩ := h
  exact ⟨A, cap, S, h1, h2, h3.below hb, fun i h g => ⟨(h4 i h g).1, (h4 i h g).2.below hb⟩⟩
theorem cmp_swo {α : Type} (f : α → List Nat) : SWO (ltOf fun x y : α => cmpL (f x) (f y)) := by
  have e : ∀ x y : α, ltOf (fun x y : α => cmpL (f x) (f y)) x y = ltL (f x) (f y) := fun x y => cmp_lt _ _
  refine ⟨fun x => ?_, fun x y z h1 h2 => ?_, fun x y z h1 h2 => ?_⟩
  · rw [e]; exact ltL_irrefl _
  · rw [e] at *; exact ltL_trans _ _ _ h1 h2
  · rw [e] at *
    rcases ltL_total (f x) (f y) with h | h | h
    · rw [h]; exact h2
    · rw [h1] at h; cases h
    · rcases ltL_total (f y) (f z) with g | g | g
      · rw [← g]; exact h1
      · rw [h2] at g; cases g
      · exact ltL_asymm _ _ (ltL_trans _ _ _ g h)
set_option maxHeartbeats 4000000 in
theorem sort_any (w : World) (B : Nat) (v : Value) (S : List Sl) (K : List (List Nat)) (hO : OwnG 62 1 slE w B v S) (hk : S.length = K.length)
    (hI : ∀ i (h : i < S.length) (h2 : i < K.length), (S[i]'h).n = (K[i]'h2).length ∧ RowsG 1 inE w (S[i]'h).a (K[i]'h2)) (hm : ∀ s ∈ K, s.length ≤ 1000000) (hS : S.length ≤ 1000000) :
    Calls Tryz.prog 23 #[v, .func (.func 24) #[] #[]] w fun e w' => e = .returned (.tuple #[]) ∧ Below B w w' ∧ ∃ K', K'.Perm K ∧ K'.Pairwise (fun s t => ltL t s = false) ∧ SetsAt w' v K' := by
  obtain ⟨A, cap, rfl, hr, hge⟩ := OwnG.form (enc := slE) (fun _ => rfl) hO
  by_cases h0 : S = []
  · subst h0
    have hK : K = [] := List.length_eq_zero_iff.1 hk.symm
    subst hK
    have := AnyF.slices_SortFunc_none (P := Tryz.prog) (ρ := Tryz.slSort_ren) { Tryz.slSort with } A cap (.func (.func 24) #[] #[]) w
    refine this.mono ?_
    rintro e w' ⟨rfl, rfl⟩
    exact ⟨rfl, Below.refl _ _, [], List.Perm.refl _, List.Pairwise.nil, A, cap, [], rfl, rfl, hr, fun i h => by cases h⟩
  · have hpos := List.length_pos_iff.2 h0
    obtain ⟨g, rfl, hg, -⟩ := hr.row 0 hpos
    have hgB := hge g 0 rfl
    haveI : Inhabited (Fin S.length) := ⟨⟨0, hpos⟩⟩
    have row : ∀ i (h : i < S.length), w.cell? ⟨g, i, none⟩ = some (.slice S[i].a S[i].n S[i].c) := fun i h => by
      obtain ⟨g', e, -, r⟩ := hr.row i h
      cases e
      have := r 0 _ rfl
      rwa [Nat.mul_one, Nat.add_zero] at this
    obtain ⟨cur, hblk⟩ : ∃ cur, w.heap[g]? = some (.cells cur 62 (0, 0)) := by
      rcases hO.1.2 with ⟨hv, -⟩ | ⟨g', c, cur, hv, -, hh, -⟩
      · cases hv
      · cases hv; exact ⟨cur, hh⟩
    have hne : ∀ i (h : i < S.length) (h2 : i < K.length) (g' : Nat), (S[i]'h).a = some ⟨g', 0, none⟩ → 0 < (K[i]'h2).length → g' ≠ g := by
      intro i h h2 g' e hl
      rintro rfl
      obtain ⟨g2, e2, -, r⟩ := (hI i h h2).2.row 0 hl
      rw [e] at e2
      cases e2
      have c1 := r 0 _ rfl
      have c0 := row 0 hpos
      rw [Nat.zero_mul, Nat.zero_add] at c1
      rw [c0] at c1
      cases c1
    have hint : ∀ (m : Nat) (os : Array Obj) (dk : Array (Fin S.length)) i (h : i < S.length) (h2 : i < K.length), RowsG 1 inE (sortWorld (fun i : Fin S.length => Value.slice S[i.1].a S[i.1].n S[i.1].c) w g 0 m dk os) (S[i]'h).a (K[i]'h2) := by
      intro m os dk i h h2
      refine ⟨fun q hq => ?_⟩
      obtain ⟨g', e, lt, r⟩ := (hI i h h2).2.row q hq
      refine ⟨g', e, Nat.lt_of_lt_of_le lt (sort_size _ _ _ _ _ _ _), fun j x hx => ?_⟩
      rw [World.cell?_of_block (w := w) (sort_heap _ w g 0 m dk os lt (hne i h h2 g' e (by omega)))]
      exact r j x hx
    have hd : (Array.ofFn (fun i : Fin S.length => i)).size = S.length := Array.size_ofFn
    have hdj : ∀ j (h : j < S.length), (Array.ofFn (fun i : Fin S.length => i))[j]! = ⟨j, h⟩ := fun j h => by
      rw [getElem!_pos _ j (by rw [hd]; exact h), Array.getElem_ofFn]
    have hH : Holds (fun i : Fin S.length => Value.slice S[i.1].a S[i.1].n S[i.1].c) w g 0 (Array.ofFn (fun i : Fin S.length => i)) := fun j hj => by
      rw [hd] at hj
      rw [hdj j hj, Nat.zero_add]
      exact ⟨row j hj, by simp [World.frozen?, hblk]⟩
    have hcmp : CmpLays1 Tryz.prog 24 #[] (fun i : Fin S.length => Value.slice S[i.1].a S[i.1].n S[i.1].c) (fun x y => cmpL (K[x.1]'(by omega)) (K[y.1]'(by omega))) g 0 (Array.ofFn (fun i : Fin S.length => i)).size w := by
      intro m os dk hdk x y
      have h1 := hI x.1 x.2 (by omega)
      have h2 := hI y.1 y.2 (by omega)
      have := find1_any _ _ S[x.1].c S[y.1].c _ _ _ (hint m os dk x.1 x.2 (by omega)) (hint m os dk y.1 y.2 (by omega)) (hm _ (List.getElem_mem _)) (hm _ (List.getElem_mem _))
      rw [← h1.1, ← h2.1] at this
      exact this.mono fun e w' ⟨he, hw⟩ => ⟨he, 0, #[], by rw [hw, grow_empty]; rfl⟩
    have hc := Any.slices_SortFunc Tryz.slSort (fun i : Fin S.length => Value.slice S[i.1].a S[i.1].n S[i.1].c) (fun _ => rfl) (fun x y => cmpL (K[x.1]'(by omega)) (K[y.1]'(by omega))) (cmp_swo fun x : Fin S.length => K[x.1]'(by omega)) 24 #[] g 0 cap (Array.ofFn (fun i : Fin S.length => i)) w
      (enters_of Tryz.func24 (by kernel_rfl) rfl) hcmp hH hg (by rw [hd]; omega)
    rw [hd] at hc
    refine hc.mono ?_
    rintro e w' ⟨rfl, d', n, os, ⟨hsz, -, hperm⟩, hsort, rfl⟩
    rw [hd] at hsz
    rw [Array.extract_eq_self_of_le (by omega), Array.extract_eq_self_of_le (by omega)] at hperm
    have hhold := (SW.holds (⟨n, os, rfl⟩ : SW (fun i : Fin S.length => Value.slice S[i.1].a S[i.1].n S[i.1].c) w g 0 d' _) hg hH (by rw [hd]; exact hsz))
    refine ⟨rfl, sort_below _ w g 0 n d' os hgB hO.2, d'.toList.map (fun i => K[i.1]'(by omega)), ?_, ?_, some ⟨g, 0, none⟩, cap, d'.toList.map (fun i => S[i.1]), ?_, ?_, ⟨fun i h => ?_⟩, fun i h h2 => ?_⟩
    · refine (hperm.map _).trans ?_
      refine List.Perm.of_eq (List.ext_getElem (by simp [hk]) fun i h1 h2 => ?_)
      simp
    · rw [List.pairwise_iff_getElem]
      intro i j hi hj hij
      simp only [List.length_map, Array.length_toList] at hi hj
      have := hsort i j (Nat.zero_le _) hij (by omega)
      rw [getElem!_pos d' j hj, getElem!_pos d' i hi] at this
      simp only [List.getElem_map, Array.getElem_toList]
      rw [← cmp_lt]
      exact this
    · have : S.length = (d'.toList.map (fun i => K[i.1]'(by omega))).length := hsz.symm.trans (by simp)
      exact congrArg (fun q => Value.slice (some ⟨g, 0, none⟩) q cap) this
    · simp
    · simp only [List.length_map, Array.length_toList] at h
      refine ⟨g, rfl, Nat.lt_of_lt_of_le hg (sort_size _ _ _ _ _ _ _), fun j x hx => ?_⟩
      have hc1 := (hhold i h).1
      rw [getElem!_pos d' i h, Nat.zero_add] at hc1
      simp only [List.getElem_map, Array.getElem_toList] at hx
      obtain rfl : j = 0 := by
        have := (List.getElem?_eq_some_iff.1 hx).1
        simpa using this
      rw [Nat.mul_one, Nat.add_zero]
      rw [hc1]
      simpa using hx
    · simp only [List.length_map, Array.length_toList] at h
      simp only [List.getElem_map, Array.getElem_toList]
      exact ⟨(hI _ _ _).1, hint n os d' _ _ _⟩
end Tw
end Go.Proofs.YtjgcbeihgeaimaaGreatDoor
/-
  Masks: add, within.
-/
namespace Go.Proofs.YtjgcbeihgeaimaaGreatDoor
namespace Tw
open Go.RowKit Lw Tk Ow

abbrev mkV (x : Nat) : Value := .agg (mkE x).toArray
theorem andNot_val (a b : Nat) (ha : a < 18446744073709551616) (hb : b < 18446744073709551616) :
    bits .andNot .u64 (a : Int) (b : Int) = (((BitVec.ofNat 64 a &&& ~~~ BitVec.ofNat 64 b).toNat : Nat) : Int) := by
  show IntKind.u64.wrap ((BitVec.ofInt 64 (a : Int) &&& ~~~ BitVec.ofInt 64 (b : Int)).toNat : Int) = _
  rw [BitVec.ofInt_natCast, BitVec.ofInt_natCast, IntKind.wrap_u64]
  have := (BitVec.ofNat 64 a &&& ~~~ BitVec.ofNat 64 b).isLt
  omega
theorem andNot_zero {a b : Nat} (ha : a < 512) (hb : b < 512) : bits .andNot .u64 (a : Int) (b : Int) = 0 ↔ inM a b = true := by
  rw [andNot_val a b (by omega) (by omega)]
  have e : (((BitVec.ofNat 64 a &&& ~~~ BitVec.ofNat 64 b).toNat : Nat) : Int) = 0 ↔ BitVec.ofNat 64 a &&& ~~~ BitVec.ofNat 64 b = 0#64 := by
    constructor
    · intro h
      apply BitVec.eq_of_toNat_eq
      simpa using h
    · intro h; rw [h]; rfl
  rw [e]
  unfold inM
  rw [decide_eq_true_iff]
  have g : ∀ x i, (BitVec.ofNat 64 x).getLsbD i = (decide (i < 64) && x.testBit i) := fun x i => by rw [BitVec.getLsbD_ofNat]
  constructor
  · intro h k hk
    obtain ⟨h9, hx⟩ := mem_bits.1 hk
    have q := congrArg (fun z => z.getLsbD k) h
    simp only [BitVec.getLsbD_and, BitVec.getLsbD_not, g, BitVec.getLsbD_zero] at q
    refine mem_bits.2 ⟨h9, ?_⟩
    have h64 : k < 64 := by omega
    simp only [h64, decide_true, Bool.true_and, hx] at q
    simpa using q
  · intro h
    apply BitVec.eq_of_getLsbD_eq
    intro i hi
    simp only [BitVec.getLsbD_and, BitVec.getLsbD_not, g, BitVec.getLsbD_zero, hi, decide_true, Bool.true_and]
    cases hx : a.testBit i
    · simp
    · have h9 : i < 9 := by
        rcases Nat.lt_or_ge i 9 with q | q
        · exact q
        · rw [bit_high ha q] at hx; cases hx
      have := (mem_bits.1 (h i (mem_bits.2 ⟨h9, hx⟩))).2
      rw [this]; simp
theorem bits_neq {a : Int} (h : ¬ a = 0) : (!(a == 0)) = true := by simp [h]
set_option maxRecDepth 100000 in
set_option maxHeartbeats 4000000 in
theorem within_any (x y : Nat) (w : World) (hx : x < 512) (hy : y < 512) :
    Calls Tryz.prog 21 #[mkV x, mkV y] w fun e w' => e = .returned (.bool (inM x y)) ∧ Below w.heap.size w w' := by
  have F0 := ((Fr.start w).alloc (mkE x) 57).alloc (mkE y) 57
  simp only [World.size_alloc] at F0
  have F0 := Lib.hid F0
  have Z0 : bits .andNot .u64 0 0 = 0 := by decide
  have AN := Lib.hid (andNot_zero hx hy)
  generalize hB : bits .andNot .u64 (x : Int) (y : Int) = B at *
  have HB := Lib.hid hB
  clear hB
  go_enter Tryz.func21, Tryz.ntmps21
  go_wp2_with fail
  go_loopw [6] (fun z wr => (z = .int .i64 0 ∨ ((z = .int .i64 1 ∨ z = .int .i64 2 ∨ z = .int .i64 3 ∨ z = .int .i64 4) ∧ inM x y = true)) ∧ Hid (Fr w [(w.heap.size + 1, mkE y), (w.heap.size, mkE x)] wr)) (fun z _ => (4 - intOf z).toNat)
  case atStart => exact ⟨Or.inl rfl, F0⟩
  case round =>
    clear F0
    obtain ⟨hz, FQ⟩ := hrel
    have x0 := FQ.out.cell 1 0 rfl rfl
    have x1 := FQ.out.cell 1 1 rfl rfl
    have x2 := FQ.out.cell 1 2 rfl rfl
    have x3 := FQ.out.cell 1 3 rfl rfl
    have y0 := FQ.out.cell 0 0 rfl rfl
    have y1 := FQ.out.cell 0 1 rfl rfl
    have y2 := FQ.out.cell 0 2 rfl rfl
    have y3 := FQ.out.cell 0 3 rfl rfl
    rcases hz with rfl | ⟨rfl | rfl | rfl | rfl, hin⟩
    · go_wp2_with fail
      go_quiet (fail)
      have FN := Lib.hid (FQ.out.drewN nq)
      clear FQ x0 x1 x2 x3 y0 y1 y2 y3
      rw [HB.out]
      by_cases hz : B = 0
      · have hin := AN.out.1 hz
        subst hz
        clear HB AN
        go_wp2_with fail
        go_roundw
        case rel => exact ⟨Or.inr ⟨Or.inl rfl, hin⟩, FN⟩
        case measure => simp [intOf]
      · have hin : inM x y = false := by
          cases h : inM x y
          · rfl
          · exact absurd (AN.out.2 h) hz
        have hz2 := bits_neq hz
        clear AN HB
        go_wp2_with fail
        refine bodyPost_ret (results_tmp rfl _ _ _) rfl ⟨?_, FN.out.below⟩
        exact congrArg (fun b => Ending.returned (.bool b)) hin.symm
    · go_wp2_with fail
      go_quiet (fail)
      have FN := Lib.hid (FQ.out.drewN nq)
      clear FQ x0 x1 x2 x3 y0 y1 y2 y3
      go_wp2_with fail
      go_roundw
      case rel => exact ⟨Or.inr ⟨Or.inr (Or.inl rfl), hin⟩, FN⟩
      case measure => simp [intOf]
    · go_wp2_with fail
      go_quiet (fail)
      have FN := Lib.hid (FQ.out.drewN nq)
      clear FQ x0 x1 x2 x3 y0 y1 y2 y3
      go_wp2_with fail
      go_roundw
      case rel => exact ⟨Or.inr ⟨Or.inr (Or.inr (Or.inl rfl)), hin⟩, FN⟩
      case measure => simp [intOf]
    · go_wp2_with fail
      go_quiet (fail)
      have FN := Lib.hid (FQ.out.drewN nq)
      clear FQ x0 x1 x2 x3 y0 y1 y2 y3
      go_wp2_with fail
      go_roundw
      case rel => exact ⟨Or.inr ⟨Or.inr (Or.inr (Or.inr rfl)), hin⟩, FN⟩
      case measure => simp [intOf]
    · go_wp2_with fail
      refine bodyPost_ret (results_tmp rfl _ _ _) rfl ⟨?_, FQ.out.below⟩
      exact congrArg (fun b => Ending.returned (.bool b)) hin.symm
end Tw
end Go.Proofs.YtjgcbeihgeaimaaGreatDoor
/-
  Masks: add and list.
-/
namespace Go.Proofs.YtjgcbeihgeaimaaGreatDoor
namespace Tw
open Go.RowKit Lw Tk Ow

theorem or_lt {x i : Nat} (hx : x < 512) (hi : i < 9) : x ||| 2 ^ i < 512 := by
  have : 2 ^ i < 2 ^ 9 := Nat.pow_lt_pow_right (by decide) hi
  exact Nat.or_lt_two_pow (n := 9) hx this
set_option maxRecDepth 100000 in
set_option maxHeartbeats 4000000 in
theorem add_any (b i x : Nat) (w : World) (hx : x < 512) (hi : i < 9) (hr : w.rangeAt b 0 (mkE x)) (ht : w.there b 0 4) :
    Calls Tryz.prog 18 #[.pointer (some ⟨b, 0, none⟩), .int .i64 (i : Int)] w fun e w' => e = .returned (.tuple #[]) ∧ ∃ n, w' = (w.setCell ⟨b, 0, none⟩ (.int .u64 ((x ||| 2 ^ i : Nat) : Int))).drewN n := by
  have c0 : w.cell? ⟨b, 0, none⟩ = some (.int .u64 (x : Int)) := hr 0 _ rfl
  have f0 : w.frozen? ⟨b, 0, none⟩ = false := (ht 0 (by omega)).2
  have B := Lib.hid (fun (k : Nat) (hk : k < 18446744073709551616) => bits_or_u64_nat x k (by omega) hk)
  have hc : i = 0 ∨ i = 1 ∨ i = 2 ∨ i = 3 ∨ i = 4 ∨ i = 5 ∨ i = 6 ∨ i = 7 ∨ i = 8 := by omega
  clear hr ht hx hi
  rcases hc with rfl | rfl | rfl | rfl | rfl | rfl | rfl | rfl | rfl
  all_goals
    go_enter Tryz.func18, Tryz.ntmps18
    go_wp2_with fail
  all_goals go_region
  · have e := B.out 1 (by decide)
    rw [show ((1 : Nat) : Int) = 1 from rfl] at e
    rw [e]
    go_end0
    exact ⟨rfl, 1, rfl⟩
  · have e := B.out 2 (by decide)
    rw [show ((2 : Nat) : Int) = 2 from rfl] at e
    rw [e]
    go_end0
    exact ⟨rfl, 1, rfl⟩
  · have e := B.out 4 (by decide)
    rw [show ((4 : Nat) : Int) = 4 from rfl] at e
    rw [e]
    go_end0
    exact ⟨rfl, 1, rfl⟩
  · have e := B.out 8 (by decide)
    rw [show ((8 : Nat) : Int) = 8 from rfl] at e
    rw [e]
    go_end0
    exact ⟨rfl, 1, rfl⟩
  · have e := B.out 16 (by decide)
    rw [show ((16 : Nat) : Int) = 16 from rfl] at e
    rw [e]
    go_end0
    exact ⟨rfl, 1, rfl⟩
  · have e := B.out 32 (by decide)
    rw [show ((32 : Nat) : Int) = 32 from rfl] at e
    rw [e]
    go_end0
    exact ⟨rfl, 1, rfl⟩
  · have e := B.out 64 (by decide)
    rw [show ((64 : Nat) : Int) = 64 from rfl] at e
    rw [e]
    go_end0
    exact ⟨rfl, 1, rfl⟩
  · have e := B.out 128 (by decide)
    rw [show ((128 : Nat) : Int) = 128 from rfl] at e
    rw [e]
    go_end0
    exact ⟨rfl, 1, rfl⟩
  · have e := B.out 256 (by decide)
    rw [show ((256 : Nat) : Int) = 256 from rfl] at e
    rw [e]
    go_end0
    exact ⟨rfl, 1, rfl⟩
theorem bits_table : ∀ b : Fin 512, b.1 ≠ 0 → bitsL b.1 = Lib.ctz 64 b.1 :: bitsL (b.1 &&& (b.1 - 1)) ∧ (b.1 &&& (b.1 - 1)) < b.1 := by decide +kernel
end Tw
end Go.Proofs.YtjgcbeihgeaimaaGreatDoor
/-
  Masks: list.
-/
namespace Go.Proofs.YtjgcbeihgeaimaaGreatDoor
namespace Tw
open Go.RowKit Lw Tk Ow

theorem gDB : Tryz.prog.globalNamed "math/bits.deBruijn64tab" = some 0 := by kernel_rfl
/-- The table of math/bits lies in memory. -/
def DB (w : World) : Prop := Lib.TabIs Tryz.prog w "math/bits.deBruijn64tab" .u8 (Lib.deBruijn64tab.map fun (n : Nat) => (n : Int))
theorem DB.below {w w' : World} (h : DB w) (hb : Below w.heap.size w w') : DB w' := Joins.tab_stays gDB h hb (Nat.le_refl _)
theorem DB.at {w : World} (h : DB w) : TabAt 0 Lib.deBruijn64tab w := fun j hj => by
  have c := World.var?_cell gDB h j
  rw [c]
  have : Lib.deBruijn64tab.getD j 0 = Lib.deBruijn64tab[j]'hj := by simp [List.getD, hj]
  rw [this]
  simp [hj]
theorem tz_any (b : Nat) (w : World) (hb : b < 512) (h : DB w) : Calls Tryz.prog 41 #[.int .u64 (b : Int)] w fun e w' => e = .returned (.int .i64 (Lib.ctz 64 b : Int)) ∧ w' = w :=
  Any7.bits_TrailingZeros64 Tryz.lays7tz b (by omega) w (fun _ => h.at)
theorem bits_next {b : Nat} (hb : b < 512) (h0 : b ≠ 0) : bitsL b = Lib.ctz 64 b :: bitsL (b &&& (b - 1)) ∧ (b &&& (b - 1)) < b := bits_table ⟨b, hb⟩ h0
theorem bits_none : bitsL 0 = [] := by decide
theorem run_idx0 (a b c d : Int) (w : World) : (Instr.index 57 (.agg #[.int .u64 a, .int .u64 b, .int .u64 c, .int .u64 d]) (.int .i64 0)).run Tryz.prog w = .ok (.int .u64 a) w := by
  simp [Instr.index, go_sem, run_underlying Tryz.underlying57, Tryz.sizeOf55, Tryz.isAgg55]
theorem run_idx1 (a b c d : Int) (w : World) : (Instr.index 57 (.agg #[.int .u64 a, .int .u64 b, .int .u64 c, .int .u64 d]) (.int .i64 1)).run Tryz.prog w = .ok (.int .u64 b) w := by
  simp [Instr.index, go_sem, run_underlying Tryz.underlying57, Tryz.sizeOf55, Tryz.isAgg55]
theorem run_idx2 (a b c d : Int) (w : World) : (Instr.index 57 (.agg #[.int .u64 a, .int .u64 b, .int .u64 c, .int .u64 d]) (.int .i64 2)).run Tryz.prog w = .ok (.int .u64 c) w := by
  simp [Instr.index, go_sem, run_underlying Tryz.underlying57, Tryz.sizeOf55, Tryz.isAgg55]
theorem run_idx3 (a b c d : Int) (w : World) : (Instr.index 57 (.agg #[.int .u64 a, .int .u64 b, .int .u64 c, .int .u64 d]) (.int .i64 3)).run Tryz.prog w = .ok (.int .u64 d) w := by
  simp [Instr.index, go_sem, run_underlying Tryz.underlying57, Tryz.sizeOf55, Tryz.isAgg55]
set_option maxRecDepth 100000 in
set_option maxHeartbeats 4000000 in
theorem list_any (x : Nat) (w : World) (hx : x < 512) (hT : DB w) :
    Calls Tryz.prog 22 #[mkV x] w fun e w' => ∃ V, e = .returned V ∧ OwnG 3 1 inE w' w.heap.size V (bitsL x) ∧ Below w.heap.size w w' := by
  have F0 := Lib.hid ((Fr.start w).alloc (mkE x) 57)
  have HT := Lib.hid (fun w' (hb : Below w.heap.size w w') => hT.below hb)
  clear hT
  go_enter Tryz.func22, Tryz.ntmps22
  go_wp2_with fail
  have O0 := Lib.hid (OwnG.nil (E := 3) (k := 1) (enc := inE) _ w.heap.size F0.out.below.size)
  go_loopw [3, 7] (fun v z wr => ((z = .int .i64 0 ∧ Hid (OwnG 3 1 inE wr w.heap.size v [])) ∨ ((z = .int .i64 1 ∨ z = .int .i64 2 ∨ z = .int .i64 3 ∨ z = .int .i64 4) ∧ Hid (OwnG 3 1 inE wr w.heap.size v (bitsL x)))) ∧ Hid (Below w.heap.size w wr)) (fun _ z _ => (4 - intOf z).toNat)
  case atStart => exact ⟨Or.inl ⟨rfl, O0⟩, Lib.hid F0.out.below⟩
  case round =>
    clear F0 O0
    obtain ⟨hz, BB⟩ := hrel
    rcases hz with ⟨rfl, OO⟩ | ⟨rfl | rfl | rfl | rfl, OO⟩
    · go_wp2_with (first | simp only [run_idx0] | fail)
      go_loopw [3, 5] (fun v z wr2 => ∃ (b : Nat) (L : List Nat), z = .int .u64 (b : Int) ∧ b < 512 ∧ Hid (L ++ bitsL b = bitsL x) ∧ L.length ≤ 9 ∧ Hid (OwnG 3 1 inE wr2 w.heap.size v L) ∧ Hid (Below w.heap.size w wr2)) (fun _ z _ => (intOf z).toNat)
      case atStart => exact ⟨x, [], rfl, hx, Lib.hid rfl, by simp, OO, BB⟩
      case round =>
        clear OO BB
        obtain ⟨b, L, rfl, hb, EL, hL, OO, BB⟩ := hrel
        by_cases h0 : b = 0
        · subst h0
          have OX := Lib.hid (show OwnG 3 1 inE wr w.heap.size _ (bitsL x) from by have e := EL.out; rw [bits_none, List.append_nil] at e; rw [← e]; exact OO.out)
          go_wp2_with fail
          go_roundw
          case rel => exact ⟨Or.inr ⟨Or.inl rfl, OX⟩, BB⟩
          case measure => simp [intOf]
        · obtain ⟨e1, e2⟩ := bits_next hb h0
          have tz := tz_any b wr hb (HT.out _ BB.out)
          have E3 := Lib.hid (show (L ++ [Lib.ctz 64 b]) ++ bitsL (b &&& (b - 1)) = bitsL x by have e := EL.out; rw [e1] at e; simpa using e)
          have hbi : (b : Int) ≠ 0 := by omega
          have hw : IntKind.u64.wrap ((b : Int) - 1) = ((b - 1 : Nat) : Int) := by rw [IntKind.wrap_u64]; omega
          have ha : bits .and .u64 (b : Int) ((b - 1 : Nat) : Int) = ((b &&& (b - 1) : Nat) : Int) := bits_and_u64_nat b (b - 1) (by omega) (by omega)
          have hcz : Lib.ctz 64 b < 9 := (mem_bits.1 (show Lib.ctz 64 b ∈ bitsL b by rw [e1]; simp)).1
          generalize Lib.ctz 64 b = t at *
          have hl : L.length + 1 ≤ 9 := by
            have h1 := congrArg List.length E3.out
            have h2 : (bitsL x).length ≤ 9 := Nat.le_trans (List.length_filter_le _ _) (by simp)
            simp at h1
            omega
          clear e1
          go_wp2_with (first | (go_at_call 41; refine tz.mono ?_; rintro e w2 ⟨rfl, rfl⟩) | (at_builtin; refine wp_appG 62 (.int .i64 0) 8 info_in Tryz.underlying62 rfl (by decide) (by decide) (fun _ => rfl) inE_one _ rfl (.tmp 17) (.tmp 23) rfl w.heap.size _ L t rfl rfl OO.out (by omega) ?_; intro v' w3 hO hb3; have OO := Lib.hid hO; have BB := Lib.hid (BB.out.trans hb3); clear hO hb3) | fail)
          go_roundw
          case rel => exact ⟨b &&& (b - 1), L ++ [t], rfl, by omega, E3, by simp; omega, OO, BB⟩
          case measure => simp [intOf]; omega
    · go_wp2_with (first | simp only [run_idx1] | fail)
      go_loopw [3, 5] (fun v z wr2 => z = .int .u64 0 ∧ Hid (OwnG 3 1 inE wr2 w.heap.size v (bitsL x)) ∧ Hid (Below w.heap.size w wr2)) (fun _ _ _ => 0)
      case atStart => exact ⟨rfl, OO, BB⟩
      case round =>
        clear OO BB
        obtain ⟨rfl, OO, BB⟩ := hrel
        go_wp2_with fail
        go_roundw
        case rel => exact ⟨Or.inr ⟨Or.inr (Or.inl rfl), OO⟩, BB⟩
        case measure => simp [intOf]
    · go_wp2_with (first | simp only [run_idx2] | fail)
      go_loopw [3, 5] (fun v z wr2 => z = .int .u64 0 ∧ Hid (OwnG 3 1 inE wr2 w.heap.size v (bitsL x)) ∧ Hid (Below w.heap.size w wr2)) (fun _ _ _ => 0)
      case atStart => exact ⟨rfl, OO, BB⟩
      case round =>
        clear OO BB
        obtain ⟨rfl, OO, BB⟩ := hrel
        go_wp2_with fail
        go_roundw
        case rel => exact ⟨Or.inr ⟨Or.inr (Or.inr (Or.inl rfl)), OO⟩, BB⟩
        case measure => simp [intOf]
    · go_wp2_with (first | simp only [run_idx3] | fail)
      go_loopw [3, 5] (fun v z wr2 => z = .int .u64 0 ∧ Hid (OwnG 3 1 inE wr2 w.heap.size v (bitsL x)) ∧ Hid (Below w.heap.size w wr2)) (fun _ _ _ => 0)
      case atStart => exact ⟨rfl, OO, BB⟩
      case round =>
        clear OO BB
        obtain ⟨rfl, OO, BB⟩ := hrel
        go_wp2_with fail
        go_roundw
        case rel => exact ⟨Or.inr ⟨Or.inr (Or.inr (Or.inr rfl)), OO⟩, BB⟩
        case measure => simp [intOf]
    · go_wp2_with fail
      refine bodyPost_ret (results_tmp rfl _ _ _) rfl ⟨_, rfl, ?_, BB.out⟩
      exact OO.out
end Tw
end Go.Proofs.YtjgcbeihgeaimaaGreatDoor
/-
  Masks: equality, Contains, maximal.
-/
namespace Go.Proofs.YtjgcbeihgeaimaaGreatDoor
namespace Tw
open Go.RowKit Lw Tk Ow Go.Shelf

theorem equal_mk (x y : Nat) (w : World) : (Op.equalIn 10000 57 (mkV x) (mkV y)).run Tryz.prog w = .ok (x == y) w := by
  have hu := Tryz.underlying57
  have e64 : ∀ (a b : Int) (w : World), (Op.equalIn 9999 55 (.int .u64 a) (.int .u64 b)).run Tryz.prog w = .ok (a == b) w := fun a b w => run_equalIn_int w 9998 55 .u64 .u64 a b Tryz.underlying55
  have hn : ((x : Int) == (y : Int)) = (x == y) := by
    by_cases h : x = y
    · subst h; rw [beq_self_eq_true, beq_self_eq_true]
    · have h2 : (x : Int) ≠ (y : Int) := by omega
      rw [beq_false_of_ne h, beq_false_of_ne h2]
  rw [show (10000 : Nat) = 9999 + 1 from rfl, Op.equalIn, ← hn]
  by_cases h : (x : Int) = (y : Int)
  · obtain rfl : x = y := by omega
    simp [run_underlying hu, Tryz.sizeOf55, Tryz.isAgg55, part, go_sem, List.range', List.forIn_cons, mkE, e64]
  · simp [run_underlying hu, Tryz.sizeOf55, Tryz.isAgg55, part, go_sem, List.range', List.forIn_cons, mkE, e64, h]
theorem eq_mk : EqlAt Tryz.prog 57 (fun x : Nat => .agg (mkE x).toArray) (fun x y => x == y) := by
  refine ⟨fun x y w => ?_, GuardAt.agg _ (by kernel_rfl)⟩
  rw [run_eql_struct]
  show ((Op.equalIn 10000 57 (mkV x) (mkV y)).run Tryz.prog w).andThen _ = _
  rw [equal_mk]; rfl
set_option maxRecDepth 100000 in
set_option maxHeartbeats 4000000 in
theorem index_nil (x : Nat) (w : World) : Calls Tryz.prog 56 #[.slice none 0 0, mkV x] w fun e w' => e = .returned (.int .i64 (-1)) ∧ Below w.heap.size w w' := by
  have F0 := Lib.hid ((Fr.start w).alloc (mkE x) 57)
  go_enter Tryz.func56, Tryz.ntmps56
  go_wp2_with fail
  go_loopw [8] (fun z wr => z = .int .i64 0 ∧ Hid (Below w.heap.size w wr)) (fun _ _ => 0)
  case atStart => exact ⟨rfl, Lib.hid F0.out.below⟩
  case round =>
    obtain ⟨rfl, BB⟩ := hrel
    go_wp2_with fail
    refine bodyPost_ret (results_tmp rfl _ _ _) rfl ⟨rfl, BB.out⟩
set_option maxRecDepth 100000 in
set_option maxHeartbeats 4000000 in
theorem contains_nil (x : Nat) (w : World) : Calls Tryz.prog 38 #[.slice none 0 0, mkV x] w fun e w' => e = .returned (.bool false) ∧ Below w.heap.size w w' := by
  have F0 := (Fr.start w).alloc (mkE x) 57
  have c0 := F0.cell 0 0 rfl rfl
  have c1 := F0.cell 0 1 rfl rfl
  have c2 := F0.cell 0 2 rfl rfl
  have c3 := F0.cell 0 3 rfl rfl
  have F0 := Lib.hid F0
  have hi := index_nil x (w.alloc (.cells (mkE x).toArray 57))
  go_enter Tryz.func38, Tryz.ntmps38
  go_wp2_with (go_at_call 56; refine hi.mono ?_; rintro e w2 ⟨rfl, hb⟩; have FB := Lib.hid (F0.out.call hb).below; clear hb)
  refine bodyPost_ret (results_tmp rfl _ _ _) rfl ⟨rfl, FB.out⟩
/-- slices.Contains at a slice of masks. -/
theorem contains_any {v : Value} (x : Nat) (L : List Nat) (w : World) (B : Nat) (hL : L.length ≤ 1000000) (h : OwnG 57 4 mkE w B v L) :
    Calls Tryz.prog 38 #[v, mkV x] w fun e w' => e = .returned (.bool (L.contains x)) ∧ Below w.heap.size w w' := by
  obtain ⟨A, cap, rfl, hr, -⟩ := OwnG.form (enc := mkE) (fun _ => rfl) h
  rcases h.1.2 with ⟨hv, h0⟩ | ⟨b, c, cur, hv, hb, hh, r⟩
  · have : L = [] := List.length_eq_zero_iff.1 h0
    subst this
    rw [hv]; exact contains_nil x w
  · cases hv
    have := AnyQ.slices_Contains Tryz.slCont 4 Tryz.isAgg57 Tryz.sizeOf57 mkE (fun _ => rfl) (fun x y => x == y) eq_mk b 0 L.length cap L x w (Nat.le_refl _) (by omega) (fun j hj i u hu => by
      obtain ⟨g, e, -, r⟩ := hr.row j hj
      cases e
      rw [getElem!_pos L j hj] at hu
      have := r i u hu
      rwa [Nat.zero_add])
    refine this.mono ?_
    rintro e w' ⟨rfl, hb⟩
    refine ⟨?_, hb⟩
    rw [List.take_length]
    refine congrArg (fun b => Ending.returned (.bool b)) ?_
    rw [List.any_beq]
/-! ### maximal -/
abbrev t2f : Value := .func (.func 21) #[] #[]
set_option maxRecDepth 100000 in
set_option maxHeartbeats 4000000 in
theorem clo_any (a : Nat) (ha : a < 512) (p q : Nat) (w0 W : World) (x : Fin 512) (hp : Fr w0 [(q, mkE a), (p, [t2f])] W) :
    Calls Tryz.prog 40 #[mkV x.1, .pointer (some ⟨q, 0, none⟩), .pointer (some ⟨p, 0, none⟩)] W fun e w' => e = .returned (.bool (a != x.1 && inM a x.1)) ∧ Below W.heap.size W w' := by
  obtain ⟨x, hx⟩ := x
  dsimp only
  have F0 := hp.alloc (mkE x) 57
  have FB := Lib.hid (((Fr.start W).alloc (mkE x) 57).below)
  have x0 := F0.cell 0 0 rfl rfl
  have x1 := F0.cell 0 1 rfl rfl
  have x2 := F0.cell 0 2 rfl rfl
  have x3 := F0.cell 0 3 rfl rfl
  have f0 := F0.cell 2 0 rfl rfl
  have a0 := F0.cell 1 0 rfl rfl
  have a1 := F0.cell 1 1 rfl rfl
  have a2 := F0.cell 1 2 rfl rfl
  have a3 := F0.cell 1 3 rfl rfl
  have hw := within_any a x (W.alloc (.cells (mkE x).toArray 57)) ha hx
  have hn : (Op.equalIn 10000 57 (.agg #[.int .u64 (a : Int), .int .u64 0, .int .u64 0, .int .u64 0]) (.agg #[.int .u64 (x : Int), .int .u64 0, .int .u64 0, .int .u64 0])).run Tryz.prog (W.alloc (.cells (mkE x).toArray 57)) = _ := equal_mk a x (W.alloc (.cells (mkE x).toArray 57))
  clear F0 hp
  by_cases h : a = x
  · subst h
    have e1 : (a != a) = false := by simp
    rw [e1]
    rw [beq_self_eq_true] at hn
    clear hw
    go_enter Tryz.func40, Tryz.ntmps40
    go_wp2_with fail
    refine bodyPost_ret (results_tmp rfl _ _ _) rfl ⟨rfl, FB.out⟩
  · have e1 : (a != x) = true := by simp [h]
    rw [e1, Bool.true_and]
    rw [beq_false_of_ne h] at hn
    go_enter Tryz.func40, Tryz.ntmps40
    go_wp2_with (go_at_call 21; refine hw.mono ?_; rintro e w2 ⟨rfl, hb⟩)
    refine bodyPost_ret (results_tmp rfl _ _ _) rfl ⟨rfl, below_then FB.out hb⟩
end Tw
end Go.Proofs.YtjgcbeihgeaimaaGreatDoor
/-
  Masks: maximal.
-/
namespace Go.Proofs.YtjgcbeihgeaimaaGreatDoor
namespace Tw
open Go.RowKit Lw Tk Ow Go.Shelf

theorem Fr.grow {w0 w w' : World} {L : List (Nat × List Value)} (h : Fr w0 L w) {B : Nat} (hb : Below B w w') (h0 : w0.heap.size ≤ B) (hL : ∀ p ∈ L, p.1 < B) : Fr w0 L w' :=
  ⟨h.below.trans (hb.mono h0), h.lo, fun p hp => Nat.lt_of_lt_of_le (h.hi p hp) hb.size, h.nd, fun p hp j v hj => by
    rw [hb.cell (p := ⟨p.1, 0 + j, none⟩) (hL p hp)]
    exact h.row p hp j v hj, fun p hp j hj => by
    rw [hb.cell (p := ⟨p.1, 0 + j, none⟩) (hL p hp), hb.frozen (p := ⟨p.1, 0 + j, none⟩) (hL p hp)]
    exact h.th p hp j hj⟩
theorem OwnG.least {α : Type} {E : TypeId} {k : Nat} {enc : α → List Value} {w : World} {B B' : Nat} {v : Value} {l : List α} (h : OwnG E k enc w B v l) (hB : B' ≤ B) : OwnG E k enc w B' v l := by
  refine ⟨⟨h.1.1, ?_⟩, Nat.le_trans hB h.2⟩
  rcases h.1.2 with h | ⟨g, cap, cur, h1, h2, h3⟩
  · exact .inl h
  · exact .inr ⟨g, cap, cur, h1, Nat.le_trans hB h2, h3⟩
theorem fins {M : List Nat} (h : ∀ x ∈ M, x < 512) : ∃ Z : List (Fin 512), Z.map Fin.val = M := by
  induction M with
  | nil => exact ⟨[], rfl⟩
  | cons a M ih =>
    obtain ⟨Z, hz⟩ := ih fun x hx => h x (by simp [hx])
    exact ⟨⟨a, h a (by simp)⟩ :: Z, by simp [hz]⟩
theorem maxTo_step {M L : List Nat} {i : Nat} (hi : i < M.length) {r : List Nat} (h : maxTo M L (M.drop i) = r) {L' : List Nat}
    (e : (if L.contains M[i] || M.any (fun b => M[i] != b && inM M[i] b) then L else L ++ [M[i]]) = L') : maxTo M L' (M.drop (i + 1)) = r := by
  rw [List.drop_eq_getElem_cons hi, maxTo, e] at h
  exact h
set_option maxRecDepth 100000 in
set_option maxHeartbeats 8000000 in
theorem maximal_any (A : Option Addr) (cap : Nat) (M : List Nat) (hM : ∀ x ∈ M, x < 512) (hl : M.length ≤ 100000) (w : World) (hr : RowsG 4 mkE w A M) :
    Calls Tryz.prog 20 #[.slice A M.length cap, t2f] w fun e w' => ∃ V, e = .returned V ∧ OwnG 57 4 mkE w' w.heap.size V (maxTo M [] M) ∧ Below w.heap.size w w' := by
  have F0 := Lib.hid ((Fr.start w).alloc [t2f] 61)
  have HR := Lib.hid (fun w' (hb : Below w.heap.size w w') => hr.below hb)
  clear hr
  go_enter Tryz.func20, Tryz.ntmps20
  go_wp2_with fail
  have O0 := Lib.hid (OwnG.nil (E := 57) (k := 4) (enc := mkE) (w.alloc (.cells [t2f].toArray 61)) (w.heap.size + 1) (by simp))
  go_loopw [5, 10] (fun v z wr => ∃ (i : Nat) (L : List Nat), z = .int .i64 (i : Int) ∧ i ≤ M.length ∧ L.length ≤ i ∧ Hid (maxTo M L (M.drop i) = maxTo M [] M) ∧ Hid (OwnG 57 4 mkE wr (w.heap.size + 1) v L) ∧ Hid (Fr w [(w.heap.size, [t2f])] wr)) (fun _ z _ => ((M.length : Int) - intOf z).toNat)
  case atStart => exact ⟨0, [], rfl, by omega, by simp, Lib.hid rfl, O0, F0⟩
  case round =>
    clear F0 O0
    obtain ⟨i, L, rfl, hi, hL, EM, OO, FF⟩ := hrel
    by_cases hlt : i < M.length
    · have rows := (HR.out _ FF.out.below)
      obtain ⟨g, rfl, hg, hrow⟩ := rows.row i hlt
      have g0 : wr.cell? ⟨g, i * 4, none⟩ = some (.int .u64 (M[i] : Int)) := hrow 0 _ rfl
      have g1 := hrow 1 _ rfl
      have g2 := hrow 2 _ rfl
      have g3 := hrow 3 _ rfl
      have ha : M[i] < 512 := hM _ (List.getElem_mem hlt)
      have ST := Lib.hid (fun L' => maxTo_step hlt EM.out (L' := L'))
      clear hrow
      generalize M[i] = a at *
      have FA := FF.out.alloc (mkE a) 57
      have a0 := FA.cell 0 0 rfl rfl
      have a1 := FA.cell 0 1 rfl rfl
      have a2 := FA.cell 0 2 rfl rfl
      have a3 := FA.cell 0 3 rfl rfl
      have OA := OO.out.below ((Below.refl _ wr).alloc (Nat.le_refl _) (.cells (mkE a).toArray 57))
      have hc := contains_any a L _ _ (by omega) OA
      have hii : IntKind.i64.wrap ((i : Int) + 1) = ((i + 1 : Nat) : Int) := by rw [IntKind.wrap_i64]; omega
      cases hcc : L.contains a
      · rw [hcc] at hc
        obtain ⟨Z, hZ⟩ := fins hM
        have hlen : Z.length = M.length := by rw [← hZ, List.length_map]
        have eany : ((Z.take M.length).any fun x => a != x.1 && inM a x.1) = M.any (fun b => a != b && inM a b) := by
          rw [← hlen, List.take_length, ← hZ, List.any_map]; rfl
        have CF := Lib.hid (fun w2 (hb : Below (wr.alloc (.cells (mkE a).toArray 57)).heap.size (wr.alloc (.cells (mkE a).toArray 57)) w2) =>
          AnyQ.slices_ContainsFunc Tryz.slContF 4 Tryz.isAgg57 Tryz.sizeOf57 (fun x : Fin 512 => mkE x.1) (fun _ => rfl) (fun x => a != x.1 && inM a x.1) 40 #[.pointer (some ⟨wr.heap.size, 0, none⟩), .pointer (some ⟨w.heap.size, 0, none⟩)]
            (enters_of Tryz.func40 (by kernel_rfl) rfl) g 0 M.length cap Z w2
            (fun W x hW => (clo_any a ha w.heap.size wr.heap.size w W x (FA.call (below_then hb hW))).mono fun _ _ ⟨he, hb'⟩ => ⟨he, below_then hW hb'⟩) (by omega) (by omega) (by have := hb.size; simp only [World.size_alloc] at this; omega)
            (fun j hj q u hu => by
              have hjm : j < M.length := by omega
              have hbw := below_then ((Below.refl _ wr).alloc (Nat.le_refl _) (.cells (mkE a).toArray 57)) hb
              obtain ⟨g', e, -, r⟩ := (rows.below hbw).row j hjm
              cases e
              rw [getElem!_pos Z j hj] at hu
              have e3 : M[j] = (Z[j]).1 := by simp only [← hZ, List.getElem_map]
              have := r q u (by rw [e3]; exact hu)
              rwa [Nat.zero_add]))
        rw [eany] at CF
        clear hZ
        cases hca : M.any (fun b => a != b && inM a b)
        · rw [hca] at CF
          have E2 := Lib.hid (ST.out (L ++ [a]) (by rw [hcc, hca]; rfl))
          clear ST
          go_wp2_with (first | (go_at_call 38; refine hc.mono ?_; rintro e w2 ⟨rfl, hb⟩; have CG := CF.out _ hb; have F2 := FA.call hb; have a0 := F2.cell 0 0 rfl rfl; have a1 := F2.cell 0 1 rfl rfl; have a2 := F2.cell 0 2 rfl rfl; have a3 := F2.cell 0 3 rfl rfl; have F2 := Lib.hid F2; have O2 := Lib.hid (OA.below hb); clear hb) | (go_at_call 39; refine CG.mono ?_; rintro e w3 ⟨rfl, hb⟩; have F3 := F2.out.call hb; have a0 := F3.cell 0 0 rfl rfl; have a1 := F3.cell 0 1 rfl rfl; have a2 := F3.cell 0 2 rfl rfl; have a3 := F3.cell 0 3 rfl rfl; have F3 := Lib.hid F3; have O3 := Lib.hid (O2.out.below hb); clear hb) | (at_builtin; refine wp_appG 54 (.agg #[.int .u64 0, .int .u64 0, .int .u64 0, .int .u64 0]) 32 info_mk Tryz.underlying54 rfl (by decide) (by decide) (fun _ => rfl) mkE_one _ rfl (.tmp 22) (.tmp 24) rfl (w.heap.size + 1) _ L a rfl rfl O3.out (by omega) ?_; intro v' w4 hO hb4; have O4 := Lib.hid hO; have F4 := Lib.hid (F3.out.tail.grow hb4 (by omega) (fun p hp => by rcases List.mem_singleton.1 hp with rfl; exact Nat.lt_succ_self _)); clear hO hb4) | fail)
          go_roundw
          case rel => exact ⟨i + 1, L ++ [a], rfl, by omega, by simp; omega, E2, O4, F4⟩
          case measure => simp [intOf]; omega
        · rw [hca] at CF
          have E2 := Lib.hid (ST.out L (by rw [hcc, hca]; rfl))
          clear ST
          go_wp2_with (first | (go_at_call 38; refine hc.mono ?_; rintro e w2 ⟨rfl, hb⟩; have CG := CF.out _ hb; have F2 := Lib.hid (FA.call hb); have O2 := Lib.hid (OA.below hb); clear hb) | (go_at_call 39; refine CG.mono ?_; rintro e w3 ⟨rfl, hb⟩; have F3 := Lib.hid (F2.out.call hb).tail; have O3 := Lib.hid (O2.out.below hb); clear hb))
          go_roundw
          case rel => exact ⟨i + 1, L, rfl, by omega, by omega, E2, O3, F3⟩
          case measure => simp [intOf]; omega
      · rw [hcc] at hc
        have E2 := Lib.hid (ST.out L (by rw [hcc]; rfl))
        clear ST
        go_wp2_with (go_at_call 38; refine hc.mono ?_; rintro e w2 ⟨rfl, hb⟩; have F2 := Lib.hid (FA.call hb).tail; have O2 := Lib.hid (OA.below hb); clear hb)
        go_roundw
        case rel => exact ⟨i + 1, L, rfl, by omega, by omega, E2, O2, F2⟩
        case measure => simp [intOf]; omega
    · obtain rfl : i = M.length := by omega
      have E2 := EM.out
      rw [List.drop_length] at E2
      go_wp2_with fail
      refine bodyPost_ret (results_tmp rfl _ _ _) rfl ⟨_, rfl, ?_, FF.out.below⟩
      rw [← E2]
      exact OO.out.least (by omega)
end Tw
end Go.Proofs.YtjgcbeihgeaimaaGreatDoor
/-
  tracklet.Find.
-/
namespace Go.Proofs.YtjgcbeihgeaimaaGreatDoor
namespace Tw
open Go.RowKit Lw Tk _root_.Go.Proofs.YtjgcbeihgeaimaaGreatDoor.Op Ow Go.Shelf
attribute [local go_sem] Oper.semAt_some

/-- The mask of a pair, after the first k spots. -/
def maskTo (l : List Ob) (u : Rl) (i j : Fin l.length) : Nat → Nat
  | 0 => (0 ||| 2 ^ i.1) ||| 2 ^ j.1
  | k + 1 => if h : k < l.length then (if btw u l[i] l[j] (l[k]'h) then maskTo l u i j k ||| 2 ^ k else maskTo l u i j k) else maskTo l u i j k
theorem maskTo_lt (l : List Ob) (u : Rl) (i j : Fin l.length) (hl : l.length ≤ 9) : ∀ k, maskTo l u i j k < 512
  | 0 => or_lt (or_lt (by omega) (by omega)) (by omega)
  | k + 1 => by
    have := maskTo_lt l u i j hl k
    rw [maskTo]
    split
    · split
      · exact or_lt this (by omega)
      · exact this
    · exact this
def maskOf (l : List Ob) (u : Rl) (z : Fin l.length × Fin l.length) : Nat := maskTo l u z.1 z.2 l.length
theorem maskTo_yes {l : List Ob} {u : Rl} {i j : Fin l.length} {k : Nat} (h : k < l.length) (hb : btw u l[i] l[j] (l[k]'h)) : maskTo l u i j (k + 1) = maskTo l u i j k ||| 2 ^ k := by rw [maskTo, dif_pos h, if_pos hb]
theorem maskTo_no {l : List Ob} {u : Rl} {i j : Fin l.length} {k : Nat} (h : k < l.length) (hb : ¬ btw u l[i] l[j] (l[k]'h)) : maskTo l u i j (k + 1) = maskTo l u i j k := by rw [maskTo, dif_pos h, if_neg hb]
theorem maskTo_bit (l : List Ob) (u : Rl) (i j : Fin l.length) (m : Nat) : ∀ k, (maskTo l u i j k).testBit m = true ↔ (m = i.1 ∨ m = j.1 ∨ ∃ h : m < l.length, m < k ∧ btw u l[i] l[j] (l[m]'h))
  | 0 => by
    rw [maskTo, Nat.testBit_or, Nat.testBit_or, Nat.zero_testBit, Bool.false_or, Bool.or_eq_true, Nat.testBit_two_pow, Nat.testBit_two_pow]
    simp only [decide_eq_true_iff]
    constructor
    · rintro (h | h)
      · exact Or.inl h.symm
      · exact Or.inr (Or.inl h.symm)
    · rintro (h | h | ⟨_, h, _⟩)
      · exact Or.inl h.symm
      · exact Or.inr h.symm
      · omega
  | k + 1 => by
    have ih := maskTo_bit l u i j m k
    rw [maskTo]
    split
    · rename_i hk
      split
      · rename_i hb
        rw [Nat.testBit_or, Bool.or_eq_true, ih, Nat.testBit_two_pow, decide_eq_true_iff]
        constructor
        · rintro ((h | h | ⟨h1, h2, h3⟩) | rfl)
          · exact Or.inl h
          · exact Or.inr (Or.inl h)
          · exact Or.inr (Or.inr ⟨h1, by omega, h3⟩)
          · exact Or.inr (Or.inr ⟨hk, by omega, hb⟩)
        · rintro (h | h | ⟨h1, h2, h3⟩)
          · exact Or.inl (Or.inl h)
          · exact Or.inl (Or.inr (Or.inl h))
          · by_cases e : m = k
            · exact Or.inr e.symm
            · exact Or.inl (Or.inr (Or.inr ⟨h1, by omega, h3⟩))
      · rename_i hb
        rw [ih]
        constructor
        · rintro (h | h | ⟨h1, h2, h3⟩)
          · exact Or.inl h
          · exact Or.inr (Or.inl h)
          · exact Or.inr (Or.inr ⟨h1, by omega, h3⟩)
        · rintro (h | h | ⟨h1, h2, h3⟩)
          · exact Or.inl h
          · exact Or.inr (Or.inl h)
          · by_cases e : m = k
            · subst e; exact absurd h3 hb
            · exact Or.inr (Or.inr ⟨h1, by omega, h3⟩)
    · rename_i hk
      rw [ih]
      constructor
      · rintro (h | h | ⟨h1, h2, h3⟩)
        · exact Or.inl h
        · exact Or.inr (Or.inl h)
        · exact Or.inr (Or.inr ⟨h1, by omega, h3⟩)
      · rintro (h | h | ⟨h1, h2, h3⟩)
        · exact Or.inl h
        · exact Or.inr (Or.inl h)
        · exact Or.inr (Or.inr ⟨h1, by omega, h3⟩)
/-- The members of a pair's set. -/
def setOf (l : List Ob) (u : Rl) (z : Fin l.length × Fin l.length) : List Nat := (List.range l.length).filter fun k => if h : k < l.length then decide (k = z.1.1 ∨ k = z.2.1 ∨ btw u l[z.1] l[z.2] (l[k]'h)) else false
theorem mask_set (l : List Ob) (u : Rl) (z : Fin l.length × Fin l.length) (hl : l.length ≤ 9) : bitsL (maskOf l u z) = setOf l u z := by
  refine inc_ext (inc_bits _) (inc_filter _ _) fun m => ?_
  have hz1 := z.1.2
  have hz2 := z.2.2
  unfold setOf
  rw [mem_bits, maskOf, maskTo_bit, List.mem_filter, List.mem_range]
  constructor
  · rintro ⟨h9, h⟩
    have hm : m < l.length := by
      rcases h with h | h | ⟨h, _⟩ <;> omega
    refine ⟨hm, ?_⟩
    rw [dif_pos hm, decide_eq_true_iff]
    rcases h with h | h | ⟨_, _, h⟩
    · exact Or.inl h
    · exact Or.inr (Or.inl h)
    · exact Or.inr (Or.inr h)
  · rintro ⟨hm, h⟩
    rw [dif_pos hm, decide_eq_true_iff] at h
    refine ⟨by omega, ?_⟩
    rcases h with h | h | h
    · exact Or.inl h
    · exact Or.inr (Or.inl h)
    · exact Or.inr (Or.inr ⟨hm, hm, h⟩)
theorem Fr.added {w0 w w' : World} {b x i n : Nat} {L : List (Nat × List Value)} (h : Fr w0 ((b, mkE x) :: L) w) (hw : w' = (w.setCell ⟨b, 0, none⟩ (.int .u64 ((x ||| 2 ^ i : Nat) : Int))).drewN n) : Fr w0 ((b, mkE (x ||| 2 ^ i)) :: L) w' := by
  subst hw
  exact (h.put1 0 rfl 0 _ (by simp)).drewN n
theorem blk_below {W W' : World} {b : Nat} {cs : Array Value} {t : TypeId} (h : W.heap[b]? = some (.cells cs t (0, 0))) (hb : Below W.heap.size W W') : W'.heap[b]? = some (.cells cs t (0, 0)) := (hb.block b (lt_of_block h)).trans h
theorem Boxed.below {W W' : World} {b : Nat} {t : TypeId} {v : Value} (h : Boxed W b t v) (hb : Below W.heap.size W W') : Boxed W' b t v := (hb.block b h.lt).trans h
theorem OwnG.kept {α β : Type} {E1 E2 : TypeId} {k1 k2 : Nat} {enc1 : α → List Value} {enc2 : β → List Value} {w w' : World} {B1 B2 : Nat} {v1 v2 : Value} {l1 : List α} {l2 : List β} (h1 : OwnG E1 k1 enc1 w B1 v1 l1) (h2 : OwnG E2 k2 enc2 w B2 v2 l2) (hne : E1 ≠ E2) {tmp : Obj} (hg : (w.alloc tmp).grownBy w' v2.ownBlock) : OwnG E1 k1 enc1 w' B1 v1 l1 := by
  have hg' := (World.grownBy_alloc w tmp v2.ownBlock).trans hg
  refine ⟨h1.1.kept hg' ?_, Nat.le_trans h1.2 hg'.size⟩
  rcases h1.1.2 with ⟨rfl, _⟩ | ⟨g, cap, cur, rfl, _, hh, _⟩
  · exact .inl rfl
  · right
    intro e
    rcases h2.1.2 with ⟨rfl, _⟩ | ⟨g2, cap2, cur2, rfl, _, hh2, _⟩
    · simp [Value.ownBlock] at e
    · obtain rfl : g = g2 := by simpa [Value.ownBlock] using e
      rw [hh] at hh2
      cases hh2
      exact hne rfl
/-- The headers and what they hold. -/
def ItemsG (w : World) (B : Nat) (S : List Sl) (K : List (List Nat)) : Prop := S.length = K.length ∧ ∀ i (h : i < S.length) (h2 : i < K.length), OwnG 3 1 inE w B (.slice (S[i]'h).a (S[i]'h).n (S[i]'h).c) (K[i]'h2)
theorem ItemsG.below {w w' : World} {B : Nat} {S : List Sl} {K : List (List Nat)} (h : ItemsG w B S K) (hb : Below w.heap.size w w') : ItemsG w' B S K := ⟨h.1, fun i a b => (h.2 i a b).below hb⟩
theorem ItemsG.kept {β : Type} {E2 : TypeId} {k2 : Nat} {enc2 : β → List Value} {w w' : World} {B B2 : Nat} {v2 : Value} {l2 : List β} {S : List Sl} {K : List (List Nat)} (h : ItemsG w B S K) (h2 : OwnG E2 k2 enc2 w B2 v2 l2) (hne : 3 ≠ E2) {tmp : Obj} (hg : (w.alloc tmp).grownBy w' v2.ownBlock) : ItemsG w' B S K := ⟨h.1, fun i a b => (h.2 i a b).kept h2 hne hg⟩
theorem ItemsG.snoc {w : World} {B : Nat} {S : List Sl} {K : List (List Nat)} {s : Sl} {q : List Nat} (h : ItemsG w B S K) (g : OwnG 3 1 inE w B (.slice s.a s.n s.c) q) : ItemsG w B (S ++ [s]) (K ++ [q]) := by
  refine ⟨by simp [h.1], fun i a b => ?_⟩
  have hl := h.1
  rcases Nat.lt_or_ge i S.length with c | c
  · have c2 : i < K.length := by omega
    simp only [List.getElem_append_left c, List.getElem_append_left c2]
    exact h.2 i c c2
  · simp only [List.length_append, List.length_cons, List.length_nil] at a
    have e : i = S.length := by omega
    subst e
    simp only [List.getElem_concat_length]
    have e2 : (K ++ [q])[S.length]'b = q := by
      rw [List.getElem_append_right (by omega)]
      simp [hl]
    rw [e2]
    exact g
theorem ItemsG.facts {w : World} {B : Nat} {S : List Sl} {K : List (List Nat)} (h : ItemsG w B S K) : ∀ i (a : i < S.length) (b : i < K.length), (S[i]'a).n = (K[i]'b).length ∧ RowsG 1 inE w (S[i]'a).a (K[i]'b) := fun i a b => by
  obtain ⟨A, cap, e, r, -⟩ := OwnG.form (enc := inE) (fun _ => rfl) (h.2 i a b)
  injection e with e1 e2 e3
  exact ⟨e2, by rw [e1]; exact r⟩
theorem maxTo_len (M : List Nat) : ∀ (l out : List Nat), (maxTo M out l).length ≤ out.length + l.length
  | [], out => by simp [maxTo]
  | a :: l, out => by
    rw [maxTo]
    have := maxTo_len M l (if out.contains a || M.any (fun b => a != b && inM a b) then out else out ++ [a])
    refine Nat.le_trans this ?_
    split <;> simp <;> omega
def keepTo (Q : List Nat) (c i : Nat) : List (List Nat) := ((Q.take i).map bitsL).filter fun s => decide (c ≤ s.length)
theorem keepTo_yes {Q : List Nat} {c i : Nat} (h : i < Q.length) (g : c ≤ (bitsL Q[i]).length) : keepTo Q c (i + 1) = keepTo Q c i ++ [bitsL Q[i]] := by
  unfold keepTo
  rw [← List.take_append_getElem h, List.map_append, List.filter_append]
  simp [g]
theorem keepTo_no {Q : List Nat} {c i : Nat} (h : i < Q.length) (g : ¬ c ≤ (bitsL Q[i]).length) : keepTo Q c (i + 1) = keepTo Q c i := by
  unfold keepTo
  rw [← List.take_append_getElem h, List.map_append, List.filter_append]
  simp [g]
theorem putObj_cell {w : World} {D b j : Nat} {o o' : Obj} {v : Value} (h : w.heap[D]? = some o) (ho : o.isCells = false) (hc : w.cell? ⟨b, j, none⟩ = some v) : (w.putObj D o').cell? ⟨b, j, none⟩ = some v := by
  have hne : b ≠ D := by
    rintro rfl
    obtain ⟨c, e, fr, hb, -⟩ := Sort.cells_of_cell? hc
    rw [h] at hb
    cases hb
    cases ho
  rw [World.cell?_of_block (w := w) (World.putObj_heap_other (by omega))]
  exact hc
theorem RowsG.putObj {α : Type} {k : Nat} {enc : α → List Value} {w : World} {A : Option Addr} {l : List α} (h : RowsG k enc w A l) {D : Nat} {o o' : Obj} (hD : w.heap[D]? = some o) (ho : o.isCells = false) : RowsG k enc (w.putObj D o') A l :=
  ⟨fun i hi => by
    obtain ⟨g, e, lt, r⟩ := h.row i hi
    exact ⟨g, e, by rw [World.putObj_size]; exact lt, fun j v hv => putObj_cell hD ho (r j v hv)⟩⟩
theorem SetsAt.putObj {w : World} {V : Value} {K : List (List Nat)} (h : SetsAt w V K) {D : Nat} {o o' : Obj} (hD : w.heap[D]? = some o) (ho : o.isCells = false) : SetsAt (w.putObj D o') V K := by
  obtain ⟨A, cap, S, h1, h2, h3, h4⟩ := h
  exact ⟨A, cap, S, h1, h2, h3.putObj hD ho, fun i a b => ⟨(h4 i a b).1, (h4 i a b).2.putObj hD ho⟩⟩
set_option maxRecDepth 100000 in
set_option maxHeartbeats 8000000 in
theorem find_any (x : Option Addr) (cap : Nat) (l : List Ob) (u : Rl) (w : World) (hE : ES w) (hD : DB w) (hl : SlA w x l) (hm0 : l.length ≤ 1000000) (hs : stT l u = 0 → l.length ≤ 9) (hb : OBs l) :
    Calls Tryz.prog 7 #[.slice x l.length cap, rlV u] w fun e w' => ∃ V, e = .returned (.tuple #[V, .int .i64 (stT l u)]) ∧ Below w.heap.size w w' ∧
      ∃ K', SetsAt w' V K' ∧ (stT l u = 0 → K'.Pairwise (fun s t => ltL t s = false) ∧ K'.Perm (keepL ((allA l u l.length).map (maskOf l u)) u.count.toNat)) ∧ (stT l u ≠ 0 → K' = []) := by
  have F0 := ((Fr.start w).alloc [.slice x l.length cap] 22).alloc (rlC u) 24
  have BO0 := Below.heap_alloc (w.alloc (.cells [.slice x l.length cap].toArray 22)) (.cells (rlC u).toArray 24) w.heap.size (by simp)
  rw [World.alloc_heap_new] at BO0
  have BR0 := World.alloc_heap_new (w.alloc (.cells [.slice x l.length cap].toArray 22)) (.cells (rlC u).toArray 24)
  simp only [World.size_alloc] at F0 BR0
  have BO0 := Lib.hid BO0
  have BR0 := Lib.hid BR0
  have F0 := Lib.hid F0
  have ST := Lib.hid (fun w' (hbw : Below w.heap.size w w') => start_any x cap l u w' (hE.below hbw) (hl.below hbw) (by omega) hb)
  refine (callsIn_wide (n := 4)).1 ?_
  refine callsIn_of_wp_marks Tryz.func7 rfl trivial ?_ rfl
  simp only [Tryz.ntmps7, List.size_toArray, List.length_cons, List.length_nil, Nat.reduceAdd, Nat.reduceSub, Array.replicate_succ, Array.replicate_zero, List.push_toArray, List.append_toArray, List.nil_append, List.cons_append]
  by_cases h0 : stT l u = 0
  · obtain ⟨hlen, hok, hu⟩ := stT_ok h0
    have hm := hs h0
    clear hs
    have HL := Lib.hid (fun w' (hbw : Below w.heap.size w w') => hl.below hbw)
    have HD := Lib.hid (fun w' (hbw : Below w.heap.size w w') => hD.below hbw)
    rw [h0] at ST ⊢
    clear hE hl hb h0 hD
    gi_wp2_with (first | (refine ⟨trivial, ?_⟩; gi_at_call 14; refine (callsIn_wide.2 (ST.out _ F0.out.below)).mono ?_; rintro e w1 ⟨rfl, hb⟩; have F1 := F0.out.call hb; have BO1 := Lib.hid (blk_below BO0.out hb); have BR1 := Lib.hid (blk_below BR0.out hb); have c0 := F1.cell 0 0 rfl rfl; have c1 := F1.cell 0 1 rfl rfl; have c2 := F1.cell 0 2 rfl rfl; have c3 := F1.cell 0 3 rfl rfl; have c4 := F1.cell 0 4 rfl rfl; have co := F1.cell 1 0 rfl rfl; have F2 := F1.alloc (ntC x l.length cap u) 49; have F3 := F2.alloc [.slice none 0 0] 54; have d0 := F3.cell 1 0 rfl rfl; have d1 := F3.cell 1 1 rfl rfl; have d2 := F3.cell 1 2 rfl rfl; have d3 := F3.cell 1 3 rfl rfl; have d4 := F3.cell 1 4 rfl rfl; have d5 := F3.cell 1 5 rfl rfl; have F3 := Lib.hid F3; clear hb F1 F2) | (refine ⟨trivial, ?_⟩; gi_at_call 15; refine (callsIn_wide.2 (pairs_walk _ _ _ _ _)).mono ?_; rintro e w' ⟨rfl, rfl⟩))
    clear c0 c1 c2 c3 c4 co d0 d1 d2 d3 d4 d5
    have F4 := F3.out.alloc (ntC x l.length cap u) 49
    have lw : w.heap.size + 1 < w1.heap.size := lt_of_block BR1.out
    have al := fun (W : World) (o : Obj) (b : Nat) (cs : Array Value) (t : TypeId) (h : W.heap[b]? = some (.cells cs t (0, 0))) => (Below.heap_alloc W o b (lt_of_block h)).trans h
    have bO := al _ (.cells (ntC x l.length cap u).toArray 49) _ _ _ (al _ (.cells #[.slice none 0 0] 54) _ _ _ (al _ (.cells (ntC x l.length cap u).toArray 49) _ _ _ BO1.out))
    have bR := al _ (.cells (ntC x l.length cap u).toArray 49) _ _ _ (al _ (.cells #[.slice none 0 0] 54) _ _ _ (al _ (.cells (ntC x l.length cap u).toArray 49) _ _ _ BR1.out))
    have bN := al _ (.cells (ntC x l.length cap u).toArray 49) _ _ _ (al _ (.cells #[.slice none 0 0] 54) _ _ _ (World.alloc_heap_new w1 (.cells (ntC x l.length cap u).toArray 49)))
    have bS := (Boxed.new (w1.alloc (.cells (ntC x l.length cap u).toArray 49)) 54 (.slice none 0 0)).alloc (.cells (ntC x l.length cap u).toArray 49)
    have bI := World.alloc_heap_new ((w1.alloc (.cells (ntC x l.length cap u).toArray 49)).alloc (.cells #[.slice none 0 0] 54)) (.cells (ntC x l.length cap u).toArray 49)
    clear al
    simp only [World.size_alloc] at F4 bS bI
    obtain ⟨i0, hi, hz0, hz1, hz2⟩ := info_parts info_mk
    refine wpIn_rangeFunc_ownG rfl (by omega) (gf := 30) (lb := #[.pointer (some ⟨w1.heap.size + 1 + 1, 0, none⟩)]) rfl trivial (enters_of Tryz.func30 (by kernel_rfl) rfl)
      (pairs_stops 3 (by omega) (w1.heap.size + 1 + 1) l x cap u w _ (HL.out w (Below.refl _ _)) hok hu (by omega) F4.below bI) Wd.keepB_t (Wd.keepB_b (by simp; omega) (by simp)) (Below.refl _ _) (fun _ => rfl)
      (fun pre W => ((∃ v, Boxed W (w1.heap.size + 1) 54 v ∧ W.ownsRow w.heap.size 57 4 v pre.length ((pre.map (maskOf l u)).flatMap mkE) ∧ True) ∧ (W.heap[w1.heap.size + 1 + 1]? = some (.cells (ntC x l.length cap u).toArray 49 (0, 0)) ∧ W.heap[w1.heap.size]? = some (.cells (ntC x l.length cap u).toArray 49 (0, 0)) ∧ W.heap[w.heap.size]? = some (.cells [.slice x l.length cap].toArray 22 (0, 0)) ∧ W.heap[w.heap.size + 1]? = some (.cells (rlC u).toArray 24 (0, 0)))) ∧ Below w.heap.size w W)
      (fun _ _ _ => False)
      (OwnFrom.and (OwnFrom.and (Own.from (holdsRow_own w.heap.size (w1.heap.size + 1) 54 57 4 (fun (pre : List (Fin l.length × Fin l.length)) => pre.length) (fun pre => (pre.map (maskOf l u)).flatMap mkE) (fun _ _ => True)) _) (OwnFrom.and (Own.from (blk_own _ _ _) _) (OwnFrom.and (Own.from (blk_own _ _ _) _) (OwnFrom.and (Own.from (blk_own _ _ _) _) (Own.from (blk_own _ _ _) _))))) (ownFrom_below (Nat.le_refl _) (by simp; omega)))
      (fun _ _ _ _ _ hs _ _ => hs)
      ⟨⟨⟨_, bS, World.ownsRow_nil _ _ _ _, trivial⟩, bI, bN, bO, bR⟩, F4.below⟩
      (fun z => { tmps := #[.slice x l.length cap, rlV u, .pointer (some ⟨w.heap.size, 0, none⟩), .pointer (some ⟨w.heap.size + 1, 0, none⟩), .slice none 0 0, .int .i64 0, .int .i64 0, .pointer (some ⟨w1.heap.size, 0, none⟩), .pointer (some ⟨w1.heap.size + 1, 0, none⟩), (.int .i64 (z.1.1 : Int)), (.int .i64 (z.2.1 : Int)), undef, undef, undef, undef, undef, undef, .slice x l.length cap, .agg #[.int .i64 u.least, .int .i64 u.most, .int .i64 u.speed, .int .i64 u.off, .int .i64 u.count], .int .i64 0, .int .i64 0, .bool false, undef, .slice x l.length cap, .agg #[.int .i64 u.least, .int .i64 u.most, .int .i64 u.speed, .int .i64 u.off, .int .i64 u.count], .agg #[.slice x l.length cap, .int .i64 u.least, .int .i64 u.most, .int .i64 u.speed, .int .i64 u.off, .int .i64 u.count], .agg #[.slice x l.length cap, .int .i64 u.least, .int .i64 u.most, .int .i64 u.speed, .int .i64 u.off, .int .i64 u.count], .func (.func 30) #[] #[.pointer (some ⟨w1.heap.size + 1 + 1, 0, none⟩)], (.int .i64 (z.1.1 : Int)), (.int .i64 (z.2.1 : Int)), undef, undef, undef, undef, undef, undef, undef, undef, undef, undef, undef, undef, undef, undef, undef, undef, undef, undef, undef, undef, undef, undef, undef, undef, undef, undef, undef, undef, undef, undef, undef, undef, undef, undef, undef, undef, undef, undef, undef, undef, undef, undef, undef], defers := [] }) ?assign ?body ?done ?stop
    case assign =>
      intro l' z W K hK
      dsimp only [pEnc]
      gi_wp2
      exact hK
    case body =>
      rintro l' pre z W ⟨⟨⟨v, hv, hrow, -⟩, hI, hN, hO, hR⟩, hB⟩ hlt
      have hpl : pre.length ≤ 100 := by
        exact Nat.le_trans (Nat.le_of_lt hlt) (Nat.mul_le_mul (show l.length ≤ 10 by omega) (show l.length ≤ 10 by omega))
      have hy1 : z.1.1 < 9 := Nat.lt_of_lt_of_le z.1.2 hm
      have hy2 : z.2.1 < 9 := Nat.lt_of_lt_of_le z.2.2 hm
      obtain ⟨B, off, hx, -⟩ := (HL.out w (Below.refl _ _)).get z.1.2
      subst hx
      have HP := Lib.hid (fun ws (hb : Below W.heap.size W ws) k (hk : k < l.length) => pair_at (HL.out w (Below.refl _ _)) hok rfl z.1.2 hk (hB.trans (hb.mono hB.size)))
      have FA : Fr W [(W.heap.size, mkE 0)] (W.alloc (.cells #[.int .u64 0, .int .u64 0, .int .u64 0, .int .u64 0] 57)) := (Fr.start W).alloc [.int .u64 0, .int .u64 0, .int .u64 0, .int .u64 0] 57
      have FA := Lib.hid FA
      have hN := Lib.hid hN
      have hO := Lib.hid hO
      have hR := Lib.hid hR
      have hI := Lib.hid hI
      have hv := Lib.hid hv
      have hrow := Lib.hid hrow
      have A1 := Lib.hid (add_any W.heap.size z.1.1 0 _ (by omega) hy1 (FA.out.get 0 rfl) (FA.out.there 0 rfl))
      have A2 := Lib.hid (fun w2 (F1 : Fr W [(W.heap.size, mkE (0 ||| 2 ^ z.1.1))] w2) => add_any W.heap.size z.2.1 _ w2 (or_lt (by omega) hy1) hy2 (F1.get 0 rfl) (F1.there 0 rfl))
      gi_wp2_with (first | (refine ⟨trivial, ?_⟩; gi_at_call 18; refine (CallsIn.inRound l' (callsIn_wide.2 A1.out)).mono ?_; rintro e w2 ⟨rfl, n1, hw2⟩; have F1 := Lib.hid (Fr.added FA.out hw2); clear hw2 A1) | (refine ⟨trivial, ?_⟩; gi_at_call 18; refine (CallsIn.inRound l' (callsIn_wide.2 (A2.out _ F1.out))).mono ?_; rintro e w3 ⟨rfl, n2, hw3⟩; have F2 := Lib.hid (Fr.added F1.out hw3); have co := blk_cell (blk_below hO.out F2.out.below) (show [Value.slice (some ⟨B, off, none⟩) l.length cap].toArray[0]? = some (.slice (some ⟨B, off, none⟩) l.length cap) from rfl); clear hw3))
      clear co
      gi_loopw [36] (fun zk ws => ∃ k : Nat, k ≤ l.length ∧ zk = .int .i64 k ∧ Hid (Fr W [(W.heap.size, mkE (maskTo l u z.1 z.2 k))] ws)) (fun zk _ => l.length - (intOf zk).toNat)
      case atStart => exact ⟨0, Nat.zero_le _, rfl, F2⟩
      case round =>
        clear F2 A2
        obtain ⟨k, hk, rfl, FK⟩ := hrel
        have bw := FK.out.below
        by_cases hkn : k < l.length
        · have ki : (k : Int) < (l.length : Int) := by omega
          have hii : IntKind.i64.wrap ((k : Int) + 1) = ((k + 1 : Nat) : Int) := by rw [IntKind.wrap_i64]; omega
          have bn := blk_below hN.out bw
          have n0 := blk_cell bn (show (ntC (some ⟨B, off, none⟩) l.length cap u).toArray[0]? = some (.slice (some ⟨B, off, none⟩) l.length cap) from rfl)
          have n1 := blk_cell bn (show (ntC (some ⟨B, off, none⟩) l.length cap u).toArray[1]? = some (.int .i64 u.least) from rfl)
          have n2 := blk_cell bn (show (ntC (some ⟨B, off, none⟩) l.length cap u).toArray[2]? = some (.int .i64 u.most) from rfl)
          have n3 := blk_cell bn (show (ntC (some ⟨B, off, none⟩) l.length cap u).toArray[3]? = some (.int .i64 u.speed) from rfl)
          have n4 := blk_cell bn (show (ntC (some ⟨B, off, none⟩) l.length cap u).toArray[4]? = some (.int .i64 u.off) from rfl)
          have n5 := blk_cell bn (show (ntC (some ⟨B, off, none⟩) l.length cap u).toArray[5]? = some (.int .i64 u.count) from rfl)
          have bt := between_any l.length cap z.1.1 z.2.1 k B off u l[z.1] l[z.2] (l[k]'hkn) wr (HP.out wr bw z.2.1 z.2.2) (HP.out wr bw k hkn) hu
          clear bn bw
          by_cases hbt : btw u l[z.1] l[z.2] (l[k]'hkn)
          · rw [decide_eq_true hbt] at bt
            have MY := Lib.hid (maskTo_yes hkn hbt)
            have AD := Lib.hid (fun w2 (F1 : Fr W [(W.heap.size, mkE (maskTo l u z.1 z.2 k))] w2) => add_any W.heap.size k _ w2 (maskTo_lt l u z.1 z.2 hm k) (by omega) (F1.get 0 rfl) (F1.there 0 rfl))
            gi_wp2_with (first | (refine ⟨trivial, ?_⟩; gi_at_call 19; refine (CallsIn.inRound l' (callsIn_wide.2 bt)).mono ?_; rintro e w5 ⟨rfl, hb5⟩; have F5 := Lib.hid (FK.out.call hb5); clear hb5) | (refine ⟨trivial, ?_⟩; gi_at_call 18; refine (CallsIn.inRound l' (callsIn_wide.2 (AD.out _ F5.out))).mono ?_; rintro e w6 ⟨rfl, n6, hw6⟩; have F6 := Lib.hid (Fr.added F5.out hw6); clear hw6))
            go_roundw
            case rel => exact ⟨k + 1, by omega, rfl, by rw [MY.out]; exact F6⟩
            case measure => simp [intOf]; omega
          · rw [decide_eq_false hbt] at bt
            have MN := Lib.hid (maskTo_no hkn hbt)
            gi_wp2_with (refine ⟨trivial, ?_⟩; gi_at_call 19; refine (CallsIn.inRound l' (callsIn_wide.2 bt)).mono ?_; rintro e w5 ⟨rfl, hb5⟩; have F5 := Lib.hid (FK.out.call hb5); clear hb5)
            go_roundw
            case rel => exact ⟨k + 1, by omega, rfl, by rw [MN.out]; exact F5⟩
            case measure => simp [intOf]; omega
        · obtain rfl : k = l.length := by omega
          have FM : Fr W [(W.heap.size, mkE (maskOf l u z))] wr := FK.out
          clear FK
          have m0 := FM.cell 0 0 rfl rfl
          have m1 := FM.cell 0 1 rfl rfl
          have m2 := FM.cell 0 2 rfl rfl
          have m3 := FM.cell 0 3 rfl rfl
          have bS := Boxed.below hv.out bw
          have hc := bS.cell
          have hrw := ownsRow_below hrow.out bw
          have hsz := bw.size
          have hbs := hB.size
          gi_wp2_with (gi_at_builtin; refine wpListIn_append_own _ rfl _ _ 54 rfl w.heap.size 57 i0 (.agg #[.int .u64 0, .int .u64 0, .int .u64 0, .int .u64 0]) 4 32 Tryz.underlying54 hi hz0 hz1 hz2 rfl (by decide) _ _ _ rfl (hrw.alloc _) ⟨wr.heap.size, 0, none⟩ 1 1 (mkE (maskOf l u z)) rfl rfl (newsG (rangeAt_new _ _ _)) (mkE_one _) (by unfold maxLen; omega) (by omega) (by simp; omega) ?_; intro v' w7 hown' hgrow _; obtain ⟨g', cap', rfl⟩ := ownsRow_succ hown'; obtain ⟨hv1, hv2, hr2, hk2, hb2⟩ := bS.appended (by decide) hrw (by omega) (by omega) hown' hgrow; have hc1 := hv1.cell; have hf1 := hv1.frozen)
          have q := fun (b : Nat) (cs : Array Value) (t : TypeId) (h : W.heap[b]? = some (.cells cs t (0, 0))) (hne : t ≠ 57) (hb : b ≠ w1.heap.size + 1) => blk_set (blk_alloc_grown (blk_below h bw) (blk_row (blk_below h bw) hne hrw) hgrow) (w1.heap.size + 1) hb (.slice (some ⟨g', 0, none⟩) (pre.length + 1) cap')
          have hI2 := q _ _ _ hI.out (by decide) (by omega)
          have hN2 := q _ _ _ hN.out (by decide) (by omega)
          have hO2 := q _ _ _ hO.out (by decide) (by omega)
          have hR2 := q _ _ _ hR.out (by decide) (by omega)
          have hb3 := (bw.mono hB.size).trans hb2
          exact ⟨(KeepsFrom.of_grownBy (below_grown bw) (fun j e => by cases e)).trans (hk2.from _), ⟨hb3, hI2.trans hI.out.symm⟩, ⟨⟨⟨_, hv2, by simpa using hr2, trivial⟩, hI2, hN2, hO2, hR2⟩, hB.trans hb3⟩⟩
    case done =>
      rintro D ys W hD rfl ⟨⟨⟨v, hv, hrow, -⟩, hI, hN, hO, hR⟩, hB⟩ hK
      obtain ⟨M, hMd⟩ : ∃ M, (allA l u l.length).map (maskOf l u) = M := ⟨_, rfl⟩
      have hMl : M.length ≤ 100 := by
        rw [← hMd, List.length_map]
        exact Nat.le_trans (allA_len l u _) (Nat.mul_le_mul (show l.length ≤ 10 by omega) (show l.length ≤ 10 by omega))
      have hM : ∀ x ∈ M, x < 512 := fun x hx => by
        rw [← hMd] at hx
        obtain ⟨z, -, rfl⟩ := List.mem_map.1 hx
        exact maskTo_lt l u _ _ hm _
      have OG : OwnG 57 4 mkE W w.heap.size v M := ⟨by rw [← hMd, List.length_map]; exact hrow, hB.size⟩
      have HMD := Lib.hid hMd
      clear hrow hMd
      obtain ⟨A, capm, rfl, rows, -⟩ := OwnG.form (enc := mkE) (fun _ => rfl) OG
      have mx := maximal_any A capm M hM (by omega) W rows
      have hc := hv.cell
      have hQ : ∀ q ∈ maxTo M [] M, q < 512 := fun q hq => by
        rcases ((maxTo_is M M [] List.nodup_nil).2 q).1 hq with h | h
        · cases h
        · exact hM q h.1
      have hQl : (maxTo M [] M).length ≤ 512 := by
        have := maxTo_len M M []
        simp only [List.length_nil] at this
        omega
      obtain ⟨Q, hQd⟩ : ∃ Q, maxTo M [] M = Q := ⟨_, rfl⟩
      rw [hQd] at mx hQ hQl
      have HQD := Lib.hid hQd
      have HR := Lib.hid hR
      have HB := Lib.hid hB
      have HK := Lib.hid hK
      have hWD := (Array.getElem?_eq_some_iff.1 hK).1
      clear hQd hR hB hI hN hO rows OG hM
      gi_wp2_with (refine ⟨trivial, ?_⟩; gi_at_call 20; refine (callsIn_wide.2 mx).mono ?_; rintro e w2 ⟨V2, rfl, O2, hb2⟩; obtain ⟨A2, cap2, rfl, -, -⟩ := OwnG.form (enc := mkE) (fun _ => rfl) O2; have OQ := Lib.hid O2; have BB := Lib.hid hb2; clear O2 hb2)
      have OK := Lib.hid (OwnG.nil (E := 62) (k := 1) (enc := slE) w2 W.heap.size BB.out.size)
      have IT : Hid (ItemsG w2 W.heap.size [] []) := Lib.hid ⟨rfl, fun i h => by cases h⟩
      gi_loopw [13, 54] (fun vk zk ws => ∃ (i : Nat) (S : List Sl) (K : List (List Nat)), zk = .int .i64 (i : Int) ∧ i ≤ Q.length ∧ K.length ≤ i ∧ Hid (K = keepTo Q u.count.toNat i) ∧ Hid (OwnG 62 1 slE ws W.heap.size vk S) ∧ Hid (ItemsG ws W.heap.size S K) ∧ Hid (Below W.heap.size W ws) ∧ Hid (OwnG 57 4 mkE ws W.heap.size (.slice A2 Q.length cap2) Q)) (fun _ zk _ => ((Q.length : Int) - intOf zk).toNat)
      case atStart => exact ⟨0, [], [], rfl, Nat.zero_le _, by simp, Lib.hid rfl, OK, IT, BB, OQ⟩
      case round =>
        clear OK IT BB OQ
        obtain ⟨i, S, K, rfl, hi, hKi, EK, OK, IT, BB, OQ⟩ := hrel
        by_cases hlt : i < Q.length
        · obtain ⟨A3, cap3, e3, rows3, -⟩ := OwnG.form (enc := mkE) (fun _ => rfl) OQ.out
          obtain ⟨g, ea, hg, hrow⟩ := rows3.row i hlt
          rw [ea] at e3
          injection e3 with e4 e5 e6
          subst e4
          clear e5 e6 ea
          have hii : IntKind.i64.wrap ((i : Int) + 1) = ((i + 1 : Nat) : Int) := by rw [IntKind.wrap_i64]; omega
          have g0 : wr.cell? ⟨g, i * 4, none⟩ = some (.int .u64 (Q[i] : Int)) := hrow 0 _ rfl
          have g1 := hrow 1 _ rfl
          have g2 := hrow 2 _ rfl
          have g3 := hrow 3 _ rfl
          have hq := hQ _ (List.getElem_mem hlt)
          have KY := Lib.hid (keepTo_yes (c := u.count.toNat) hlt)
          have KN := Lib.hid (keepTo_no (c := u.count.toNat) hlt)
          clear hrow rows3 hQ
          generalize Q[i] = q at *
          have FA := (Fr.start wr).alloc (mkE q) 57
          have a0 := FA.cell 0 0 rfl rfl
          have a1 := FA.cell 0 1 rfl rfl
          have a2 := FA.cell 0 2 rfl rfl
          have a3 := FA.cell 0 3 rfl rfl
          have BA := below_then BB.out FA.below
          have li := list_any q _ hq ((HD.out W HB.out).below BA)
          have hls : W.heap.size ≤ (wr.alloc (.cells (mkE q).toArray 57)).heap.size := BA.size
          have BA := Lib.hid BA
          have FB := Lib.hid FA.below
          have hlen9 : (bitsL q).length ≤ 9 := Nat.le_trans (List.length_filter_le _ _) (by simp)
          clear FA
          by_cases hcnt : u.count ≤ ((bitsL q).length : Int)
          · have EK2 := Lib.hid (show K ++ [bitsL q] = keepTo Q u.count.toNat (i + 1) from by rw [KY.out (by omega), EK.out])
            clear KY KN
            gi_wp2_with (first | (refine ⟨trivial, ?_⟩; gi_at_call 22; refine (callsIn_wide.2 li).mono ?_; rintro e w3 ⟨V3, rfl, O3, hb3⟩; obtain ⟨A3, cap3, rfl, -, -⟩ := OwnG.form (enc := inE) (fun _ => rfl) O3; have B3 := Lib.hid (below_then BA.out hb3); have OK3 := Lib.hid ((OK.out.below FB.out).below hb3); have IT3 := Lib.hid (((IT.out.below FB.out).below hb3).snoc (s := ⟨A3, (bitsL q).length, cap3⟩) (O3.least hls)); have OQ3 := Lib.hid ((OQ.out.below FB.out).below hb3); have cr := blk_cell (blk_below HR.out B3.out) (show (rlC u).toArray[4]? = some (.int .i64 u.count) from rfl); clear O3 hb3) | (gi_at_builtin; refine wpIn_appG 32 (.slice none 0 0) 24 info_sl Tryz.underlying32 rfl (by decide) (by decide) (fun _ => rfl) slE_one _ rfl (.tmp 65) (.tmp 67) rfl W.heap.size _ S ⟨A3, (bitsL q).length, cap3⟩ rfl rfl OK3.out (by have := IT3.out.1; simp at this; omega) ?_; intro v' w4 hO4 hb4 hgr; have OK4 := Lib.hid hO4; have IT4 := Lib.hid (IT3.out.kept OK3.out (by decide) hgr); have OQ4 := Lib.hid (OQ3.out.kept OK3.out (by decide) hgr); have B4 := Lib.hid (B3.out.trans hb4); clear hO4 hb4 hgr))
            go_roundw
            case rel => exact ⟨i + 1, S ++ [⟨A3, (bitsL q).length, cap3⟩], K ++ [bitsL q], rfl, by omega, by simp; omega, EK2, OK4, IT4, B4, OQ4⟩
            case measure => simp [intOf]; omega
          · have EK2 := Lib.hid (show K = keepTo Q u.count.toNat (i + 1) from by rw [KN.out (by omega), EK.out])
            clear KY KN
            gi_wp2_with (refine ⟨trivial, ?_⟩; gi_at_call 22; refine (callsIn_wide.2 li).mono ?_; rintro e w3 ⟨V3, rfl, O3, hb3⟩; obtain ⟨A3, cap3, rfl, -, -⟩ := OwnG.form (enc := inE) (fun _ => rfl) O3; have B3 := Lib.hid (below_then BA.out hb3); have OK3 := Lib.hid ((OK.out.below FB.out).below hb3); have IT3 := Lib.hid ((IT.out.below FB.out).below hb3); have OQ3 := Lib.hid ((OQ.out.below FB.out).below hb3); have cr := blk_cell (blk_below HR.out B3.out) (show (rlC u).toArray[4]? = some (.int .i64 u.count) from rfl); clear O3 hb3)
            go_roundw
            case rel => exact ⟨i + 1, S, K, rfl, by omega, by omega, EK2, OK3, IT3, B3, OQ3⟩
            case measure => simp [intOf]; omega
        · obtain rfl : i = Q.length := by omega
          have hk9 : ∀ s ∈ K, s.length ≤ 1000000 := fun s hs => by
            rw [EK.out] at hs
            obtain ⟨y, -, rfl⟩ := List.mem_map.1 (List.mem_filter.1 hs).1
            exact Nat.le_trans (Nat.le_trans (List.length_filter_le _ _) (by simp)) (by decide : 9 ≤ 1000000)
          have so := sort_any wr W.heap.size _ S K OK.out IT.out.1 IT.out.facts hk9 (by have := IT.out.1; omega)
          gi_wp2_with (refine ⟨trivial, ?_⟩; gi_at_call 23; refine (callsIn_wide.2 so).mono ?_; rintro e w5 ⟨rfl, hb5, K', hp, hs, hset⟩)
          have B5 := BB.out.trans hb5
          have hK5 := (B5.block D hWD).trans HK.out
          have hbb := (below_then HB.out B5).trans (belowK_b (w := w) (Nat.le_refl _) w5 D _ (.deferred none) (by simp at hD; omega) hK5 rfl rfl)
          have hperm : K'.Perm (keepL ((allA l u l.length).map (maskOf l u)) u.count.toNat) := by
            rw [HMD.out]
            refine hp.trans (List.Perm.of_eq ?_)
            rw [EK.out, keepTo, List.take_length, keepL, HQD.out]
          refine ⟨by simp, .inl ⟨_, _, rfl, run_takeDeferred hK5, ?_⟩⟩
          refine ⟨_, results_tmp2 rfl _ _ _, _, rfl, hbb, K', hset.putObj hK5 rfl, ?_⟩
          first | exact ⟨hs, hperm⟩ | exact ⟨⟨hs, hperm⟩, by simp⟩ | exact ⟨⟨hs, hperm⟩, fun h => absurd rfl h⟩
    case stop =>
      rintro D c pre W _ _ h _
      exact h.elim
  · have hne : ¬ (stT l u = 0) := h0
    clear hE hl hb hD
    generalize stT l u = c at *
    gi_wp2_with (refine ⟨trivial, ?_⟩; gi_at_call 14; refine (callsIn_wide.2 (ST.out _ F0.out.below)).mono ?_; rintro e w1 ⟨rfl, hb⟩; have F1 := Lib.hid (F0.out.call hb); clear hb)
    · exact ⟨_, results_tmp2 rfl _ _ _, .slice none 0 0, rfl, F1.out.below, [], ⟨none, 0, [], rfl, rfl, ⟨fun i h => by cases h⟩, fun i h => by cases h⟩, fun h => absurd h hne, fun _ => rfl⟩
end Tw
end Go.Proofs.YtjgcbeihgeaimaaGreatDoor
/-
  The insertion by swaps.
-/
namespace Go.Proofs.YtjgcbeihgeaimaaGreatDoor
namespace Tk
theorem insL_split {s : List Nat} : ∀ {X Y : List (List Nat)}, (∀ x ∈ X, ltL s x = false) → (∀ y ∈ Y, ltL s y = true) → insL s (X ++ Y) = X ++ s :: Y
  | [], [], _, _ => rfl
  | [], y :: Y, _, h => by
    rw [List.nil_append, insL, if_pos (h y (by simp))]
    rfl
  | x :: X, Y, h1, h2 => by
    rw [List.cons_append, insL, if_neg (by rw [h1 x (by simp)]; exact Bool.false_ne_true), insL_split (fun z hz => h1 z (by simp [hz])) h2]
    rfl
theorem not_lt_all {s a : List Nat} {X Y : List (List Nat)} (ho : Ord (X ++ [a] ++ Y)) (h : ltL s a = false) : ∀ x ∈ X ++ [a], ltL s x = false := fun x hx => by
  rcases List.mem_append.1 hx with hx | hx
  · have p := List.pairwise_append.1 (List.pairwise_append.1 ho).1
    have := p.2.2 x hx a (by simp)
    cases g : ltL s x
    · rfl
    · rw [ltL_trans _ _ _ g this] at h
      cases h
  · rw [List.mem_singleton.1 hx]; exact h
/-- What the test of a set has found so far. -/
def goodTo (K : List (List Nat)) (c n m : Nat) : Bool := decide (c ≤ K[n]!.length) && (List.range m).all fun m => !(larger K n m && decide (gre K[n]! K[m]! = []))
theorem goodTo_full (K : List (List Nat)) (c n : Nat) : goodTo K c n K.length = goodAt K c n := rfl
theorem goodTo_step (K : List (List Nat)) (c n m : Nat) : goodTo K c n (m + 1) = (goodTo K c n m && !(larger K n m && decide (gre K[n]! K[m]! = []))) := by
  unfold goodTo
  rw [List.range_succ, List.all_append, Bool.and_assoc]
  simp
theorem goodTo_no {K : List (List Nat)} {c n m : Nat} (h : goodTo K c n m = false) (hm : m ≤ K.length) : goodAt K c n = false := by
  rw [← goodTo_full]
  obtain ⟨d, hd⟩ : ∃ d, K.length = m + d := ⟨K.length - m, by omega⟩
  rw [hd]
  clear hd hm
  induction d with
  | zero => exact h
  | succ d ih => rw [← Nat.add_assoc, goodTo_step, ih, Bool.false_and]
theorem larger_is {K : List (List Nat)} {n m : Nat} (hn : n < K.length) (hm : m < K.length) : larger K n m = (decide (K[n].length < K[m].length) || (decide (K[m].length = K[n].length) && decide (m < n))) := by
  unfold larger
  rw [getElem!_pos K n hn, getElem!_pos K m hm]
end Tk
namespace Tw
open Go.RowKit Lw Tk Ow
theorem rowS {w : World} {A : Option Addr} {S : List Sl} (h : RowsG 1 slE w A S) {i : Nat} (hi : i < S.length) : ∃ g, A = some ⟨g, 0, none⟩ ∧ w.cell? ⟨g, i, none⟩ = some (.slice S[i].a S[i].n S[i].c) := by
  obtain ⟨g, e, -, r⟩ := h.row i hi
  have := r 0 _ rfl
  rw [Nat.mul_one, Nat.add_zero] at this
  exact ⟨g, e, this⟩
theorem flat_sl (S : List Sl) : S.flatMap slE = S.map fun s => Value.slice s.a s.n s.c := by
  induction S with
  | nil => rfl
  | cons a S ih => rw [List.flatMap_cons, ih]; rfl
/-- A store of a header into a slice of the call's own. -/
theorem OwnG.put {w : World} {B g n cap i : Nat} {S S' : List Sl} {s : Sl} (h : OwnG 62 1 slE w B (.slice (some ⟨g, 0, none⟩) n cap) S) (hi : i < S.length) (hS : S' = S.set i s) : OwnG 62 1 slE (w.setCell ⟨g, i, none⟩ (.slice s.a s.n s.c)) B (.slice (some ⟨g, 0, none⟩) n cap) S' := by
  subst hS
  obtain ⟨⟨h1, h2⟩, h3⟩ := h
  refine ⟨⟨?_, ?_⟩, by simpa using h3⟩
  · rw [flat_sl, List.length_map]
    simp
  · rcases h2 with ⟨e, -⟩ | ⟨g', cap', cur, e, hb, hh, hn, hc, hs, ht⟩
    · cases e
    · injection e with e1 e2 e3
      injection e1 with e1
      injection e1 with e1
      subst e1
      refine .inr ⟨g, cap', cur.setIfInBounds i (.slice s.a s.n s.c), ?_, hb, ?_, ?_, hc, by simpa using hs, ?_⟩
      · rw [List.length_set, ← e2, e3]
      · show (w.heap.modify g _)[g]? = _
        rw [Array.getElem?_modify, if_pos rfl, hh]
        rfl
      · simpa using hn
      · rw [List.length_set, Array.toList_setIfInBounds, flat_sl, List.map_set, ← flat_sl, ← ht, List.take_set]
theorem OwnG.cellS {w : World} {B g n cap i : Nat} {S : List Sl} (h : OwnG 62 1 slE w B (.slice (some ⟨g, 0, none⟩) n cap) S) (hi : i < S.length) : w.cell? ⟨g, i, none⟩ = some (.slice S[i].a S[i].n S[i].c) ∧ w.frozen? ⟨g, i, none⟩ = false := by
  obtain ⟨A, c, e, r, -⟩ := OwnG.form (enc := slE) (fun _ => rfl) h
  obtain ⟨g', ea, hc⟩ := rowS r hi
  injection e with e1 e2 e3
  rw [← e1] at ea
  cases ea
  refine ⟨hc, ?_⟩
  rcases h.1.2 with ⟨e, -⟩ | ⟨g', cap', cur, e, hb, hh, -⟩
  · cases e
  · injection e with e1 e2 e3
    injection e1 with e1
    injection e1 with e1
    subst e1
    simp [World.frozen?, hh]
theorem OwnG.cellQ {w : World} {B g n cap i : Nat} {S : List Sl} {s : Sl} (h : OwnG 62 1 slE w B (.slice (some ⟨g, 0, none⟩) n cap) S) (hs : S[i]? = some s) : w.cell? ⟨g, i, none⟩ = some (.slice s.a s.n s.c) ∧ w.frozen? ⟨g, i, none⟩ = false := by
  obtain ⟨hi, rfl⟩ := List.getElem?_eq_some_iff.1 hs
  exact h.cellS hi
theorem pick_k {α β : Type} (X : List (α × β)) (x p : α × β) (Y : List (α × β)) : ((X ++ [x] ++ p :: Y).map Prod.fst)[X.length + 1]? = some p.1 := by
  rw [List.getElem?_map, List.getElem?_append_right (by simp)]
  simp
theorem pick_j {α β : Type} (X : List (α × β)) (x p : α × β) (Y : List (α × β)) : ((X ++ [x] ++ p :: Y).map Prod.fst)[X.length]? = some x.1 := by
  rw [List.getElem?_map, List.getElem?_append_left (by simp), List.getElem?_append_right (by simp)]
  simp
theorem swap_lists {α β : Type} (X : List (α × β)) (x p : α × β) (Y : List (α × β)) : (((X ++ [x] ++ p :: Y).map Prod.fst).set X.length p.1).set (X.length + 1) x.1 = (X ++ p :: x :: Y).map Prod.fst := by
  simp only [List.map_append, List.map_cons, List.map_nil, List.append_assoc, List.singleton_append]
  rw [show X.length = (X.map Prod.fst).length by simp, List.set_append_right _ _ (by simp), List.set_append_right _ _ (by simp)]
  simp
end Tw
end Go.Proofs.YtjgcbeihgeaimaaGreatDoor
/-
  SamePairs and SameSets at equal lists.
-/
namespace Go.Proofs.YtjgcbeihgeaimaaGreatDoor
namespace Tw
open Go.RowKit Lw Tk Ow

theorem equal_pr (x y : Int) (w : World) : (Op.equalIn 10000 51 (.agg #[.int .i64 x, .int .i64 y]) (.agg #[.int .i64 x, .int .i64 y])).run Tryz.prog w = .ok true w := by
  have hu := Tryz.underlying51
  have e64 : ∀ (a b : Int) (w : World), (Op.equalIn 9999 3 (.int .i64 a) (.int .i64 b)).run Tryz.prog w = .ok (a == b) w := fun a b w => run_equalIn_int w 9998 3 .i64 .i64 a b Tryz.underlying3
  rw [show (10000 : Nat) = 9999 + 1 from rfl, Op.equalIn]
  simp [run_underlying hu, Tryz.sizeOf3, Tryz.isAgg3, part, go_sem, List.range', List.forIn_cons, e64]
set_option maxRecDepth 100000 in
set_option maxHeartbeats 4000000 in
theorem samepairs_any (A1 A2 : Option Addr) (c1 c2 : Nat) (P : List (Nat × Nat)) (w : World) (h1 : RowsG 2 prE w A1 P) (h2 : RowsG 2 prE w A2 P) (hs : P.length ≤ 1000000) :
    Calls Tryz.prog 11 #[.slice A1 P.length c1, .slice A2 P.length c2] w fun e w' => e = .returned (.bool true) ∧ ∃ q, w' = w.drewN q := by
  have H1 := Lib.hid (fun w' (hb : Below w.heap.size w w') => h1.below hb)
  have H2 := Lib.hid (fun w' (hb : Below w.heap.size w w') => h2.below hb)
  clear h1 h2
  go_enter Tryz.func11, Tryz.ntmps11
  go_wp2_with fail
  go_loopw [5] (fun z wr => ∃ i : Nat, z = .int .i64 (i : Int) ∧ i ≤ P.length ∧ Hid (∃ q, wr = w.drewN q)) (fun z _ => ((P.length : Int) - intOf z).toNat)
  case atStart => exact ⟨0, rfl, by omega, Lib.hid ⟨0, rfl⟩⟩
  case round =>
    obtain ⟨i, rfl, hi, BB⟩ := hrel
    have hii : IntKind.i64.wrap ((i : Int) + 1) = ((i + 1 : Nat) : Int) := by rw [IntKind.wrap_i64]; omega
    by_cases hlt : i < P.length
    · have i1 : (i : Int) < (P.length : Int) := by omega
      have i0 : (0 : Int) ≤ (i : Int) := by omega
      obtain ⟨g1, rfl, -, r1⟩ := (H1.out _ (drawn_below BB.out)).row i hlt
      obtain ⟨g2, rfl, -, r2⟩ := (H2.out _ (drawn_below BB.out)).row i hlt
      generalize P[i] = p at *
      have a0 : wr.cell? ⟨g1, i * 2, none⟩ = some (.int .i64 (p.1 : Int)) := r1 0 _ rfl
      have a1 := r1 1 _ rfl
      have b0 : wr.cell? ⟨g2, i * 2, none⟩ = some (.int .i64 (p.1 : Int)) := r2 0 _ rfl
      have b1 := r2 1 _ rfl
      have eq := fun w' => equal_pr (p.1 : Int) (p.2 : Int) w'
      clear r1 r2
      go_wp2_with fail
      go_quiet (fail)
      go_wp2_with fail
      go_roundw
      case rel => exact ⟨i + 1, rfl, by omega, Lib.hid (drawn_more BB.out _)⟩
      case measure => simp [intOf]; omega
    · obtain rfl : i = P.length := by omega
      go_wp2_with fail
      refine bodyPost_ret (results_tmp rfl _ _ _) rfl ⟨rfl, BB.out⟩
set_option maxRecDepth 100000 in
set_option maxHeartbeats 4000000 in
theorem samesets_any (V1 V2 : Value) (K : List (List Nat)) (w : World) (h1 : SetsAt w V1 K) (h2 : SetsAt w V2 K) (hs : K.length ≤ 1000000) (hk : ∀ s ∈ K, s.length ≤ 1000000) :
    Calls Tryz.prog 12 #[V1, V2] w fun e w' => e = .returned (.bool true) ∧ ∃ q, w' = w.drewN q := by
  obtain ⟨A1, c1, S1, rfl, e1, R1, F1⟩ := h1
  obtain ⟨A2, c2, S2, rfl, e2, R2, F2⟩ := h2
  have X1 := Lib.hid (show ∀ w' (hb : Below w.heap.size w w') i (h : i < K.length), ∃ g, A1 = some ⟨g, 0, none⟩ ∧ ∃ a c, w'.cell? ⟨g, i, none⟩ = some (.slice a K[i].length c) ∧ RowsG 1 inE w' a K[i] from fun w' hb i h => by
    obtain ⟨g, ea, hc⟩ := rowS (R1.below hb) (i := i) (by omega)
    have f := F1 i (by omega) h
    rw [f.1] at hc
    exact ⟨g, ea, _, _, hc, f.2.below hb⟩)
  have X2 := Lib.hid (show ∀ w' (hb : Below w.heap.size w w') i (h : i < K.length), ∃ g, A2 = some ⟨g, 0, none⟩ ∧ ∃ a c, w'.cell? ⟨g, i, none⟩ = some (.slice a K[i].length c) ∧ RowsG 1 inE w' a K[i] from fun w' hb i h => by
    obtain ⟨g, ea, hc⟩ := rowS (R2.below hb) (i := i) (by omega)
    have f := F2 i (by omega) h
    rw [f.1] at hc
    exact ⟨g, ea, _, _, hc, f.2.below hb⟩)
  clear e1 e2 R1 R2 F1 F2
  go_enter Tryz.func12, Tryz.ntmps12
  go_wp2_with fail
  go_loopw [5] (fun z wr => ∃ i : Nat, z = .int .i64 (i : Int) ∧ i ≤ K.length ∧ Hid (∃ q, wr = w.drewN q)) (fun z _ => ((K.length : Int) - intOf z).toNat)
  case atStart => exact ⟨0, rfl, by omega, Lib.hid ⟨0, rfl⟩⟩
  case round =>
    obtain ⟨i, rfl, hi, BB⟩ := hrel
    have hii : IntKind.i64.wrap ((i : Int) + 1) = ((i + 1 : Nat) : Int) := by rw [IntKind.wrap_i64]; omega
    by_cases hlt : i < K.length
    · have i1 : (i : Int) < (K.length : Int) := by omega
      have i0 : (0 : Int) ≤ (i : Int) := by omega
      obtain ⟨g1, rfl, a1, d1, s1, -⟩ := X1.out _ (drawn_below BB.out) i hlt
      obtain ⟨g2, rfl, a2, d2, s2, -⟩ := X2.out _ (drawn_below BB.out) i hlt
      have hKi := hk _ (List.getElem_mem hlt)
      go_wp2_with fail
      go_quiet (fail)
      go_wp2_with fail
      have BD := Lib.hid (drawn_more BB.out nq)
      clear s1 s2 BB
      generalize wr.drewN nq = wy at *
      go_loopw [6] (fun z ws => ∃ j : Nat, z = .int .i64 (j : Int) ∧ j ≤ K[i].length ∧ Hid (∃ q, ws = w.drewN q)) (fun z _ => ((K[i].length : Int) - intOf z).toNat)
      case atStart => exact ⟨0, rfl, by omega, BD⟩
      case round =>
        clear BD
        obtain ⟨j, rfl, hj, BD⟩ := hrel
        have hjj : IntKind.i64.wrap ((j : Int) + 1) = ((j + 1 : Nat) : Int) := by rw [IntKind.wrap_i64]; omega
        obtain ⟨_, e1, a1, d1, s1, r1⟩ := X1.out _ (drawn_below BD.out) i hlt
        cases e1
        obtain ⟨_, e2, a2, d2, s2, r2⟩ := X2.out _ (drawn_below BD.out) i hlt
        cases e2
        by_cases hjl : j < K[i].length
        · have j1 : (j : Int) < (K[i].length : Int) := by omega
          have j0 : (0 : Int) ≤ (j : Int) := by omega
          obtain ⟨b1, rfl, t1⟩ := row1 r1 hjl
          obtain ⟨b2, rfl, t2⟩ := row1 r2 hjl
          go_wp2_with fail
          go_quiet (fail)
          go_wp2_with fail
          go_roundw
          case rel => exact ⟨j + 1, rfl, by omega, Lib.hid (drawn_more BD.out _)⟩
          case measure => simp [intOf]; omega
        · have j1 : ¬ (j : Int) < (K[i].length : Int) := by omega
          go_wp2_with fail
          go_roundw
          case rel => exact ⟨i + 1, rfl, by omega, BD⟩
          case measure => simp [intOf]; omega
    · obtain rfl : i = K.length := by omega
      go_wp2_with fail
      refine bodyPost_ret (results_tmp rfl _ _ _) rfl ⟨rfl, BB.out⟩
end Tw
end Go.Proofs.YtjgcbeihgeaimaaGreatDoor
/-
  The walk of compare of package wide.
-/
namespace Go.Proofs.YtjgcbeihgeaimaaGreatDoor
namespace Wd
open Go.RowKit Lw Go.Shelf
attribute [local go_sem] Oper.semAt_some

def cmpN (X Y : Nat) : Int := if X < Y then -1 else if Y < X then 1 else 0
theorem cmp_lt {X Y : Nat} (h : X < Y) : cmpN X Y = -1 := if_pos h
theorem cmp_gt {X Y : Nat} (h : Y < X) : cmpN X Y = 1 := by rw [cmpN, if_neg (by omega), if_pos h]
theorem cmp_eq (X : Nat) : cmpN X X = 0 := by rw [cmpN, if_neg (by omega), if_neg (by omega)]
end Wd
end Go.Proofs.YtjgcbeihgeaimaaGreatDoor
/-
  The walk of short of package wide.
-/
namespace Go.Proofs.YtjgcbeihgeaimaaGreatDoor
namespace Wd
open Go.RowKit Lw Go.Shelf
attribute [local go_sem] Oper.semAt_some

theorem Arr.own {A B : World} {g : Nat} {L : List Nat} {row : Option Nat} (h : Arr A g L) (hg : A.grownBy B row) (hr : ∀ r, row = some r → ∃ o : Obj, A.heap[r]? = some o ∧ o.isCells = false) : Arr B g L := by
  unfold Arr at h ⊢
  refine (hg.block g (lt_of_block h) fun e => ?_).trans h
  obtain ⟨o, ho, hc⟩ := hr g e.symm
  rw [h] at ho
  cases ho
  cases hc
theorem Arr.drewN {w : World} {g : Nat} {L : List Nat} (h : Arr w g L) (n : Nat) : Arr (w.drewN n) g L := h
theorem Arr.drew {w : World} {g : Nat} {L : List Nat} (h : Arr w g L) : Arr w.drew g L := h
theorem Boxed.own {A B : World} {b : Nat} {t : TypeId} {v : Value} {row : Option Nat} (h : Boxed A b t v) (hg : A.grownBy B row) (hr : ∀ r, row = some r → ∃ o : Obj, A.heap[r]? = some o ∧ o.isCells = false) : Boxed B b t v := by
  refine h.kept hg fun e => ?_
  obtain ⟨o, ho, hc⟩ := hr b e.symm
  rw [show A.heap[b]? = _ from h] at ho
  cases ho
  cases hc
theorem grownBy_set2 (W : World) (b o : Nat) (v : Value) : W.grownBy (W.setCell ⟨b, o, none⟩ v) (some b) :=
  ⟨rfl, rfl, rfl, (KeepsWalks.setCell W _ v).size, fun k _ hk => Below.heap_setCell _ _ _ k (fun e => hk (by rw [e]))⟩
theorem Lim.own {A B : World} {a : Option Addr} {n cap : Nat} {l : List Nat} {row : Option Nat} (h : Lim A a n cap l) (hg : A.grownBy B row) (hr : ∀ r, row = some r → ∃ o : Obj, A.heap[r]? = some o ∧ o.isCells = false) : Lim B a n cap l :=
  ⟨h.len, h.lb, h.cp, h.sm, fun p => by
    obtain ⟨b, off, e, lt, r⟩ := h.row p
    exact ⟨b, off, e, Nat.lt_of_lt_of_le lt hg.size, fun j v hv => cell_kept (r j v hv) hg hr⟩⟩
/-- What the loop of short holds: the limbs of the quotient and the rest. -/
structure SH (l : List Nat) (d g n : Nat) (pre : List (Fin l.length)) (W : World) (L : List Nat) (r : Nat) : Prop where
  arr : Arr W g L
  len : L.length = n
  lb : Lb L
  r1 : r < d
  v : pre = dn l.length pre.length → DIn l L d (l.length - pre.length) r
theorem dn_take {n : Nat} {pre : List (Fin n)} {x : Fin n} (h : pre ++ [x] = dn n (pre ++ [x]).length) : pre = dn n pre.length ∧ x.1 + pre.length + 1 = n := by
  rw [List.length_append, List.length_singleton] at h
  have hk : pre.length < n := by
    rcases Nat.lt_or_ge pre.length n with g | g
    · exact g
    · have : ∀ k, n ≤ k → (dn n k).length ≤ n := by
        intro k hk
        induction k with
        | zero => simp [dn]
        | succ k ih =>
          rw [dn]
          by_cases hlt : k < n
          · have := dn_len (n := n) (k := k + 1) (by omega)
            rw [dn] at this
            omega
          · rw [dif_neg hlt]; exact ih (by omega)
      have h2 := congrArg List.length h
      rw [List.length_append, List.length_singleton] at h2
      have := this (pre.length + 1) (by omega)
      omega
  rw [dn_succ hk] at h
  obtain ⟨h1, h2⟩ := List.append_inj' h rfl
  refine ⟨h1, ?_⟩
  have : x = ⟨n - 1 - pre.length, by omega⟩ := by simpa using h2
  rw [this]; simp only; omega
theorem SH.own {l : List Nat} {d g n : Nat} {pre : List (Fin l.length)} {A B : World} {L : List Nat} {r : Nat} {row : Option Nat} (h : SH l d g n pre A L r) (hg : A.grownBy B row) (hr : ∀ r, row = some r → ∃ o : Obj, A.heap[r]? = some o ∧ o.isCells = false) : SH l d g n pre B L r := ⟨h.arr.own hg hr, h.len, h.lb, h.r1, h.v⟩
theorem SH.zero (l : List Nat) {d g n : Nat} (hn : l.length = n) (hd : 0 < d) {W : World} (hA : Arr W g (List.replicate n 0)) : SH l d g n [] W (List.replicate n 0) 0 :=
  ⟨hA, by simp, lb_zeros _, hd, fun _ => by have := DIn.zero l hd; rw [hn] at this ⊢; exact this⟩
theorem SH.step {l : List Nat} {d g n : Nat} {pre : List (Fin l.length)} {W W' : World} {L : List Nat} {r : Nat} (h : SH l d g n pre W L r) (hl : Lb l) (hd : d ≤ 4294967296) (hn : l.length = n) (x : Fin l.length) (hA : Arr W' g (L.set x.1 ((r * 4294967296 + l[x.1]) / d))) :
    SH l d g n (pre ++ [x]) W' (L.set x.1 ((r * 4294967296 + l[x.1]) / d)) ((r * 4294967296 + l[x.1]) % d) := by
  refine ⟨hA, by simpa using h.len, lb_set h.lb _ _ (quo_lt h.r1 (lb_get hl x.2)), Nat.mod_lt _ (Nat.lt_of_le_of_lt (Nat.zero_le _) h.r1), fun e => ?_⟩
  obtain ⟨e1, e2⟩ := dn_take e
  have hv := h.v e1
  rw [show l.length - pre.length = x.1 + 1 by omega] at hv
  have := hv.step x.2 hl
  rw [List.length_append, List.length_singleton, show l.length - (pre.length + 1) = x.1 by omega]
  exact this
end Wd
end Go.Proofs.YtjgcbeihgeaimaaGreatDoor
/-
  Limbs that lie at the beginning of a block that may be written.
-/
namespace Go.Proofs.YtjgcbeihgeaimaaGreatDoor
namespace Wd
open Go.RowKit Lw

def Row (w : World) (g : Nat) (L : List Nat) : Prop := ∃ cur : Array Value, w.heap[g]? = some (.cells cur 119 (0, 0)) ∧ cur.toList.take L.length = us L
theorem Arr.row {w : World} {g : Nat} {L : List Nat} (h : Arr w g L) : Row w g L := ⟨_, h, by show List.take L.length (us L) = us L; exact List.take_of_length_le (by simp [us])⟩
theorem Row.lt {w : World} {g : Nat} {L : List Nat} (h : Row w g L) : g < w.heap.size := by obtain ⟨c, h, _⟩ := h; exact lt_of_block h
theorem row_get {L : List Nat} {cur : Array Value} (h : cur.toList.take L.length = us L) {k : Nat} (hk : k < L.length) : cur[k]? = some (.int .u32 (L[k] : Int)) := by
  have e := congrArg (·[k]?) h
  simp only [List.getElem?_take_of_lt hk] at e
  simpa [us, hk] using e
theorem Row.cell {w : World} {g : Nat} {L : List Nat} (h : Row w g L) {k : Nat} (hk : k < L.length) : w.cell? ⟨g, k, none⟩ = some (.int .u32 (L[k] : Int)) := by
  obtain ⟨c, h, e⟩ := h
  have := row_get e hk
  simp only [World.cell?, h]
  simpa using this
theorem Row.free {w : World} {g : Nat} {L : List Nat} (h : Row w g L) (k : Nat) : w.frozen? ⟨g, k, none⟩ = false := by
  obtain ⟨c, h, _⟩ := h
  simp [World.frozen?, h]
theorem Row.set {w : World} {g : Nat} {L : List Nat} (h : Row w g L) (k v : Nat) : Row (w.setCell ⟨g, k, none⟩ (.int .u32 (v : Int))) g (L.set k v) := by
  have hlt := h.lt
  obtain ⟨c, h, e⟩ := h
  have h' : w.heap[g] = .cells c 119 (0, 0) := by simpa [Array.getElem?_eq_getElem hlt] using h
  refine ⟨c.set! k (.int .u32 (v : Int)), ?_, ?_⟩
  · show (w.heap.modify g _)[g]? = _
    rw [Array.getElem?_eq_getElem (by simpa using hlt), Array.getElem_modify_self, h']
    simp [Addr.spot, Array.set!_eq_setIfInBounds]
  · rw [Array.set!_eq_setIfInBounds, Array.toList_setIfInBounds, List.length_set, List.take_set, e]
    simp [us, List.map_set]
theorem Row.own {A B : World} {g : Nat} {L : List Nat} {row : Option Nat} (h : Row A g L) (hg : A.grownBy B row) (hne : some g ≠ row) : Row B g L := by
  have hlt := h.lt
  obtain ⟨c, h, e⟩ := h
  exact ⟨c, (hg.block g hlt hne).trans h, e⟩
theorem Row.other {w : World} {g : Nat} {L : List Nat} (h : Row w g L) {p : Addr} (hp : p.block ≠ g) (v : Value) : Row (w.setCell p v) g L := by
  obtain ⟨c, h, e⟩ := h
  exact ⟨c, by rw [Below.heap_setCell _ _ _ _ (by simpa using Ne.symm hp)]; exact h, e⟩
theorem Row.below {w w' : World} {g : Nat} {L : List Nat} (h : Row w g L) (hb : Below w.heap.size w w') : Row w' g L := by
  have hlt := h.lt
  obtain ⟨c, h, e⟩ := h
  exact ⟨c, (hb.block g hlt).trans h, e⟩
/-- A window of the limbs as a slice. -/
theorem Row.lim {w : World} {g : Nat} {L : List Nat} (h : Row w g L) (hl : Lb L) (j n : Nat) {cap : Nat} (hj : j + n ≤ L.length) (hc : n ≤ cap) (hs : n ≤ 1000000) : Lim w (some ⟨g, j, none⟩) n cap ((L.drop j).take n) :=
  ⟨by simp; omega, lb_take (lb_drop hl _) _, hc, hs, fun _ => ⟨g, j, rfl, h.lt, fun i v hv => by
    have hi : i < n := by
      have h1 := (List.getElem?_eq_some_iff.1 hv).1
      rw [List.length_map, List.length_take] at h1
      omega
    rw [h.cell (k := j + i) (by omega)]
    rw [List.getElem?_map, List.getElem?_take_of_lt hi, List.getElem?_drop, List.getElem?_eq_getElem (by omega)] at hv
    simpa using hv⟩⟩
theorem Row.lim0 {w : World} {g : Nat} {L : List Nat} (h : Row w g L) (hl : Lb L) {cap : Nat} (hc : L.length ≤ cap) (hs : L.length ≤ 1000000) : Lim w (some ⟨g, 0, none⟩) L.length cap L := by
  have := h.lim hl 0 L.length (cap := cap) (by omega) hc hs
  simpa using this
/-- What a call owns, as limbs. -/
abbrev OwnL (w : World) (B : Nat) (V : Value) (L : List Nat) : Prop := w.ownsRow B 119 1 V L.length (us L)
theorem own_row {w : World} {B : Nat} {V : Value} {L : List Nat} (h : OwnL w B V L) (hn : 0 < L.length) : ∃ g cap, V = .slice (some ⟨g, 0, none⟩) L.length cap ∧ L.length ≤ cap ∧ B ≤ g ∧ Row w g L := by
  rcases h.2 with ⟨_, h0⟩ | ⟨g, cap, cur, rfl, hg, hh, h1, h2, h3, h4⟩
  · omega
  · exact ⟨g, cap, rfl, h1, hg, cur, hh, by simpa using h4⟩
theorem own_lim {w : World} {B : Nat} {V : Value} {L : List Nat} (h : OwnL w B V L) (hl : Lb L) (hs : L.length ≤ 1000000) : ∃ a cap, V = .slice a L.length cap ∧ Lim w a L.length cap L ∧ ∀ b off, a = some ⟨b, off, none⟩ → B ≤ b := by
  rcases h.2 with ⟨rfl, h0⟩ | ⟨g, cap, cur, rfl, hg, hh, h1, h2, h3, h4⟩
  · obtain rfl := List.length_eq_zero_iff.1 h0
    exact ⟨none, 0, rfl, Lim.nil _, fun b off e => by cases e⟩
  · exact ⟨_, cap, rfl, Row.lim0 ⟨cur, hh, by simpa using h4⟩ hl h1 hs, fun b off e => by cases e; exact hg⟩
end Wd
end Go.Proofs.YtjgcbeihgeaimaaGreatDoor
