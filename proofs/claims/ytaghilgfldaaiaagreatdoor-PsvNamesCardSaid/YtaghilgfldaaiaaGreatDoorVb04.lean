/-
  Lemmas and walks, texts joined: MFld, MFld2, MParse, MRdPl2, MNmPl, OPl, VPl, VRow, OWord, VNeed, VRead.
-/
import Derived.OneCell
import Derived.OwnWalk
import Derived.Deep.AppendLies
import Derived.StillTailTactics
import Derived.Deep.RegionHeld3
import Derived.WalkKit
import Derived.Lib.Hide
import Derived.Deep.MidRow
import Derived.Laws.IdiomCopy
import Derived.Below
import Derived.WalkLawsBesides
import Derived.Test.YtaghilgfldaaiaaGreatDoorVb03
import Derived.Test.YtaghilgfldaaiaaGreatDoorVb01
import Derived.Test.YtaghilgfldaaiaaGreatDoorVb02
import Derived.Test.YtaghilgfldaaiaaGreatDoorRows
set_option linter.unusedSimpArgs false
set_option linter.unusedVariables false
/-
  Reading numbers between separators: fields of package moment and its function literal.
-/
namespace Go.Proofs.YtaghilgfldaaiaaGreatDoor
namespace Ap
open Go.RowKit Lw

/-- What the literal captures: the two strings, the numbers, and whether the byte before was one of a number. -/
structure FS (s p : ByteArray) (w0 : World) (B : Nat) (L : List Int) (b : Bool) (wr : World) : Prop where
  cs : wr.heap[B]? = some (.cells #[.string s] 9 (0, 0))
  cp : wr.heap[B + 1]? = some (.cells #[.string p] 9 (0, 0))
  co : ∃ v, wr.heap[B + 2]? = some (.cells #[v] 24 (0, 0)) ∧ wr.ownsRow (B + 4) 3 1 v L.length (L.map (Value.int .i64))
  ci : wr.heap[B + 3]? = some (.cells #[.bool b] 4 (0, 0))
  below : Below B w0 wr
theorem owns_set {w : World} {base : Nat} {e : TypeId} {g n cap : Nat} {xs : List Value} {u : Value} (h : w.ownsRow base e 1 (.slice (some ⟨g, 0, none⟩) n cap) n (xs ++ [u])) (u' : Value) :
    (w.setCell ⟨g, xs.length, none⟩ u').ownsRow base e 1 (.slice (some ⟨g, 0, none⟩) n cap) n (xs ++ [u']) := by
  obtain ⟨h1, h2⟩ := h
  refine ⟨by simpa using h1, ?_⟩
  rcases h2 with ⟨h2, _⟩ | ⟨g', cap', cur, hv, hg, hh, hc1, hc2, hsz, ht⟩
  · cases h2
  · cases hv
    refine Or.inr ⟨g, cap, cur.set! xs.length u', rfl, hg, ?_, hc1, hc2, by simpa using hsz, ?_⟩
    · have hlt := lt_of_block hh
      have h' : w.heap[g] = .cells cur e (0, 0) := by simpa [Array.getElem?_eq_getElem hlt] using hh
      show (w.heap.modify g _)[g]? = _
      rw [Array.getElem?_eq_getElem (by simpa using hlt), Array.getElem_modify_self, h']
      rfl
    · have hn : n = xs.length + 1 := by simpa using h1.symm
      subst hn
      simp only [Nat.mul_one] at ht ⊢
      rw [Array.set!_eq_setIfInBounds, Array.toList_setIfInBounds]
      have hl : xs.length < cur.toList.length := by simp at hsz ⊢; omega
      rw [List.take_set, ht]
      simp
theorem FS.flag {s p : ByteArray} {w0 : World} {B : Nat} {L : List Int} {b : Bool} {wr : World} (h : FS s p w0 B L b wr) (b' : Bool) : FS s p w0 B L b' (wr.setCell ⟨B + 3, 0, none⟩ (.bool b')) := by
  obtain ⟨h1, h2, ⟨v, h3, h4⟩, h5, h6⟩ := h
  exact ⟨by rw [Below.heap_setCell _ _ _ _ (by simp <;> omega)]; exact h1, by rw [Below.heap_setCell _ _ _ _ (by simp <;> omega)]; exact h2,
    ⟨v, by rw [Below.heap_setCell _ _ _ _ (by simp)]; exact h3, ownsRow_setCell_below h4 (by simp) _⟩, one_setCell h5, h6.setCell (by simp <;> omega) _⟩
theorem FS.drewN {s p : ByteArray} {w0 : World} {B : Nat} {L : List Int} {b : Bool} {wr : World} (h : FS s p w0 B L b wr) (n : Nat) : FS s p w0 B L b (wr.drewN n) := by
  obtain ⟨h1, h2, ⟨v, h3, h4⟩, h5, h6⟩ := h
  exact ⟨h1, h2, ⟨v, h3, h4⟩, h5, ⟨h6.os, h6.tape, h6.output, h6.size, h6.block⟩⟩
theorem FS.drew {s p : ByteArray} {w0 : World} {B : Nat} {L : List Int} {b : Bool} {wr : World} (h : FS s p w0 B L b wr) : FS s p w0 B L b wr.drew := by
  obtain ⟨h1, h2, ⟨v, h3, h4⟩, h5, h6⟩ := h
  exact ⟨h1, h2, ⟨v, h3, h4⟩, h5, h6.drew⟩
theorem FS.app {s p : ByteArray} {w0 : World} {B : Nat} {L : List Int} {b : Bool} {wr w1 : World} {v v' : Value} {o : Obj} {z : Int} (h : FS s p w0 B L b wr) (hv : wr.heap[B + 2]? = some (.cells #[v] 24 (0, 0))) (hown : wr.ownsRow (B + 4) 3 1 v L.length (L.map (Value.int .i64)))
    (h1 : w1.ownsRow (B + 4) 3 1 v' (L.length + 1) (L.map (Value.int .i64) ++ [.int .i64 z])) (hg : (wr.alloc o).grownBy w1 v.ownBlock) : FS s p w0 B (L ++ [z]) b (w1.setCell ⟨B + 2, 0, none⟩ v') := by
  obtain ⟨a1, a2, _, a5, a6⟩ := h
  have lt3 := lt_of_block a5
  have hne : ∀ k, k < B + 4 → some k ≠ v.ownBlock := fun k hk e => by have := (hown.lt k e.symm).1; omega
  have hk : ∀ k, k < B + 4 → w1.heap[k]? = wr.heap[k]? := fun k hk => by
    rw [hg.block k (by simp <;> omega) (hne k hk)]
    exact heap_alloc_old wr o (by omega)
  refine ⟨by rw [Below.heap_setCell _ _ _ _ (by simp <;> omega), hk _ (by omega)]; exact a1, by rw [Below.heap_setCell _ _ _ _ (by simp), hk _ (by omega)]; exact a2,
    ⟨v', one_setCell (by rw [hk _ (by omega)]; exact hv), ?_⟩, by rw [Below.heap_setCell _ _ _ _ (by simp), hk _ (by omega)]; exact a5, ?_⟩
  · have := ownsRow_setCell_below h1 (a := ⟨B + 2, 0, none⟩) (by simp) v'
    simpa using this
  · exact ((a6.alloc (by omega) o).grown hg (by simp <;> omega) (fun k e => by have := (hown.lt k e).1; omega)).setCell (by simp <;> omega) _
theorem FS.app_cells {s p : ByteArray} {w0 : World} {B : Nat} {L : List Int} {b : Bool} {wr w1 : World} {v v' : Value} {o : Obj} (h : FS s p w0 B L b wr) (hv : wr.heap[B + 2]? = some (.cells #[v] 24 (0, 0))) (hown : wr.ownsRow (B + 4) 3 1 v L.length (L.map (Value.int .i64)))
    (hg : (wr.alloc o).grownBy w1 v.ownBlock) : w1.cell? ⟨B + 2, 0, none⟩ = some v ∧ w1.frozen? ⟨B + 2, 0, none⟩ = false ∧ (w1.setCell ⟨B + 2, 0, none⟩ v').cell? ⟨B + 3, 0, none⟩ = some (.bool b) ∧ (w1.setCell ⟨B + 2, 0, none⟩ v').frozen? ⟨B + 3, 0, none⟩ = false ∧
      ((w1.setCell ⟨B + 2, 0, none⟩ v').setCell ⟨B + 3, 0, none⟩ (.bool true)).heap[B + 2]? = some (.cells #[v'] 24 (0, 0)) := by
  obtain ⟨a1, a2, _, a5, a6⟩ := h
  have lt3 := lt_of_block a5
  have hne : ∀ k, k < B + 4 → some k ≠ v.ownBlock := fun k hk e => by have := (hown.lt k e.symm).1; omega
  have hk : ∀ k, k < B + 4 → w1.heap[k]? = wr.heap[k]? := fun k hk => by
    rw [hg.block k (by simp; omega) (hne k hk)]
    exact heap_alloc_old wr o (by omega)
  have h2 : w1.heap[B + 2]? = some (.cells #[v] 24 (0, 0)) := by rw [hk _ (by omega)]; exact hv
  have h3 : (w1.setCell ⟨B + 2, 0, none⟩ v').heap[B + 3]? = some (.cells #[.bool b] 4 (0, 0)) := by
    rw [Below.heap_setCell _ _ _ _ (by simp), hk _ (by omega)]; exact a5
  exact ⟨cell_of_one h2, free_of_one h2, cell_of_one h3, free_of_one h3, by rw [Below.heap_setCell _ _ _ _ (by simp)]; exact one_setCell h2⟩
theorem FS.put {s p : ByteArray} {w0 : World} {B : Nat} {X : List Int} {u : Int} {b : Bool} {wr : World} {g n cap : Nat} (h : FS s p w0 B (X ++ [u]) b wr) (hv : wr.heap[B + 2]? = some (.cells #[.slice (some ⟨g, 0, none⟩) n cap] 24 (0, 0))) (u' : Int) :
    n = X.length + 1 ∧ wr.cell? ⟨g, X.length, none⟩ = some (.int .i64 u) ∧ wr.frozen? ⟨g, X.length, none⟩ = false ∧ B + 4 ≤ g ∧ FS s p w0 B (X ++ [u']) b (wr.setCell ⟨g, X.length, none⟩ (.int .i64 u')) := by
  obtain ⟨a1, a2, ⟨v, a3, a4⟩, a5, a6⟩ := h
  rw [hv] at a3
  have a3' : v = .slice (some ⟨g, 0, none⟩) n cap := by simpa using a3.symm
  subst a3'
  have hn : n = X.length + 1 := by
    rcases a4.2 with ⟨e, _⟩ | ⟨g', cap', cur, e, _⟩
    · cases e
    · cases e; simp
  have ml : (X ++ [u]).map (Value.int .i64) = X.map (Value.int .i64) ++ [.int .i64 u] := by simp
  have ll : (X ++ [u]).length = n := by simp; omega
  rw [ml, ll] at a4
  have ce := a4.cells (g := g) rfl X.length (.int .i64 u) (by simp)
  have ae : (⟨g, 0, none⟩ : Addr).add X.length = ⟨g, X.length, none⟩ := by
    unfold Addr.add
    split
    · simp [*]
    · simp
  rw [ae] at ce
  have hgb := (a4.lt g rfl).1
  have hfz : wr.frozen? ⟨g, X.length, none⟩ = false := by
    rcases a4.2 with ⟨e, _⟩ | ⟨g', cap', cur, e, _, hh, _, _, hs, _⟩
    · cases e
    · cases e
      simp [World.frozen?, hh]
  have st := owns_set a4 (.int .i64 u')
  rw [List.length_map] at st
  refine ⟨hn, ce, hfz, hgb, by rw [Below.heap_setCell _ _ _ _ (by simp; omega)]; exact a1, by rw [Below.heap_setCell _ _ _ _ (by simp; omega)]; exact a2,
    ⟨.slice (some ⟨g, 0, none⟩) n cap, by rw [Below.heap_setCell _ _ _ _ (by simp; omega)]; exact hv, ?_⟩, by rw [Below.heap_setCell _ _ _ _ (by simp; omega)]; exact a5, a6.setCell (by simp; omega) _⟩
  have e1 : (X ++ [u']).map (Value.int .i64) = X.map (Value.int .i64) ++ [.int .i64 u'] := by simp
  have e2 : (X ++ [u']).length = n := by simp; omega
  rw [e1, e2]
  exact st
set_option maxRecDepth 100000 in
set_option maxHeartbeats 1000000 in
theorem read_sep (s p : ByteArray) (w0 w : World) (B : Nat) (L : List Int) (b : Bool) (k : Nat) (hs : k < s.size) (hp : k < p.size) (hS : FS s p w0 B L b w) (hb : ¬ bt p k = 48) :
    Calls Tryz.prog 154 #[.int .i64 k, .pointer (some ⟨B, 0, none⟩), .pointer (some ⟨B + 1, 0, none⟩), .pointer (some ⟨B + 3, 0, none⟩), .pointer (some ⟨B + 2, 0, none⟩)] w fun e w' => e = .returned (.bool (decide (okAt s p k))) ∧ FS s p w0 B L false w' := by
  have c0 := cell_of_one hS.cs
  have c1 := cell_of_one hS.cp
  have c3 := cell_of_one hS.ci
  have g3 := free_of_one hS.ci
  have S1 := Lib.hid (hS.flag false)
  have O := Lib.hid (show okAt s p k ↔ (s[k].toNat : Int) = (p[k].toNat : Int) by unfold okAt; rw [bt_of s k hs, bt_of p k hp]; rw [bt_of p k hp] at hb; exact ⟨fun g => g.2 hb, fun g => ⟨fun h => absurd h hb, fun _ => g⟩⟩)
  rw [bt_of p k hp] at hb
  have i0 : (k : Int) < (s.size : Int) := by omega
  have i1 : (k : Int) < (p.size : Int) := by omega
  have bb := byte_bd s[k]
  clear hS
  have D := Lib.hid (show ∀ v : Bool, v = ((s[k].toNat : Int) == (p[k].toNat : Int)) → v = decide (okAt s p k) from fun v h => by rw [h, Bool.eq_iff_iff, beq_iff_eq, decide_eq_true_iff]; exact O.out.symm)
  go_enter Tryz.func154, Tryz.ntmps154
  go_wp2
  all_goals
    go_quiet (fail)
    go_wp2
    go_ret
    exact ⟨ret_b (D.out _ rfl), S1.out.drewN _⟩
theorem info_int : (Tryz.prog.info? 3).map (fun i => (i.zero, i.size, i.bytes)) = some (some (.int .i64 0), 1, 8) := by kernel_rfl
set_option maxRecDepth 100000 in
set_option maxHeartbeats 2000000 in
theorem read_on (s p : ByteArray) (w0 w : World) (B : Nat) (X : List Int) (v : Int) (k : Nat) (hs : k < s.size) (hp : k < p.size) (hS : FS s p w0 B (X ++ [v]) true w) (hb : bt p k = 48) (v0 : 0 ≤ v) (v1 : v < 1000000000) (hX : X.length ≤ 1000) :
    Calls Tryz.prog 154 #[.int .i64 k, .pointer (some ⟨B, 0, none⟩), .pointer (some ⟨B + 1, 0, none⟩), .pointer (some ⟨B + 3, 0, none⟩), .pointer (some ⟨B + 2, 0, none⟩)] w fun e w' => e = .returned (.bool (decide (okAt s p k))) ∧ FS s p w0 B (X ++ [10 * v + (bt s k - 48)]) true w' := by
  have c0 := cell_of_one hS.cs
  have c1 := cell_of_one hS.cp
  have c3 := cell_of_one hS.ci
  obtain ⟨vo, hv, hown⟩ := hS.co
  obtain ⟨g, cap, rfl, hg1, hg2⟩ := hown.form (by simp)
  have c2 := cell_of_one hv
  obtain ⟨hn, ce, hf, hgb, hput⟩ := hS.drew.put hv (10 * v + (s[k].toNat : Int) - 48)
  replace ce : w.cell? ⟨g, X.length, none⟩ = some (.int .i64 v) := ce
  replace hf : w.frozen? ⟨g, X.length, none⟩ = false := hf
  have O := Lib.hid (show okAt s p k ↔ 48 ≤ (s[k].toNat : Int) ∧ (s[k].toNat : Int) ≤ 57 by unfold okAt; rw [bt_of s k hs]; exact ⟨fun g => g.1 hb, fun g => ⟨fun _ => g, fun h => absurd hb h⟩⟩)
  rw [bt_of p k hp] at hb
  have ev : 10 * v + (bt s k - 48) = 10 * v + (s[k].toNat : Int) - 48 := by rw [bt_of s k hs]; omega
  rw [ev]
  rw [hn] at c2
  have Hput := Lib.hid hput
  have bb := byte_bd s[k]
  have i0 : (k : Int) < (s.size : Int) := by omega
  have i1 : (k : Int) < (p.size : Int) := by omega
  clear hS hv hown hn hput hg1 hgb ev
  have D := Lib.hid (show ∀ b : Bool, (b = true ↔ 48 ≤ (s[k].toNat : Int) ∧ (s[k].toNat : Int) ≤ 57) → b = decide (okAt s p k) from fun b h => by rw [Bool.eq_iff_iff, h, decide_eq_true_iff]; exact O.out.symm)
  have i2 : (X.length : Int) < (X.length : Int) + 1 := by omega
  have i3 : 0 ≤ (X.length : Int) := by omega
  by_cases d1 : 48 ≤ (s[k].toNat : Int)
  · have E := Lib.hid (D.out (decide ((s[k].toNat : Int) ≤ 57)) (by rw [decide_eq_true_iff]; exact ⟨fun h => ⟨d1, h⟩, fun h => h.2⟩))
    clear D O
    go_enter Tryz.func154, Tryz.ntmps154
    go_wp2
    go_still_tail 13, (by kernel_rfl)
    repeat still_step
    try refine wpStill_nil ?_
    change wpList _ _ _ _ _ w.drew
    go_wp2_with fail
    go_ret
    exact ⟨ret_b E.out, Hput.out⟩
  · have E := Lib.hid (D.out false (by simp; omega))
    clear D O
    go_enter Tryz.func154, Tryz.ntmps154
    go_wp2
    go_still_tail 13, (by kernel_rfl)
    repeat still_step
    try refine wpStill_nil ?_
    change wpList _ _ _ _ _ w.drew
    go_wp2_with fail
    go_ret
    exact ⟨ret_b E.out, Hput.out⟩
set_option maxRecDepth 100000 in
set_option maxHeartbeats 2000000 in
theorem read_new (s p : ByteArray) (w0 w : World) (B : Nat) (L : List Int) (k : Nat) (hs : k < s.size) (hp : k < p.size) (hS : FS s p w0 B L false w) (hb : bt p k = 48) (hX : L.length ≤ 1000) :
    Calls Tryz.prog 154 #[.int .i64 k, .pointer (some ⟨B, 0, none⟩), .pointer (some ⟨B + 1, 0, none⟩), .pointer (some ⟨B + 3, 0, none⟩), .pointer (some ⟨B + 2, 0, none⟩)] w fun e w' => e = .returned (.bool (decide (okAt s p k))) ∧ FS s p w0 B (L ++ [bt s k - 48]) true w' := by
  obtain ⟨i0', hi, hz0, hz1, hz2⟩ := info_parts info_int
  have c0 := cell_of_one hS.cs
  have c1 := cell_of_one hS.cp
  have c3 := cell_of_one hS.ci
  obtain ⟨v, hv, hown⟩ := hS.co
  have c2 := cell_of_one hv
  have O := Lib.hid (show okAt s p k ↔ 48 ≤ (s[k].toNat : Int) ∧ (s[k].toNat : Int) ≤ 57 by unfold okAt; rw [bt_of s k hs]; exact ⟨fun g => g.1 hb, fun g => ⟨fun _ => g, fun h => absurd hb h⟩⟩)
  have ev : bt s k - 48 = (s[k].toNat : Int) - 48 := by rw [bt_of s k hs]
  rw [ev]
  rw [bt_of p k hp] at hb
  have bb := byte_bd s[k]
  have i0 : (k : Int) < (s.size : Int) := by omega
  have i1 : (k : Int) < (p.size : Int) := by omega
  have D := Lib.hid (show ∀ b : Bool, (b = true ↔ 48 ≤ (s[k].toNat : Int) ∧ (s[k].toNat : Int) ≤ 57) → b = decide (okAt s p k) from fun b h => by rw [Bool.eq_iff_iff, h, decide_eq_true_iff]; exact O.out.symm)
  have i2 : (L.length : Int) < (L.length : Int) + 1 := by omega
  have i3 : 0 ≤ (L.length : Int) := by omega
  have HS := Lib.hid hS
  have HV := Lib.hid hv
  have HO := Lib.hid hown
  have hsz := lt_of_block hS.ci
  clear hS hv hown ev
  by_cases d1 : 48 ≤ (s[k].toNat : Int)
  all_goals
    have E : Hid (∃ r : Bool, r = (decide (48 ≤ (s[k].toNat : Int)) && decide ((s[k].toNat : Int) ≤ 57)) ∧ r = decide (okAt s p k)) := Lib.hid ⟨_, rfl, D.out _ (by simp)⟩
    clear D O
    go_enter Tryz.func154, Tryz.ntmps154
    go_wp2_with (at_builtin; refine wpList_append_own _ rfl (.tmp 32) (.tmp 33) 24 rfl (B + 4) 3 i0' (.int .i64 0) 1 8 Tryz.underlying24 hi hz0 hz1 hz2 rfl (by decide) _ _ _ rfl (HO.out.alloc _) ⟨w.heap.size, 0, none⟩ 1 1 [.int .i64 0] rfl rfl (by intro j u hj; match j, hj with | 0, hj => (simp at hj; subst hj; simp [Addr.add])) (by intro u hu; simp at hu; subst hu; rfl) (by unfold maxLen; omega) (by omega) (by simp; omega) ?_)
    intro v' w1 hown' hgrow _
    obtain ⟨g, cap, rfl, hg1, hg2⟩ := hown'.form (by omega)
    obtain ⟨e1, e2, e3, e4, e5⟩ := HS.out.app_cells (v' := .slice (some ⟨g, 0, none⟩) (L.length + 1) cap) HV.out HO.out hgrow
    have S2 := (HS.out.app HV.out HO.out hown' hgrow).flag true
    have e6 := cell_of_one e5
    have e7 := cell_of_one S2.cs
    have z0 : IntKind.i64.wrap 0 = 0 := rfl
    obtain ⟨hn, ce, hf, hgb, hput⟩ := S2.drew.put e5 ((s[k].toNat : Int) - 48)
    have ce : (((w1.setCell ⟨B + 2, 0, none⟩ (.slice (some ⟨g, 0, none⟩) (L.length + 1) cap)).setCell ⟨B + 3, 0, none⟩ (.bool true))).cell? ⟨g, L.length, none⟩ = some (.int .i64 0) := ce
    have hf : (((w1.setCell ⟨B + 2, 0, none⟩ (.slice (some ⟨g, 0, none⟩) (L.length + 1) cap)).setCell ⟨B + 3, 0, none⟩ (.bool true))).frozen? ⟨g, L.length, none⟩ = false := hf
    have Hput := Lib.hid hput
    clear hown' hgrow hg1 hg2 S2 hput hn hgb e5
    go_wp2
    generalize ((w1.setCell ⟨B + 2, 0, none⟩ (.slice (some ⟨g, 0, none⟩) (L.length + 1) cap)).setCell ⟨B + 3, 0, none⟩ (.bool true)) = W at *
    go_still_tail 13, (by kernel_rfl)
    repeat still_step
    try refine wpStill_nil ?_
    change wpList _ _ _ _ _ W.drew
    go_wp2_with fail
    go_ret
    obtain ⟨r, hr1, hr2⟩ := E.out
    exact ⟨ret_b (by rw [← hr2, hr1]; simp [d1]; try omega), Hput.out⟩
end Ap
end Go.Proofs.YtaghilgfldaaiaaGreatDoor
/-
  The walk of fields of package moment.
-/
namespace Go.Proofs.YtaghilgfldaaiaaGreatDoor
namespace Ap
open Go.RowKit Lw

/-- What fields returns: the numbers, or that the string does not follow the pattern. -/
def FldPost (s p : ByteArray) (w : World) (e : Ending) (w' : World) : Prop := Below w.heap.size w w' ∧
  ((likeP s p ∧ ∃ v, e = .returned (.tuple #[v, .bool true]) ∧ w'.ownsRow (w.heap.size + 4) 3 1 v (grpL s p s.size).length ((grpL s p s.size).map (Value.int .i64))) ∨
   (¬ likeP s p ∧ e = .returned (.tuple #[.slice none 0 0, .bool false])))
theorem read_any (s p : ByteArray) (w0 w : World) (B : Nat) (k : Nat) (hs : k < s.size) (hp : k < p.size) (hS : FS s p w0 B (grpL s p k) (ins p k) w) (hl : likeTo s p k) (hr : runAt p k ≤ 8) (hk : k ≤ 900) :
    Calls Tryz.prog 154 #[.int .i64 k, .pointer (some ⟨B, 0, none⟩), .pointer (some ⟨B + 1, 0, none⟩), .pointer (some ⟨B + 3, 0, none⟩), .pointer (some ⟨B + 2, 0, none⟩)] w fun e w' => e = .returned (.bool (decide (okAt s p k))) ∧ FS s p w0 B (grpL s p (k + 1)) (ins p (k + 1)) w' := by
  have gl := grp_len s p k
  by_cases hb : bt p k = 48
  · have hi : ins p (k + 1) = true := decide_eq_true hb
    rw [hi]
    cases hc : ins p k with
    | false =>
      rw [hc] at hS
      rw [grp_new hb hc]
      exact read_new s p w0 w B (grpL s p k) k hs hp hS hb (by omega)
    | true =>
      rw [hc] at hS
      obtain ⟨X, v, e, h0, h1, _⟩ := grp_last s p k hl hc
      rw [grp_on hb hc e]
      rw [e] at hS gl
      have h8 : (10 : Int) ^ runAt p k ≤ 100000000 := by
        have : ∀ r : Nat, r ≤ 8 → (10 : Int) ^ r ≤ 100000000 := by decide
        exact this _ hr
      exact read_on s p w0 w B X v k hs hp hS hb h0 (by omega) (by simp at gl; omega)
  · have hi : ins p (k + 1) = false := decide_eq_false hb
    rw [hi, grp_skip hb]
    exact read_sep s p w0 w B (grpL s p k) (ins p k) k hs hp hS hb
set_option maxRecDepth 100000 in
set_option maxHeartbeats 2000000 in
theorem fields_any (s p : ByteArray) (w : World) (hs : p.size ≤ 100) (hz : s.size ≤ maxLen) (hr : ∀ k, k < p.size → runAt p k ≤ 8) :
    Calls Tryz.prog 109 #[.string s, .string p] w (FldPost s p w) := by
  by_cases hn : s.size = p.size
  · have i0 : ((s.size : Int) != (p.size : Int)) = false := by simp; omega
    have S0 : FS s p w w.heap.size [] false ((((w.alloc (.cells #[.string s] 9)).alloc (.cells #[.string p] 9)).alloc (.cells #[.slice none 0 0] 24)).alloc (.cells #[.bool false] 4)) := by
      have z1 : (w.alloc (.cells #[.string s] 9)).heap.size = w.heap.size + 1 := by simp
      have z2 : ((w.alloc (.cells #[.string s] 9)).alloc (.cells #[.string p] 9)).heap.size = w.heap.size + 2 := by simp
      have z3 : (((w.alloc (.cells #[.string s] 9)).alloc (.cells #[.string p] 9)).alloc (.cells #[.slice none 0 0] 24)).heap.size = w.heap.size + 3 := by simp
      have n0 := heap_alloc_new w (.cells #[.string s] 9)
      have n1 := heap_alloc_new (w.alloc (.cells #[.string s] 9)) (.cells #[.string p] 9)
      have n2 := heap_alloc_new ((w.alloc (.cells #[.string s] 9)).alloc (.cells #[.string p] 9)) (.cells #[.slice none 0 0] 24)
      have n3 := heap_alloc_new (((w.alloc (.cells #[.string s] 9)).alloc (.cells #[.string p] 9)).alloc (.cells #[.slice none 0 0] 24)) (.cells #[.bool false] 4)
      rw [z1] at n1
      rw [z2] at n2
      rw [z3] at n3
      refine ⟨?_, ?_, ⟨.slice none 0 0, ?_, World.ownsRow_nil _ _ _ _⟩, n3, ?_⟩
      · rw [heap_alloc_old _ _ (by omega), heap_alloc_old _ _ (by omega), heap_alloc_old _ _ (by omega)]; exact n0
      · rw [heap_alloc_old _ _ (by omega), heap_alloc_old _ _ (by omega)]; exact n1
      · rw [heap_alloc_old _ _ (by omega)]; exact n2
      · exact ((((Below.refl _ _).alloc (Nat.le_refl _) _).alloc (by omega) _).alloc (by omega) _).alloc (by omega) _
    have H0 := Lib.hid S0
    clear S0
    go_enter Tryz.func109, Tryz.ntmps109
    go_wp2_with fail
    go_loopw [18] (fun i wr => ∃ k : Nat, k ≤ s.size ∧ i = .int .i64 k ∧ FS s p w w.heap.size (grpL s p k) (ins p k) wr ∧ Hid (likeTo s p k)) (fun i _ => s.size - (intOf i).toNat)
    case atStart => exact ⟨0, Nat.zero_le _, rfl, H0.out, Lib.hid fun k hk => absurd hk (by omega)⟩
    case round =>
      obtain ⟨k, hk, rfl, S1, D⟩ := hrel
      by_cases hlt : k < s.size
      · have i1 : (k : Int) < (s.size : Int) := by omega
        have S2 := Lib.hid S1
        clear S1
        go_wp2_with fail
        refine (read_any s p w _ w.heap.size k hlt (by omega) S2.out D.out (hr k (by omega)) (by omega)).mono ?_
        rintro e w2 ⟨rfl, S3⟩
        have S4 := Lib.hid S3
        clear S3
        by_cases ho : okAt s p k
        · have D2 := Lib.hid (likeTo_s D.out ho)
          rw [decide_eq_true ho]
          go_wp2_with fail
          go_roundw
          case rel => exact ⟨k + 1, by omega, by go_num, S4.out, D2⟩
          case measure => simp [intOf]; omega
        · have N := Lib.hid (show ¬ likeP s p from fun g => ho (g.2 k hlt))
          rw [decide_eq_false ho]
          clear ho
          go_wp2_with fail
          go_ret2
          exact ⟨S4.out.below, Or.inr ⟨N.out, rfl⟩⟩
      · obtain rfl : k = s.size := by omega
        obtain ⟨v, hv, hown⟩ := S1.co
        have c2 := cell_of_one hv
        have Z := Lib.hid (And.intro S1.below hown)
        clear S1 hv hown
        go_wp2_with fail
        go_ret2
        exact ⟨Z.out.1, Or.inl ⟨⟨hn, D.out⟩, v, rfl, Z.out.2⟩⟩
  · have i0 : ((s.size : Int) != (p.size : Int)) = true := by simp; omega
    have hno : ¬ likeP s p := fun g => hn g.1
    go_enter Tryz.func109, Tryz.ntmps109
    go_wp2_with fail
    go_ret2
    exact ⟨((Below.refl _ _).alloc (Nat.le_refl _) _).alloc (by simp) _, Or.inr ⟨hno, rfl⟩⟩
end Ap
end Go.Proofs.YtaghilgfldaaiaaGreatDoor
/-
  The walk of Parse of package moment.
-/
namespace Go.Proofs.YtaghilgfldaaiaaGreatDoor
namespace Ap
open Go.RowKit Lw Go.Proofs.YtaghilgfldaaiaaGreatDoor.Mp

theorem digs {h p : ByteArray} {i j : Nat} (hl : likeP h p) (hj : j ≤ h.size) (hp : ∀ k, i ≤ k → k < j → bt p k = 48) : allD (h.extract i j).data.toList := by
  rw [allD_bt]
  intro k hk
  rw [size_ext h i j hj] at hk
  rw [bt_ext h i j k hj (by omega)]
  exact (hl.2 (i + k) (by omega)).1 (hp (i + k) (by omega) (by omega))
theorem P19_d : ∀ k, k < 19 → (bt P19 k = 48 ↔ ¬ (k = 4 ∨ k = 7 ∨ k = 10 ∨ k = 13 ∨ k = 16)) := by decide
theorem grp19 (h : ByteArray) (hs : h.size = 19) : grpL h P19 19 = [numL (h.extract 0 4).data.toList, numL (h.extract 5 7).data.toList, numL (h.extract 8 10).data.toList, numL (h.extract 11 13).data.toList, numL (h.extract 14 16).data.toList, numL (h.extract 17 19).data.toList] := by
  have d : ∀ i n, i + n ≤ 19 → (¬ (i ≤ 4 ∧ 4 < i + n) ∧ ¬ (i ≤ 7 ∧ 7 < i + n) ∧ ¬ (i ≤ 10 ∧ 10 < i + n) ∧ ¬ (i ≤ 13 ∧ 13 < i + n) ∧ ¬ (i ≤ 16 ∧ 16 < i + n)) → ∀ j, i ≤ j → j < i + n → bt P19 j = 48 := fun i n h1 h2 j a b => (P19_d j (by omega)).2 (by omega)
  have n : ∀ k, k < 19 → (k = 4 ∨ k = 7 ∨ k = 10 ∨ k = 13 ∨ k = 16) → ¬ bt P19 k = 48 := fun k hk h e => (P19_d k hk).1 e h
  have r0 := grp_run h P19 0 rfl 4 (by omega) (by omega) (d 0 4 (by omega) (by omega))
  have r1 := grp_run h P19 5 (decide_eq_false (n 4 (by omega) (by omega))) 2 (by omega) (by omega) (d 5 2 (by omega) (by omega))
  have r2 := grp_run h P19 8 (decide_eq_false (n 7 (by omega) (by omega))) 2 (by omega) (by omega) (d 8 2 (by omega) (by omega))
  have r3 := grp_run h P19 11 (decide_eq_false (n 10 (by omega) (by omega))) 2 (by omega) (by omega) (d 11 2 (by omega) (by omega))
  have r4 := grp_run h P19 14 (decide_eq_false (n 13 (by omega) (by omega))) 2 (by omega) (by omega) (d 14 2 (by omega) (by omega))
  have r5 := grp_run h P19 17 (decide_eq_false (n 16 (by omega) (by omega))) 2 (by omega) (by omega) (d 17 2 (by omega) (by omega))
  have s4 := grp_skip (s := h) (n 4 (by omega) (by omega))
  have s7 := grp_skip (s := h) (n 7 (by omega) (by omega))
  have s10 := grp_skip (s := h) (n 10 (by omega) (by omega))
  have s13 := grp_skip (s := h) (n 13 (by omega) (by omega))
  have s16 := grp_skip (s := h) (n 16 (by omega) (by omega))
  simp only [Nat.reduceAdd] at r0 r1 r2 r3 r4 r5 s4 s7 s10 s13 s16
  rw [r5, s16, r4, s13, r3, s10, r2, s7, r1, s4, r0]
  rfl
theorem nm_of {s p : ByteArray} {m i j : Nat} (hl : likeP (s.extract 0 m) p) (hm : m ≤ s.size) (hj : j ≤ m) (hp : ∀ k, i ≤ k → k < j → bt p k = 48) : numL ((s.extract 0 m).extract i j).data.toList = nm s i j := by
  have hs : (s.extract 0 m).size = m := by rw [size_ext s _ _ hm]; omega
  have d := digs hl (by omega) hp
  have e : (s.extract 0 m).extract i j = s.extract i j := by rw [ByteArray.extract_extract]; congr 1 <;> omega
  rw [e] at d ⊢
  exact (numV_yes d).symm
theorem vals19 {s : ByteArray} (hl : likeP (s.extract 0 19) P19) (hs : 19 ≤ s.size) : grpL (s.extract 0 19) P19 (s.extract 0 19).size = [nm s 0 4, nm s 5 7, nm s 8 10, nm s 11 13, nm s 14 16, nm s 17 19] := by
  have h19 : (s.extract 0 19).size = 19 := by rw [size_ext s _ _ hs]
  have d : ∀ i j, j ≤ 19 → (¬ (i ≤ 4 ∧ 4 < j) ∧ ¬ (i ≤ 7 ∧ 7 < j) ∧ ¬ (i ≤ 10 ∧ 10 < j) ∧ ¬ (i ≤ 13 ∧ 13 < j) ∧ ¬ (i ≤ 16 ∧ 16 < j)) → ∀ k, i ≤ k → k < j → bt P19 k = 48 := fun i j h1 h2 k a b => (P19_d k (by omega)).2 (by omega)
  rw [h19, grp19 _ h19]
  rw [nm_of hl hs (by omega) (d 0 4 (by omega) (by omega)), nm_of hl hs (by omega) (d 5 7 (by omega) (by omega)), nm_of hl hs (by omega) (d 8 10 (by omega) (by omega)), nm_of hl hs (by omega) (d 11 13 (by omega) (by omega)), nm_of hl hs (by omega) (d 14 16 (by omega) (by omega)), nm_of hl hs (by omega) (d 17 19 (by omega) (by omega))]
theorem run19 : ∀ k, k < P19.size → runAt P19 k ≤ 8 := by decide
theorem run6 : ∀ k, k < P6.size → runAt P6 k ≤ 8 := by decide
theorem row_cells {w : World} {base : Nat} {e : TypeId} {v : Value} {n : Nat} {xs : List Value} (h : w.ownsRow base e 1 v n xs) (hn : 0 < n) :
    ∃ g cap, v = .slice (some ⟨g, 0, none⟩) n cap ∧ g < w.heap.size ∧ ∀ j u, xs[j]? = some u → w.cell? ⟨g, j, none⟩ = some u := by
  obtain ⟨g, cap, rfl, _, hg⟩ := h.form hn
  refine ⟨g, cap, rfl, hg, fun j u hu => ?_⟩
  have ce := h.cells (g := g) rfl j u hu
  have ae : (⟨g, 0, none⟩ : Addr).add j = ⟨g, j, none⟩ := by
    unfold Addr.add
    split
    · simp [*]
    · simp
  rwa [ae] at ce
theorem empty_yes {t : ByteArray} (h : t.size = 0) : t.toList.isEmpty = true := by
  rw [Lib.toList_data, List.isEmpty_iff_length_eq_zero]; simpa using h
theorem empty_no {t : ByteArray} (h : t.size ≠ 0) : t.toList.isEmpty = false := by
  rw [Lib.toList_data, Bool.eq_false_iff, ne_eq, List.isEmpty_iff_length_eq_zero]; simpa using h
def ParsePost (s : ByteArray) (w : World) (e : Ending) (w' : World) : Prop := ∃ t c : Int, e = .returned (.tuple #[.int .i64 t, .int .i64 c]) ∧ ParseIs s t c ∧ Below w.heap.size w w'
theorem parse_not {s : ByteArray} (h : ¬ progT s) : ParseIs s 0 12 := Or.inr ⟨fun g => h (text_prog g.1), rfl, rfl⟩
set_option maxRecDepth 100000 in
set_option maxHeartbeats 4000000 in
theorem parse_any (s : ByteArray) (w : World) (hs : s.size ≤ 100) :
    Calls Tryz.prog 64 #[.string s] w (ParsePost s w) := by
  have M : maxLen = 9223372036854775807 := rfl
  have SU := suf_any s w (by omega)
  have rs : (noZ s).size ≤ 100 := by
    unfold noZ
    split
    · rw [size_ext s _ _ (by omega)]; omega
    · exact hs
  obtain ⟨r, er⟩ : ∃ r, noZ s = r := ⟨_, rfl⟩
  have ER := Lib.hid er
  rw [er] at SU rs
  clear er
  have CU := Lib.hid (fun w' => cut_any r w' (by omega))
  generalize hz : decide (zP s) = zb at SU
  generalize hp : decide (ptS r < r.size) = pb at CU
  replace hz := Lib.hid hz
  replace hp := Lib.hid hp
  go_enter Tryz.func64, Tryz.ntmps64
  go_wp2_with fail
  refine SU.mono ?_
  rintro e w1 ⟨rfl, rfl⟩
  go_wp2_with fail
  refine (CU.out _).mono ?_
  rintro e w1 ⟨rfl, hb1⟩
  have B1 := Lib.hid hb1
  clear hb1 SU CU
  have hsz : (hdP r).size ≤ 100 := by unfold hdP; rw [size_ext r _ _ (ptS_le r)]; have := ptS_le r; omega
  obtain ⟨h, eh⟩ : ∃ h, hdP r = h := ⟨_, rfl⟩
  obtain ⟨t, et⟩ : ∃ t, tlP r = t := ⟨_, rfl⟩
  rw [eh, et]
  rw [eh] at hsz
  have FH := Lib.hid (fun w' => fields_any h P19 w' (by decide) (by omega) run19)
  have EH := Lib.hid eh
  have ET := Lib.hid et
  clear eh et
  go_wp2_with fail
  refine (FH.out _).mono ?_
  rintro e w2 ⟨hb2, hf⟩
  have B2 := Lib.hid (below_then B1.out hb2)
  clear hb2 FH
  rcases hf with ⟨lk, v, rfl, hown⟩ | ⟨lk, rfl⟩
  · cases zb with
    | false =>
      have N := Lib.hid (parse_not (s := s) fun g => absurd g.1 (of_decide_eq_false hz.out))
      clear lk hown
      go_wp2_with fail
      go_ret2
      exact ⟨0, 12, rfl, N.out, B2.out⟩
    | true =>
      by_cases ht : pb = true ∧ (t.size = 0 ∨ 6 < t.size)
      · obtain ⟨rfl, ht⟩ := ht
        have N := Lib.hid (parse_not (s := s) fun g => by
          have := g.2.2.1
          rw [ER.out, ET.out] at this
          have := this (of_decide_eq_true hp.out)
          omega)
        rcases ht with ht | ht
        · have em := empty_yes ht
          clear hown lk ht
          go_wp2_with fail
          go_ret2
          exact ⟨0, 12, rfl, N.out, B2.out⟩
        · have em := empty_no (t := t) (by omega)
          have ht' : (6 : Int) < (t.size : Int) := by omega
          clear hown lk ht
          go_wp2_with fail
          go_ret2
          exact ⟨0, 12, rfl, N.out, B2.out⟩
      · have ht6 : t.size ≤ 6 ∧ (pb = true → 1 ≤ t.size) := by
          cases pb with
          | true => exact ⟨Nat.le_of_not_lt fun h => ht ⟨rfl, Or.inr h⟩, fun _ => Nat.pos_of_ne_zero fun h => ht ⟨rfl, Or.inl h⟩⟩
          | false =>
            have e : tlP r = ⟨#[]⟩ := if_neg (of_decide_eq_false hp.out)
            rw [ET.out] at e
            rw [e]
            exact ⟨by decide, fun g => by cases g⟩
        obtain ⟨ht6, ht1⟩ := ht6
        have GT : Hid (allD t.data.toList → progT s) := Lib.hid fun ad => ⟨of_decide_eq_true hz.out, by rw [ER.out, EH.out]; exact lk, by
          rw [ER.out, ET.out]
          intro hlt
          have := ht1 (hp.out.symm.trans (decide_eq_true hlt))
          omega, by rw [ER.out, ET.out]; exact ad⟩
        have T6 := Lib.hid ht6
        have HO := Lib.hid (And.intro lk hown)
        have hcase : pb = false ∨ (pb = true ∧ t.toList.isEmpty = false) := by
          cases pb with
          | true => exact Or.inr ⟨rfl, empty_no (by have := ht1 rfl; omega)⟩
          | false => exact Or.inl rfl
        have i0 : 0 ≤ (t.size : Int) := by omega
        have i6 : (t.size : Int) ≤ 6 := by omega
        have i7 : ¬ (6 : Int) < (t.size : Int) := by omega
        clear ht ht1 ht6 lk hown hz hp
        rcases hcase with rfl | ⟨rfl, em⟩
        all_goals
          go_wp2_with fail
          refine (fields_any (pad6 t) P6 w2 (by decide) (by rw [pad6_size t T6.out]; omega) run6).mono ?_
          rintro e w3 ⟨hb3, hf2⟩
          have B3 := Lib.hid (below_then B2.out hb3)
          have b3 := Lib.hid hb3
          clear hb3
          rcases hf2 with ⟨lk2, v2, rfl, hown2⟩ | ⟨lk2, rfl⟩
          · have g := GT.out ((like6 t T6.out).1 lk2)
            obtain ⟨tp, hh, mv⟩ := prog_text g
            rw [ER.out, EH.out] at hh
            rw [ER.out, ET.out] at mv
            rw [grp6 t T6.out] at hown2
            obtain ⟨lk, hown⟩ := HO.out
            rw [hh] at lk hown
            rw [vals19 lk (by have := tp.1; omega)] at hown
            obtain ⟨g1, cap1, rfl, hg1, hc1⟩ := row_cells hown (by simp)
            obtain ⟨g2, cap2, rfl, hg2, hc2⟩ := row_cells hown2 (by simp)
            have q0 := (b3.out.cell (p := ⟨g1, 0, none⟩) hg1).trans (hc1 0 _ rfl)
            have q1 := (b3.out.cell (p := ⟨g1, 1, none⟩) hg1).trans (hc1 1 _ rfl)
            have q2 := (b3.out.cell (p := ⟨g1, 2, none⟩) hg1).trans (hc1 2 _ rfl)
            have q3 := (b3.out.cell (p := ⟨g1, 3, none⟩) hg1).trans (hc1 3 _ rfl)
            have q4 := (b3.out.cell (p := ⟨g1, 4, none⟩) hg1).trans (hc1 4 _ rfl)
            have q5 := (b3.out.cell (p := ⟨g1, 5, none⟩) hg1).trans (hc1 5 _ rfl)
            have q6 := hc2 0 _ rfl
            rw [← mv] at q6
            have lg1 : g1 < w3.heap.size := Nat.lt_of_lt_of_le hg1 b3.out.size
            have TP := Lib.hid tp
            clear lk2 hown2 hown hc1 hc2 hg1 mv tp g lk hh HO GT b3
            have FU := Lib.hid (fun w' => Mw.from_any (nm s 0 4) (nm s 5 7) (nm s 8 10) (nm s 11 13) (nm s 14 16) (nm s 17 19) (microV s) w')
            have PI : Hid (∀ a c, FromIs (nm s 0 4) (nm s 5 7) (nm s 8 10) (nm s 11 13) (nm s 14 16) (nm s 17 19) (microV s) a c → (c = 0 ∧ ParseIs s a 0) ∨ (c = 2 ∧ ParseIs s 0 12)) := Lib.hid fun a c hf => by
              rcases hf with ⟨f1, f2, f3⟩ | ⟨f1, f2, f3⟩
              · exact Or.inl ⟨f3, Or.inl ⟨⟨TP.out, f1⟩, f2, rfl⟩⟩
              · exact Or.inr ⟨f3, Or.inr ⟨fun k => f1 k.2, rfl, rfl⟩⟩
            clear TP
            generalize nm s 0 4 = a0 at *
            generalize nm s 5 7 = a1 at *
            generalize nm s 8 10 = a2 at *
            generalize nm s 11 13 = a3 at *
            generalize nm s 14 16 = a4 at *
            generalize nm s 17 19 = a5 at *
            generalize microV s = a6 at *
            go_wp2_with fail
            go_region_held3 (fun w' => w'.cell? ⟨g1, 0, none⟩ = some (.int .i64 a0) ∧ w'.cell? ⟨g1, 1, none⟩ = some (.int .i64 a1) ∧ w'.cell? ⟨g1, 2, none⟩ = some (.int .i64 a2) ∧ w'.cell? ⟨g1, 3, none⟩ = some (.int .i64 a3) ∧ w'.cell? ⟨g1, 4, none⟩ = some (.int .i64 a4) ∧ w'.cell? ⟨g1, 5, none⟩ = some (.int .i64 a5) ∧ w'.cell? ⟨g2, 0, none⟩ = some (.int .i64 a6)) (go_keep) (first | (go_at_call 110; refine (FU.out _).mono ?_; rintro e w4 ⟨ti, c, rfl, hfi, hb4⟩; have m0 := (hb4.cell (p := ⟨g1, 0, none⟩) lg1).trans q0; have m1 := (hb4.cell (p := ⟨g1, 1, none⟩) lg1).trans q1; have m2 := (hb4.cell (p := ⟨g1, 2, none⟩) lg1).trans q2; have m3 := (hb4.cell (p := ⟨g1, 3, none⟩) lg1).trans q3; have m4 := (hb4.cell (p := ⟨g1, 4, none⟩) lg1).trans q4; have m5 := (hb4.cell (p := ⟨g1, 5, none⟩) lg1).trans q5; have m6 := (hb4.cell (p := ⟨g2, 0, none⟩) hg2).trans q6))
            have B4 := Lib.hid (below_then B3.out.drew hb4)
            rcases PI.out ti c hfi with ⟨rfl, hpi⟩ | ⟨rfl, hpi⟩
            · go_wp2_with fail
              go_ret2
              exact ⟨ti, 0, rfl, hpi, B4.out⟩
            · go_wp2_with fail
              go_ret2
              exact ⟨0, 12, rfl, hpi, B4.out⟩
          · have N := Lib.hid (parse_not (s := s) fun g => lk2 ((like6 t T6.out).2 (by have := g.2.2.2; rwa [ER.out, ET.out] at this)))
            go_wp2_with fail
            go_ret2
            exact ⟨0, 12, rfl, N.out, B3.out⟩
  · have N := Lib.hid (parse_not (s := s) fun g => lk (by have := g.2.1; rwa [ER.out, EH.out] at this))
    cases zb
    all_goals
      go_wp2_with fail
      go_ret2
      exact ⟨0, 12, rfl, N.out, B2.out⟩
end Ap
end Go.Proofs.YtaghilgfldaaiaaGreatDoor
/-
  Plain laws of MomentRounds, second part: the time of a text, and the text of that time; no walk here.
-/
namespace Go.Proofs.YtaghilgfldaaiaaGreatDoor
namespace At
open Go.RowKit Lw Ap Go.Proofs.YtaghilgfldaaiaaGreatDoor.Mp Go.Proofs.YtaghilgfldaaiaaGreatDoor.Mw

theorem take_dec (d : Nat) : ∀ j u, (decL u (d + j)).take d = decL (u / 10 ^ j) d
  | 0, u => by
    rw [Nat.add_zero, Nat.pow_zero, Nat.div_one]
    exact List.take_of_length_le (by rw [decL_len]; omega)
  | j + 1, u => by
    rw [← Nat.add_assoc, decL, List.take_append_of_le_length (by rw [decL_len]; omega), take_dec d j (u / 10), Nat.div_div_eq_div_mul, Nat.pow_succ, Nat.mul_comm (10 ^ j) 10]
theorem last_of {s : ByteArray} {x : List UInt8} {c : UInt8} (hs : s.data.toList = x ++ [c]) : bt s (s.size - 1) = (c.toNat : Int) := by
  have sz : s.size = x.length + 1 := by have := congrArg List.length hs; simpa using this
  rw [bt_L s _ (by omega), hs, sz, Nat.add_sub_cancel, List.getD_eq_getElem?_getD, List.getElem?_append_right (Nat.le_refl _), Nat.sub_self]
  rfl
theorem micro_le {u j : Nat} : u / 10 ^ j * 10 ^ j ≤ u ∧ u < u / 10 ^ j * 10 ^ j + 10 ^ j := by
  have e := Nat.div_add_mod u (10 ^ j)
  have l := Nat.mod_lt u (show 0 < 10 ^ j from Nat.pow_pos (by omega))
  rw [Nat.mul_comm] at e
  omega
theorem dec1 {u k : Nat} {l : List UInt8} (h : u < 10 ^ k) (e : decL u k = l) : numV l = u := by rw [← e, dec_val h]
theorem micro_of {s : ByteArray} {d U : Nat} (d6 : d ≤ 6) (z7 : U < 10 ^ 6) (sz : s.size = 20 + (if 0 < d then d + 1 else 0)) (hn : 0 < d → nm s 20 (s.size - 1) = numV ((decL U 6).take d)) :
    (0 < d → 0 ≤ nm s 20 (s.size - 1)) ∧ ∃ V : Nat, microV s = V ∧ V ≤ U ∧ U < V + 10 ^ (6 - d) := by
  by_cases c : 0 < d
  · have tk : (decL U 6).take d = decL (U / 10 ^ (6 - d)) d := by
      have := take_dec d (6 - d) U
      rwa [show d + (6 - d) = 6 by omega] at this
    have eN : nm s 20 (s.size - 1) = (U / 10 ^ (6 - d) : Nat) := by
      rw [hn c, tk]
      refine dec_val ?_
      refine Nat.div_lt_of_lt_mul ?_
      rw [← Nat.pow_add]
      rwa [show 6 - d + d = 6 by omega]
    rw [if_pos c] at sz
    refine ⟨fun _ => by rw [eN]; exact Int.natCast_nonneg _, U / 10 ^ (6 - d) * 10 ^ (6 - d), ?_, micro_le.1, micro_le.2⟩
    unfold microV tenI
    rw [if_neg (by omega), eN, show 27 - s.size = 6 - d by omega]
    exact (Int.natCast_mul _ _).symm
  · obtain rfl : d = 0 := by omega
    rw [if_neg (by omega)] at sz
    refine ⟨fun h => absurd h c, 0, ?_, by omega, by omega⟩
    unfold microV
    rw [if_pos (by omega)]
    rfl
/-- The time of a text is the time, with the digits left out. -/
theorem text_parse {t d : Int} {s : ByteArray} (a : TextIs t d s 0) : ∃ v, ParseIs s v 0 ∧ v ≤ t ∧ t - v < tenI (6 - d.toNat) ∧ s.size ≤ 27 := by
  rcases a with ⟨_, _, c⟩ | ⟨_, _, _, _, c⟩ | ⟨d0, d6, b1, b2, n, y, m, z, k, hd, hs, _⟩
  · omega
  · omega
  obtain ⟨d, rfl⟩ : ∃ e : Nat, d = e := ⟨d.toNat, by omega⟩
  rw [Int.toNat_natCast] at *
  obtain ⟨f1, f2⟩ := to_from hd
  obtain ⟨Y, M, D, H, I, S, U, e1, e2, e3, e4, e5, e6, e7, z1, z2, z3, z4, z5, z6, z7⟩ := date_nat hd
  rw [e3, e4, e5, e6, e7, e1, e2] at hs
  simp only [Int.toNat_natCast] at hs
  rw [e3, e4, e5, e6, e7] at f1 f2
  have hL := text_L Y M D H I S U d
  rw [← hs] at hL
  obtain ⟨c0, c1, c2, c3, x0, i0, i1, i2, i3⟩ := dec4 Y
  obtain ⟨c4, c5, x1, i4, i5⟩ := dec2 M
  obtain ⟨c6, c7, x2, i6, i7⟩ := dec2 D
  obtain ⟨c8, c9, x3, i8, i9⟩ := dec2 H
  obtain ⟨c10, c11, x4, i10, i11⟩ := dec2 I
  obtain ⟨c12, c13, x5, i12, i13⟩ := dec2 S
  rw [x0, x1, x2, x3, x4, x5] at hL
  obtain ⟨r, hr⟩ : ∃ r, (if 0 < d then 46 :: (decL U 6).take d else []) ++ [(90 : UInt8)] = r := ⟨_, rfl⟩
  rw [hr] at hL
  have hL : s.data.toList = l19 c0 c1 c2 c3 c4 c5 c6 c7 c8 c9 c10 c11 c12 c13 r := hL
  have rl : r.length = (if 0 < d then d + 1 else 0) + 1 := by
    rw [← hr]
    by_cases c : 0 < d
    · simp [c, decL_len]; omega
    · simp [c]
  have sz : s.size = 20 + (if 0 < d then d + 1 else 0) := by
    have := congrArg List.length hL
    simp [rl] at this
    omega
  have dd : d ≤ 6 := by omega
  have sz27 : s.size ≤ 27 := by rw [sz]; split <;> omega
  have sz20 : 20 ≤ s.size := by rw [sz]; omega
  obtain ⟨n1, n2, n3, n4, n5, n6⟩ := text_nums hL
  rw [dec1 z1 x0] at n1
  rw [dec1 z2 x1] at n2
  rw [dec1 z3 x2] at n3
  rw [dec1 z4 x3] at n4
  rw [dec1 z5 x4] at n5
  rw [dec1 z6 x5] at n6
  have hn : 0 < d → nm s 20 (s.size - 1) = numV ((decL U 6).take d) := fun c => by
    rw [nm_L hL _ _ (by omega)]
    have : s.size - 1 - 20 = d := by rw [sz, if_pos c]; omega
    rw [this]
    rw [if_pos c] at hr
    rw [← hr]
    have e : (List.drop 20 (l19 c0 c1 c2 c3 c4 c5 c6 c7 c8 c9 c10 c11 c12 c13 (46 :: List.take d (decL U 6) ++ [90]))) = List.take d (decL U 6) ++ [90] := rfl
    rw [e, List.take_append_of_le_length (by rw [List.length_take, decL_len]; omega), List.take_take]
    congr 2; omega
  obtain ⟨hp, V, mV, v1, v2⟩ := micro_of dd z7 sz hn
  have tp : textP s := by
    refine ⟨sz20, by rw [sz]; split <;> omega, sz27, ?_, ?_, fun h => ?_⟩
    · have : s.data.toList = l19 c0 c1 c2 c3 c4 c5 c6 c7 c8 c9 c10 c11 c12 c13 (if 0 < d then 46 :: (decL U 6).take d else []) ++ [90] := by rw [hL, ← hr]; rfl
      exact last_of this
    · refine like19 (a := c0) (b := c1) (c := c2) (d := c3) (e := c4) (f := c5) (g := c6) (h := c7) (i := c8) (j := c9) (k := c10) (l := c11) (m := c12) (n := c13) ?_ i0 i1 i2 i3 i4 i5 i6 i7 i8 i9 i10 i11 i12 i13
      rw [ext_L _ _ _ (by omega), hL]
      rfl
    · have c : 0 < d := by rw [sz] at h; split at h <;> omega
      refine ⟨?_, hp c⟩
      rw [bt_L s 19 (by omega), hL, ← hr, if_pos c]
      rfl
  obtain ⟨w1, w2, w3, w4, w5, w6, w7, w8, w9⟩ := f1
  refine ⟨textV s, Or.inl ⟨⟨tp, ?_⟩, rfl, rfl⟩, ?_, ?_, sz27⟩
  · rw [n1, n2, n3, n4, n5, n6, mV, ← e1, ← e2]
    exact ⟨w1, w2, w3, w4, w5, w6, by omega, by omega, w9⟩
  · unfold textV
    rw [n1, n2, n3, n4, n5, n6, mV, ← e1, ← e2, ← f2]
    unfold timeOf
    omega
  · unfold textV
    rw [n1, n2, n3, n4, n5, n6, mV, ← e1, ← e2]
    rw [← f2]
    unfold timeOf tenI
    omega
/-! ### Texts of days -/
end At
end Go.Proofs.YtaghilgfldaaiaaGreatDoor
/-
  Plain facts of MomentNames: what the calls return at its constants; no walk here.
-/
namespace Go.Proofs.YtaghilgfldaaiaaGreatDoor
namespace At
open Go.RowKit Lw Ap Go.Proofs.YtaghilgfldaaiaaGreatDoor.Mp Go.Proofs.YtaghilgfldaaiaaGreatDoor.Mw

instance (y m d h i s u : Int) : Decidable (fromOk y m d h i s u) := by unfold fromOk wholeP leapday; infer_instance
instance (s : ByteArray) : Decidable (textP s) := by unfold textP; infer_instance
instance (s : ByteArray) : Decidable (okText s) := by unfold okText; infer_instance
instance (s : ByteArray) : Decidable (dayP s) := by unfold dayP; infer_instance
instance (s : ByteArray) : Decidable (okDay s) := by unfold okDay; infer_instance
theorem from_k {y m d h i s u : Int} (t : Int) (a : fromOk y m d h i s u) (b : timeOf y m d h i s u = t) : FromIs y m d h i s u t 0 := Or.inl ⟨a, b.symm, rfl⟩
theorem text_k {y m d h i s u t : Int} {dd : Nat} {x : ByteArray} (hd : dd ≤ 6) (a : fromOk y m d h i s u) (b : timeOf y m d h i s u = t)
    (e : x = textS y.toNat m.toNat d.toNat h.toNat i.toNat s.toNat u.toNat dd) : TextIs t dd x 0 := by
  subst b
  obtain ⟨z, k, hd, e1, e2, e3, e4, e5⟩ := from_to a
  have b1 := bgv_mono hd.ym ym_72 hd.n1
  have b2 := bgv_mono ym_00 hd.zk (by have := hd.n2; omega)
  refine Or.inr (Or.inr ⟨by omega, by omega, Int.le_trans b1 hd.lo, Int.lt_of_lt_of_le hd.hi b2, _, _, _, z, k, hd, ?_, rfl⟩)
  rw [← e1, ← e2, ← e3, ← e4, ← e5]
  exact e
theorem parse_k {s : ByteArray} {t : Int} (a : okText s) (b : textV s = t) : ParseIs s t 0 := Or.inl ⟨a, b.symm, rfl⟩
/-! ### The constants of alive -/
end At
end Go.Proofs.YtaghilgfldaaiaaGreatDoor
/-
  Plain law of observations: names, checks, and what the columns of a line say; no walk here.
-/
namespace Go.Proofs.YtaghilgfldaaiaaGreatDoor
namespace Op
open Go.RowKit Lw Go.Proofs.YtaghilgfldaaiaaGreatDoor.Ap Go.Proofs.YtaghilgfldaaiaaGreatDoor.Mp

/-! ### Words -/
def dgP (c : Int) : Prop := 48 ≤ c ∧ c ≤ 57
def ltP (c : Int) : Prop := (65 ≤ c ∧ c ≤ 90) ∨ (97 ≤ c ∧ c ≤ 122)
instance (c : Int) : Decidable (dgP c) := by unfold dgP; infer_instance
instance (c : Int) : Decidable (ltP c) := by unfold ltP; infer_instance
def dgB (c : Int) : Bool := decide (dgP c)
def ltB (c : Int) : Bool := decide (ltP c)
/-- Digits and letters alone. -/
def wordP (l : List UInt8) : Prop := ∀ c ∈ l, dgP (c.toNat : Int) ∨ ltP (c.toNat : Int)
instance (l : List UInt8) : Decidable (wordP l) := by unfold wordP; infer_instance
def wordB (l : List UInt8) : Bool := decide (wordP l)
theorem wordP_snoc {l : List UInt8} {c : UInt8} (h : wordP l) (g : dgP (c.toNat : Int) ∨ ltP (c.toNat : Int)) : wordP (l ++ [c]) := fun x hx => by
  rcases List.mem_append.1 hx with hx | hx
  · exact h x hx
  · rw [List.mem_singleton.1 hx]; exact g
theorem word_not (s : ByteArray) (k : Nat) (hk : k < s.size) (h : ¬ (dgP (s[k].toNat : Int) ∨ ltP (s[k].toNat : Int))) : wordB s.data.toList = false := by
  refine decide_eq_false fun g => h (g _ ?_)
  have : s[k] = s.data.toList[k]'(by simpa using hk) := rfl
  rw [this]; exact List.getElem_mem _
theorem word_all (s : ByteArray) (k : Nat) (hk : ¬ k < s.size) (h : wordP (s.data.toList.take k)) : wordB s.data.toList = true := by
  rw [take_all s k hk] at h
  exact decide_eq_true h
/-- Digits alone, and at least one. -/
def digsP (l : List UInt8) : Prop := 0 < l.length ∧ allD l
instance (l : List UInt8) : Decidable (allD l) := by unfold allD; infer_instance
instance (l : List UInt8) : Decidable (digsP l) := by unfold digsP; infer_instance
def digsB (l : List UInt8) : Bool := decide (digsP l)
/-- The name of a numbered object. -/
def numbP (s : ByteArray) : Prop := s.size = 5 ∧ ((bt s 0 = 126 ∧ wordP (s.extract 1 5).data.toList) ∨ (wordP (s.extract 0 1).data.toList ∧ digsP (s.extract 1 5).data.toList))
instance (s : ByteArray) : Decidable (numbP s) := by unfold numbP; infer_instance
def numbB (s : ByteArray) : Bool := decide (numbP s)
def nameP (s : ByteArray) : Prop := numbP s ∨ (1 ≤ s.size ∧ s.size ≤ 7 ∧ wordP s.data.toList)
instance (s : ByteArray) : Decidable (nameP s) := by unfold nameP; infer_instance
def nameB (s : ByteArray) : Bool := decide (nameP s)
/-! ### Observations -/
structure Ob where
  name : ByteArray
  site : ByteArray
  t : Int
  ra : Int
  dec : Int
  sg : Int
  mag : Int
  band : Int
abbrev obsC (o : Ob) : List Value := [.string o.name, .string o.site, .int .i64 o.t, .int .i64 o.ra, .int .i64 o.dec, .int .i64 o.sg, .int .i64 o.mag, .int .u8 o.band]
abbrev obsV (o : Ob) : Value := .agg #[.string o.name, .string o.site, .int .i64 o.t, .int .i64 o.ra, .int .i64 o.dec, .int .i64 o.sg, .int .i64 o.mag, .int .u8 o.band]
def zeroO : Ob := ⟨ByteArray.empty, ByteArray.empty, 0, 0, 0, 0, 0, 0⟩
/-- A time of which a date can be told. -/
def timeP (t : Int) : Prop := bgv (-10227) 1972 1 ≤ t ∧ t < bgv 36525 2100 1
def magP (m b : Int) : Prop := (m = 9999 ∧ b = 32) ∨ (-500 ≤ m ∧ m ≤ 3000 ∧ (b = 32 ∨ ltP b))
def okO (o : Ob) : Prop := timeP o.t ∧ nameP o.name ∧ o.site.size = 3 ∧ wordP o.site.data.toList ∧ 0 ≤ o.ra ∧ o.ra < 1296000000000 ∧ -324000000000 ≤ o.dec ∧ o.dec ≤ 324000000000 ∧ 1 ≤ o.sg ∧ o.sg ≤ 10000000000 ∧ magP o.mag o.band
instance (m b : Int) : Decidable (magP m b) := by unfold magP; infer_instance
instance (t : Int) : Decidable (timeP t) := by unfold timeP; infer_instance
instance (o : Ob) : Decidable (okO o) := by unfold okO; infer_instance
def checkC (o : Ob) : Int := if okO o then 0 else 8
/-! ### Columns -/
/-- Without spaces at the end. -/
def cutL (l : List UInt8) : List UInt8 := (l.reverse.dropWhile (fun c => c == 32)).reverse
def cutS (s : ByteArray) : ByteArray := ⟨(cutL s.data.toList).toArray⟩
def blankP (s : ByteArray) : Prop := ∀ c ∈ s.data.toList, c = 32
instance (s : ByteArray) : Decidable (blankP s) := by unfold blankP; infer_instance
/-- How many bytes stand behind the first point, or 0. -/
def decs (s : ByteArray) : Nat := s.size - ptS s - 1
def magN (s : ByteArray) : Int := 100 * (bt s 1 - 48) + 10 * (bt s 3 - 48) + (if bt s 4 = 32 then 0 else bt s 4 - 48)
/-- What a column of a magnitude says. -/
def MagIs (s : ByteArray) (m : Int) : Prop := bt s 2 = 46 ∧ dgP (bt s 1) ∧ dgP (bt s 3) ∧ (dgP (bt s 4) ∨ bt s 4 = 32) ∧
  ((bt s 0 = 45 ∧ m = -magN s ∧ 0 < magN s) ∨ (bt s 0 = 32 ∧ m = magN s) ∨ (dgP (bt s 0) ∧ bt s 0 ≠ 48 ∧ m = magN s + 1000 * (bt s 0 - 48) ∧ m ≤ 3000))
theorem MagIs.uniq {s : ByteArray} {m m' : Int} (a : MagIs s m) (b : MagIs s m') : m = m' := by
  obtain ⟨_, _, _, _, a⟩ := a
  obtain ⟨_, _, _, _, b⟩ := b
  unfold dgP at *
  omega
/-- What a line says of an observation. -/
structure Good (s : ByteArray) (o : Ob) : Prop where
  size : s.size = 80
  mark : bt s 12 = 32 ∧ bt s 13 = 32 ∧ bt s 14 = 67
  b1 : blankP (s.extract 56 65)
  b2 : blankP (s.extract 71 77)
  p : 3 ≤ decs (cutS (s.extract 15 32)) ∧ decs (cutS (s.extract 15 32)) ≤ 6
  q : 1 ≤ decs (cutS (s.extract 32 44)) ∧ decs (cutS (s.extract 32 44)) ≤ 3
  r : decs (cutS (s.extract 44 56)) ≤ 2
  day : PDayIs (cutS (s.extract 15 32)) o.t 0
  ra : Gp.RaIs (cutS (s.extract 32 44)) o.ra 0
  dec : Gp.DecIs (cutS (s.extract 44 56)) o.dec 0
  site : o.site = s.extract 77 80
  sg : o.sg = (if decs (cutS (s.extract 44 56)) = 0 then 1000000 else if decs (cutS (s.extract 44 56)) = 1 then 300000 else 100000)
  name : (blankP (s.extract 0 5) ∧ o.name = cutS (s.extract 5 12) ∧ ¬ numbP o.name) ∨ (¬ blankP (s.extract 0 5) ∧ o.name = s.extract 0 5 ∧ numbP o.name ∧ blankP (s.extract 5 12))
  mag : (blankP (s.extract 65 71) ∧ o.mag = 9999 ∧ o.band = 32) ∨ (¬ blankP (s.extract 65 71) ∧ MagIs (s.extract 65 70) o.mag ∧ o.band = bt s 70)
  ok : okO o
theorem Good.uniq {s : ByteArray} {o o' : Ob} (a : Good s o) (b : Good s o') : o = o' := by
  have e1 := (a.day.uniq b.day).1
  have e2 := (a.ra.det b.ra).1
  have e3 := (a.dec.det b.dec).1
  have e4 := a.site.trans b.site.symm
  have e5 := a.sg.trans b.sg.symm
  have e6 : o.name = o'.name := by
    rcases a.name with ⟨x1, x2, _⟩ | ⟨x1, x2, _⟩ <;> rcases b.name with ⟨y1, y2, _⟩ | ⟨y1, y2, _⟩
    · rw [x2, y2]
    · exact absurd x1 y1
    · exact absurd y1 x1
    · rw [x2, y2]
  have e7 : o.mag = o'.mag ∧ o.band = o'.band := by
    rcases a.mag with ⟨x1, x2, x3⟩ | ⟨x1, x2, x3⟩ <;> rcases b.mag with ⟨y1, y2, y3⟩ | ⟨y1, y2, y3⟩
    · exact ⟨by omega, by omega⟩
    · exact absurd x1 y1
    · exact absurd y1 x1
    · exact ⟨x2.uniq y2, by omega⟩
  obtain ⟨e7, e8⟩ := e7
  cases o; cases o'
  simp only at e1 e2 e3 e4 e5 e6 e7 e8
  rw [e1, e2, e3, e4, e5, e6, e7, e8]
/-- What Parse returns. -/
def ObsIs (s : ByteArray) (o : Ob) (c : Int) : Prop := (Good s o ∧ c = 0) ∨ ((∀ x, ¬ Good s x) ∧ o = zeroO ∧ c = 12)
theorem ObsIs.uniq {s : ByteArray} {o o' : Ob} {c c' : Int} (a : ObsIs s o c) (b : ObsIs s o' c') : o = o' ∧ c = c' := by
  rcases a with ⟨a1, a2⟩ | ⟨a1, a2, a3⟩ <;> rcases b with ⟨b1, b2⟩ | ⟨b1, b2, b3⟩
  · exact ⟨a1.uniq b1, by omega⟩
  · exact absurd a1 (b1 _)
  · exact absurd b1 (a1 _)
  · exact ⟨by rw [a2, b2], by omega⟩
/-! ### Lines -/
def spL (n : Nat) : List UInt8 := List.replicate n 32
/-- The text of a magnitude. -/
def magB (m : Int) : List UInt8 := (if m < 0 then [45] else []) ++ Lib.itoa ((m.natAbs / 100 : Nat) : Int) ++ [46] ++ At.decL m.natAbs 2
def magL (m : Int) : List UInt8 := spL (5 - (magB m).length) ++ magB m
def nameF (s : ByteArray) : List UInt8 := if numbP s then s.data.toList ++ spL 9 else spL 5 ++ s.data.toList ++ spL (9 - s.size)
def magF (m b : Int) : List UInt8 := if m = 9999 then spL 6 else magL m ++ [UInt8.ofNat b.toNat]
end Op
end Go.Proofs.YtaghilgfldaaiaaGreatDoor
/-
  Plain law of tables: what a field is read as; rounding.
-/
namespace Go.Proofs.YtaghilgfldaaiaaGreatDoor
namespace Vp
open Go.RowKit Lw Go.Proofs.YtaghilgfldaaiaaGreatDoor.Ap Go.Proofs.YtaghilgfldaaiaaGreatDoor.Op Go.Proofs.YtaghilgfldaaiaaGreatDoor.Mp Go.Proofs.YtaghilgfldaaiaaGreatDoor.Mw

/-! ### Readers -/
def timeR (s : ByteArray) : Option Int := if Ap.okText s then some (Ap.textV s) else none
theorem timeR_is {s : ByteArray} {t e : Int} (h : Ap.ParseIs s t e) : (e = 0 ∧ timeR s = some t) ∨ (e = 12 ∧ t = 0 ∧ timeR s = none) := by
  rcases h with ⟨h1, h2, h3⟩ | ⟨h1, h2, h3⟩
  · exact Or.inl ⟨h3, by unfold timeR; rw [if_pos h1, h2]⟩
  · exact Or.inr ⟨h3, h2, by unfold timeR; rw [if_neg h1]⟩
instance (t : ByteArray) (p : Nat) : Decidable (Gp.formP t p) := by unfold Gp.formP; infer_instance
instance (b : Bool) (D F : Int) : Decidable (Gp.numP b D F) := by unfold Gp.numP; infer_instance
def okDeg (s : ByteArray) : Prop := Gp.formP (Gp.bodyOf s) (Gp.ptOf (Gp.bodyOf s)) ∧ Gp.numP (Gp.negB s) (Gp.degD (Gp.bodyOf s) (Gp.ptOf (Gp.bodyOf s))) (Gp.degF (Gp.bodyOf s) (Gp.ptOf (Gp.bodyOf s)))
instance (s : ByteArray) : Decidable (okDeg s) := by unfold okDeg; infer_instance
def degV (s : ByteArray) : Int := Gp.sgnI (Gp.negB s) (Gp.degD (Gp.bodyOf s) (Gp.ptOf (Gp.bodyOf s)) * 3600000000 + Gp.fracI (Gp.degF (Gp.bodyOf s) (Gp.ptOf (Gp.bodyOf s))) ((Gp.bodyOf s).size - (Gp.ptOf (Gp.bodyOf s) + 1)))
def degR (s : ByteArray) : Option Int := if okDeg s then some (degV s) else none
abbrev DegS (s : ByteArray) (v e : Int) : Prop := Gp.DegT (Gp.negB s) (Gp.bodyOf s) (Gp.ptOf (Gp.bodyOf s)) v e
theorem degR_is {s : ByteArray} {v e : Int} (h : DegS s v e) : (e = 0 ∧ degR s = some v) ∨ (e = 12 ∧ v = 0 ∧ degR s = none) := by
  rcases h with ⟨h1, h2, h3, h4⟩ | ⟨h1, h2, h3⟩
  · exact Or.inl ⟨h4, by unfold degR; rw [if_pos (show okDeg s from ⟨h1, h2⟩), h3]; rfl⟩
  · exact Or.inr ⟨h3, h2, by unfold degR; rw [if_neg (show ¬ okDeg s from h1)]⟩
def numR (l : List UInt8) (a b : Nat) : Option Int := if a ≤ l.length ∧ l.length ≤ b ∧ Gp.allD l then some (Gp.numL l) else none
def sigR (l : List UInt8) : Option Int := if l.head? = some 48 then none else numR l 1 11
/-- The magnitude of what stands before and behind a point. -/
def magC (mn : Bool) (c : List UInt8 × List UInt8 × Bool) : Option Int :=
  (numR c.1 1 2).bind fun a => ((if c.2.2 = true then (numR c.2.1 1 2).map fun k => 100 * a + (if c.2.1.length = 1 then 10 * k else k) else some (100 * a)).bind fun n =>
    if n ≤ 3000 ∧ (0 < n ∨ mn = false) then some (if mn = true then -n else n) else none)
/-- The magnitude of a text that is not empty. -/
def magR (l : List UInt8) : Option Int := magC (l.head? == some 45) (Lib.cut (if (l.head? == some 45) = true then l.tail else l) [46])
def turnI : Int := 1296000000000
/-- What the field of a column makes of an observation. -/
def readF (k : Nat) (s : ByteArray) (o : Ob) : Option Ob :=
  if k = 0 then some { o with name := s } else if k = 1 then some { o with site := s } else if k = 2 then (timeR s).map fun t => { o with t := t } else
  if k = 3 then (degR s).bind fun a => if 0 ≤ a then some { o with ra := a % turnI } else none else if k = 4 then (degR s).map fun a => { o with dec := a } else
  if k = 5 then (if s.size = 0 then some o else (sigR s.data.toList).map fun n => { o with sg := n }) else
  if k = 6 then (if s.size = 0 then some o else (magR s.data.toList).map fun n => { o with mag := n }) else
  (if s.size = 0 then some o else if s.size = 1 then some { o with band := bt s 0 } else none)
def baseO : Ob := ⟨ByteArray.empty, ByteArray.empty, 0, 0, 0, 1000000, 9999, 32⟩
/-- Fields, one behind another. -/
def foldR (l : List (Nat × ByteArray)) (o : Ob) : Option Ob := l.foldl (fun x p => x.bind (readF p.1 p.2)) (some o)
theorem foldl_none (l : List (Nat × ByteArray)) : l.foldl (fun x p => x.bind (readF p.1 p.2)) (none : Option Ob) = none := by
  induction l with
  | nil => rfl
  | cons a l ih => exact ih
theorem foldR_cons (p : Nat × ByteArray) (l : List (Nat × ByteArray)) (o : Ob) : foldR (p :: l) o = (readF p.1 p.2 o).bind (foldR l) := by
  unfold foldR
  rw [List.foldl_cons]
  show List.foldl _ (readF p.1 p.2 o) l = _
  cases readF p.1 p.2 o with
  | none => exact foldl_none l
  | some o' => rfl
theorem foldR_snoc (l : List (Nat × ByteArray)) (p : Nat × ByteArray) (o : Ob) : foldR (l ++ [p]) o = (foldR l o).bind (readF p.1 p.2) := by
  unfold foldR
  rw [List.foldl_append]
  rfl
def okR (o : Ob) : Option Ob := if okO o then some o else none
/-- What a row is read as. -/
def rowR (order : List Nat) (cells : List ByteArray) : Option Ob := if order.length = cells.length then (foldR (order.zip cells) baseO).bind okR else none

/-! ### Fields -/
def magF (m : Int) : List UInt8 := if m = 9999 then [] else magB m
def bandF (b : Int) : List UInt8 := if b = 32 then [] else [UInt8.ofNat b.toNat]
def stL (l : List UInt8) : ByteArray := ⟨l.toArray⟩
theorem stL_L (l : List UInt8) : (stL l).data.toList = l := rfl
theorem stL_size (l : List UInt8) : (stL l).size = l.length := by simp [stL, ByteArray.size]
/-- The fields of an observation; the time's is told apart. -/
def fieldL (o : Ob) (T : ByteArray) : List ByteArray := [o.name, o.site, T, stL (Gt.degL o.ra 9), stL (Gt.degL o.dec 9), stL (Lib.itoa o.sg), stL (magF o.mag), stL (bandF o.band)]
def roundP (o : Ob) : Ob := { o with ra := dgR o.ra % turnI, dec := dgR o.dec }
theorem dd_ne (u : Nat) : Lib.decDigits u ≠ [] := by
  unfold Lib.decDigits
  split <;> simp
theorem dd_first : ∀ (n u : Nat), u ≤ n → 0 < u → (Lib.decDigits u).head? ≠ some 48
  | 0, u, h, h0 => by omega
  | n + 1, u, h, h0 => by
    unfold Lib.decDigits
    split
    · rename_i g
      intro e
      have e2 : UInt8.ofNat (48 + u) = 48 := Option.some.inj e
      have := congrArg UInt8.toNat e2
      rw [UInt8.toNat_ofNat'] at this
      have e3 : (48 : UInt8).toNat = 48 := rfl
      rw [e3] at this
      omega
    · have ih := dd_first n (u / 10) (by omega) (by omega)
      rw [List.head?_append]
      cases hd : (Lib.decDigits (u / 10)).head? with
      | none =>
        have e := List.head?_eq_none_iff.1 hd
        have := dd_ne (u / 10)
        exact absurd e this
      | some x =>
        rw [hd] at ih
        exact ih
theorem dd_len : ∀ (k u : Nat), u < 10 ^ (k + 1) → (Lib.decDigits u).length ≤ k + 1
  | 0, u, h => by
    unfold Lib.decDigits
    rw [dif_pos (by omega)]
    simp
  | k + 1, u, h => by
    unfold Lib.decDigits
    split
    · simp
    · have := dd_len k (u / 10) (by rw [Nat.pow_succ] at h; omega)
      rw [List.length_append]
      simp only [List.length_cons, List.length_nil]
      omega
theorem itoa_pos (n : Nat) : Lib.itoa (n : Int) = Lib.decDigits n := by unfold Lib.itoa; rw [if_neg (by omega), Int.toNat_natCast]
theorem read_sig {n : Int} (h0 : 1 ≤ n) (h1 : n ≤ 10000000000) : sigR (Lib.itoa n) = some n ∧ 0 < (Lib.itoa n).length := by
  obtain ⟨m, rfl⟩ := Int.eq_ofNat_of_zero_le (show 0 ≤ n by omega)
  have hd := dd_first m m (Nat.le_refl _) (by omega)
  have hn := Gt.itoa_num m
  have hl := dd_len 10 m (by omega)
  rw [itoa_pos] at hn ⊢
  have ne := dd_ne m
  have p : 0 < (Lib.decDigits m).length := List.length_pos_iff.2 ne
  unfold sigR numR
  rw [if_neg hd, if_pos ⟨by omega, hl, hn.2⟩, hn.1]
  exact ⟨rfl, p⟩
end Vp
end Go.Proofs.YtaghilgfldaaiaaGreatDoor
/-
  Rows of cells that a walk writes; all but one block is as it was.
-/
namespace Go.Proofs.YtaghilgfldaaiaaGreatDoor
namespace Vw
open Go.RowKit Lw

theorem set_size (b i : Nat) (v : Value) (w : World) : (w.setCell ⟨b, i, none⟩ v).heap.size = w.heap.size := by
  unfold World.setCell
  split <;> simp
/-- A row of cells that may be written. -/
structure Rw (w : World) (b : Nat) (vs : List Value) : Prop where
  row : w.rangeAt b 0 vs
  th : w.there b 0 vs.length
  lt : b < w.heap.size
theorem Rw.cell {w : World} {b : Nat} {vs : List Value} (h : Rw w b vs) {j : Nat} {v : Value} (hj : vs[j]? = some v) : w.cell? ⟨b, j, none⟩ = some v := by
  have := h.row j v hj
  rwa [Nat.zero_add] at this
theorem Rw.free {w : World} {b : Nat} {vs : List Value} (h : Rw w b vs) {j : Nat} (hj : j < vs.length) : w.frozen? ⟨b, j, none⟩ = false := by
  have := (h.th j hj).2
  rwa [Nat.zero_add] at this
theorem Rw.set {w : World} {b : Nat} {vs : List Value} (h : Rw w b vs) (i : Nat) (v : Value) (hi : i < vs.length) : Rw (w.setCell ⟨b, i, none⟩ v) b (vs.set i v) := by
  have out := World.cell?_setCells_out b [v] i w
  have inn := World.cell?_setCells_in b [v] i w (fun j hj => by
    have hj : j < 1 := hj
    have := (h.th (i + j) (by omega)).1
    rwa [Nat.zero_add] at this)
  have ew : w.setCells b i [v] = w.setCell ⟨b, i, none⟩ v := rfl
  have fz : ∀ p, (w.setCell ⟨b, i, none⟩ v).frozen? p = w.frozen? p := fun p => by rw [← ew, World.frozen?_setCells]
  rw [ew] at out inn
  refine ⟨?_, ?_, by rw [set_size]; exact h.lt⟩
  · intro j x hx
    rw [Nat.zero_add]
    by_cases hj : j = i
    · subst hj
      rw [List.getElem?_set_self hi] at hx
      have := inn 0 (by show 0 < 1; omega)
      rw [Nat.add_zero] at this
      rw [this]; exact hx
    · rw [List.getElem?_set_ne (fun h => hj h.symm)] at hx
      rw [out _ (fun _ _ => by show j < i ∨ i + 1 ≤ j; omega)]
      exact h.cell hx
  · intro j hj
    rw [List.length_set] at hj
    refine ⟨?_, by rw [fz]; exact (h.th j hj).2⟩
    rw [Nat.zero_add]
    by_cases hj2 : j = i
    · subst hj2
      have := inn 0 (by show 0 < 1; omega)
      rw [Nat.add_zero] at this
      rw [this]; rfl
    · rw [out _ (fun _ _ => by show j < i ∨ i + 1 ≤ j; omega)]
      have := (h.th j hj).1
      rwa [Nat.zero_add] at this
theorem Rw.apart {w : World} {b c : Nat} {vs : List Value} (h : Rw w b vs) (hc : b ≠ c) (i : Nat) (v : Value) : Rw (w.setCell ⟨c, i, none⟩ v) b vs := by
  have out := World.cell?_setCells_out c [v] i w
  have ew : w.setCells c i [v] = w.setCell ⟨c, i, none⟩ v := rfl
  have fz : ∀ p, (w.setCell ⟨c, i, none⟩ v).frozen? p = w.frozen? p := fun p => by rw [← ew, World.frozen?_setCells]
  rw [ew] at out
  refine ⟨fun j x hx => ?_, fun j hj => ?_, by rw [set_size]; exact h.lt⟩
  · rw [out _ (fun e => absurd e hc)]
    exact h.row j x hx
  · rw [fz, out _ (fun e => absurd e hc)]
    exact h.th j hj
theorem Rw.new (w : World) (vs : List Value) (t : TypeId) : Rw (w.alloc (.cells vs.toArray t)) w.heap.size vs :=
  ⟨rangeAt_new w vs t, there_new w vs.toArray t vs.length (by simp), by simp⟩
/-- All but one block is as it was. -/
structure Only (b : Nat) (w w' : World) : Prop where
  size : w.heap.size ≤ w'.heap.size
  block : ∀ k, k < w.heap.size → k ≠ b → w'.heap[k]? = w.heap[k]?
  below : Below b w w'
theorem Only.refl (b : Nat) (w : World) : Only b w w := ⟨Nat.le_refl _, fun _ _ _ => rfl, Below.refl b w⟩
theorem Only.trans {b : Nat} {u v w : World} (h : Only b u v) (g : Only b v w) : Only b u w := ⟨Nat.le_trans h.size g.size, fun k hk hb => (g.block k (Nat.lt_of_lt_of_le hk h.size) hb).trans (h.block k hk hb), h.below.trans g.below⟩
theorem Only.of {b : Nat} {w w' : World} (hb : b ≤ w.heap.size) (h : Below w.heap.size w w') : Only b w w' := ⟨h.size, fun k hk _ => h.block k hk, h.mono hb⟩
theorem Only.set (b i : Nat) (v : Value) (w : World) : Only b w (w.setCell ⟨b, i, none⟩ v) := ⟨by rw [set_size]; exact Nat.le_refl _, fun k _ hb => by
  show (w.heap.modify b _)[k]? = _
  rw [Array.getElem?_modify, if_neg (fun e => hb e.symm)], (Below.refl b w).setCell (p := ⟨b, i, none⟩) (Nat.le_refl _) v⟩
theorem Rw.only {w w' : World} {b c : Nat} {vs : List Value} (h : Rw w b vs) (o : Only c w w') (hb : b ≠ c) : Rw w' b vs := by
  have e : w'.heap[b]? = w.heap[b]? := o.block b h.lt hb
  refine ⟨fun j x hx => ?_, fun j hj => ?_, Nat.lt_of_lt_of_le h.lt o.size⟩
  · have := h.row j x hx
    unfold World.cell? at this ⊢
    rw [e]; exact this
  · have := h.th j hj
    refine ⟨?_, ?_⟩
    · have := this.1
      unfold World.cell? at this ⊢
      rw [e]; exact this
    · have := this.2
      unfold World.frozen? at this ⊢
      rw [e]; exact this
theorem Rw.call {w w' : World} {b : Nat} {vs : List Value} (h : Rw w b vs) (hb : Below w.heap.size w w') : Rw w' b vs := by
  have o : Only w.heap.size w w' := Only.of (Nat.le_refl _) hb
  exact h.only o (Nat.ne_of_lt h.lt)
theorem sets_size2 (b o : Nat) (cs : List Value) (w : World) : (w.setCells b o cs).heap.size = w.heap.size := by
  induction cs generalizing w o with
  | nil => rfl
  | cons v r ih => rw [World.setCells, ih, set_size]
theorem Rw.sets {w : World} {b : Nat} {vs : List Value} (us : List Value) (h : Rw w b vs) (hl : us.length = vs.length) : Rw (w.setCells b 0 us) b us := by
  refine ⟨World.rangeAt_setCells_same w b 0 us (fun j hj => (h.th j (by omega))), ?_, ?_⟩
  · have := World.there_setCells h.th b 0 us
    rw [hl]; exact this
  · rw [sets_size2]; exact h.lt
theorem Rw.sets_apart {w : World} {b c : Nat} {vs : List Value} (us : List Value) (h : Rw w b vs) (hc : b ≠ c) (o : Nat) : Rw (w.setCells c o us) b vs := by
  induction us generalizing w o with
  | nil => exact h
  | cons v r ih => rw [World.setCells]; exact ih (h.apart hc o v) (o + 1)
end Vw
end Go.Proofs.YtaghilgfldaaiaaGreatDoor
/-
  The walks of isDigit, isLetter, isWord of package obs, and of digit, letter, word, digits of the reference.
-/
namespace Go.Proofs.YtaghilgfldaaiaaGreatDoor
namespace Ow
open Go.RowKit Lw Go.Proofs.YtaghilgfldaaiaaGreatDoor.Ap Go.Proofs.YtaghilgfldaaiaaGreatDoor.Op

theorem dgB_cases (r : Int) : (48 ≤ r ∧ r ≤ 57 ∧ dgB r = true) ∨ (r < 48 ∧ dgB r = false) ∨ (48 ≤ r ∧ 57 < r ∧ dgB r = false) := by
  by_cases h : 48 ≤ r
  · by_cases g : r ≤ 57
    · exact Or.inl ⟨h, g, decide_eq_true ⟨h, g⟩⟩
    · exact Or.inr (Or.inr ⟨h, by omega, decide_eq_false fun x => g x.2⟩)
  · exact Or.inr (Or.inl ⟨by omega, decide_eq_false fun x => h x.1⟩)
theorem ltB_cases (r : Int) : (65 ≤ r ∧ r ≤ 90 ∧ ltB r = true) ∨ (97 ≤ r ∧ r ≤ 122 ∧ ltB r = true) ∨ (r < 65 ∧ ltB r = false) ∨ (90 < r ∧ r < 97 ∧ ltB r = false) ∨ (122 < r ∧ ltB r = false) := by
  by_cases h : 65 ≤ r ∧ r ≤ 90
  · exact Or.inl ⟨h.1, h.2, decide_eq_true (Or.inl h)⟩
  · by_cases g : 97 ≤ r ∧ r ≤ 122
    · exact Or.inr (Or.inl ⟨g.1, g.2, decide_eq_true (Or.inr g)⟩)
    · have n : ltB r = false := decide_eq_false fun x => by rcases x with x | x <;> omega
      by_cases a : r < 65
      · exact Or.inr (Or.inr (Or.inl ⟨a, n⟩))
      · by_cases b : r < 97
        · exact Or.inr (Or.inr (Or.inr (Or.inl ⟨by omega, b, n⟩)))
        · exact Or.inr (Or.inr (Or.inr (Or.inr ⟨by omega, n⟩)))
set_option maxHeartbeats 400000 in
theorem isDigit_any (r : Int) (w : World) : Calls Tryz.prog 175 #[.int .i32 r] w fun e w' => e = .returned (.bool (dgB r)) ∧ w = w' := by
  rcases dgB_cases r with ⟨h, g, e⟩ | ⟨h, e⟩ | ⟨h, g, e⟩
  all_goals
    rw [e]
    clear e
    go_enter Tryz.func175, Tryz.ntmps175
    go_wp2
    go_ret
    first
      | exact ⟨rfl, rfl⟩
      | exact ⟨ret_b (by simp; omega), rfl⟩
set_option maxHeartbeats 400000 in
theorem isLetter_any (r : Int) (w : World) : Calls Tryz.prog 121 #[.int .i32 r] w fun e w' => e = .returned (.bool (ltB r)) ∧ w = w' := by
  rcases ltB_cases r with ⟨h, g, e⟩ | ⟨h, g, e⟩ | ⟨h, e⟩ | ⟨h, g, e⟩ | ⟨h, e⟩
  all_goals
    rw [e]
    clear e
    go_enter Tryz.func121, Tryz.ntmps121
    go_wp2
    go_ret
    first
      | exact ⟨rfl, rfl⟩
      | exact ⟨ret_b (by simp; omega), rfl⟩
set_option maxHeartbeats 400000 in
theorem rdigit_any (r : Int) (w : World) : Calls Tryz.prog 87 #[.int .u8 r] w fun e w' => e = .returned (.bool (dgB r)) ∧ w = w' := by
  rcases dgB_cases r with ⟨h, g, e⟩ | ⟨h, e⟩ | ⟨h, g, e⟩
  all_goals
    rw [e]
    clear e
    go_enter Tryz.func87, Tryz.ntmps87
    go_wp2
    go_ret
    first
      | exact ⟨rfl, rfl⟩
      | exact ⟨ret_b (by simp; omega), rfl⟩
set_option maxHeartbeats 400000 in
theorem rletter_any (r : Int) (w : World) : Calls Tryz.prog 42 #[.int .u8 r] w fun e w' => e = .returned (.bool (ltB r)) ∧ w = w' := by
  rcases ltB_cases r with ⟨h, g, e⟩ | ⟨h, g, e⟩ | ⟨h, e⟩ | ⟨h, g, e⟩ | ⟨h, e⟩
  all_goals
    rw [e]
    clear e
    go_enter Tryz.func42, Tryz.ntmps42
    go_wp2
    go_ret
    first
      | exact ⟨rfl, rfl⟩
      | exact ⟨ret_b (by simp; omega), rfl⟩
/-- A byte that is no letter and no digit, or the byte itself, as the range over a string gives it. -/
theorem rune_word {s : ByteArray} {k : Nat} (hlt : k < s.size) : (Utf8.decode s k = ((s[k]'hlt).toNat, 1)) ∨ (¬ (dgP (s[k].toNat : Int) ∨ ltP (s[k].toNat : Int)) ∧ 128 ≤ ((Utf8.decode s k).1 : Int) ∧ ((Utf8.decode s k).1 : Int) ≤ 2147483647) := by
  by_cases ha : (s[k]'hlt).toNat < 128
  · exact Or.inl (decode_ascii s k hlt ha)
  · have := (decode_high s k hlt (by omega)).1
    have := decode_le s k
    refine Or.inr ⟨fun h => ?_, by omega, by omega⟩
    unfold dgP ltP at h
    omega
theorem dg_cases (c : Int) : (dgP c ∧ dgB c = true) ∨ (¬ dgP c ∧ dgB c = false) := by
  by_cases h : dgP c
  · exact Or.inl ⟨h, decide_eq_true h⟩
  · exact Or.inr ⟨h, decide_eq_false h⟩
theorem lt_cases (c : Int) : (ltP c ∧ ltB c = true) ∨ (¬ ltP c ∧ ltB c = false) := by
  by_cases h : ltP c
  · exact Or.inl ⟨h, decide_eq_true h⟩
  · exact Or.inr ⟨h, decide_eq_false h⟩
set_option maxHeartbeats 1000000 in
theorem isWord_it (s : ByteArray) (w : World) (hs : s.size ≤ maxLen) :
    Calls Tryz.prog 120 #[.string s] w fun e w' => e = .returned (.bool (wordB s.data.toList)) ∧ ∃ k, w' = w.iter s k := by
  unfold maxLen at hs
  go_enter Tryz.func120, Tryz.ntmps120
  go_wp2
  go_loopw [4] (fun n w' => ∃ k : Nat, k ≤ s.size ∧ w' = w.iter s k ∧ Hid (wordP (s.data.toList.take k))) (fun _ w' => s.size - w'.iterPos w.heap.size)
  case atStart => exact ⟨0, Nat.zero_le _, rfl, Lib.hid (by intro c hc; simp at hc)⟩
  case round =>
    obtain ⟨k, hk, rfl, D⟩ := hrel
    by_cases hlt : k < s.size
    · have hnx : ∀ ty, (Instr.next (.pointer (some ⟨w.heap.size, 0, none⟩)) true ty).run Tryz.prog (w.iter s k) = _ := fun ty => run_next_any w s k ty hlt
      have bb := byte_bd s[k]
      rcases rune_word hlt with hr | ⟨d, r1, r2⟩
      · rw [hr] at hnx
        rcases dg_cases (s[k].toNat : Int) with ⟨d1, e1⟩ | ⟨d1, e1⟩
        · have D2 := Lib.hid (show wordP (s.data.toList.take (k + 1)) by rw [take_snoc s k hlt]; exact wordP_snoc D.out (Or.inl d1))
          clear d1
          go_wp2_with (first | (go_at_call 175; refine (isDigit_any _ _).mono ?_; rintro e w' ⟨rfl, rfl⟩) | (go_at_call 121; refine (isLetter_any _ _).mono ?_; rintro e w' ⟨rfl, rfl⟩))
          go_roundw
          case rel => exact ⟨k + 1, by omega, rfl, D2⟩
          case measure => simp; omega
        · rcases lt_cases (s[k].toNat : Int) with ⟨d2, e2⟩ | ⟨d2, e2⟩
          · have D2 := Lib.hid (show wordP (s.data.toList.take (k + 1)) by rw [take_snoc s k hlt]; exact wordP_snoc D.out (Or.inr d2))
            clear d1 d2
            go_wp2_with (first | (go_at_call 175; refine (isDigit_any _ _).mono ?_; rintro e w' ⟨rfl, rfl⟩) | (go_at_call 121; refine (isLetter_any _ _).mono ?_; rintro e w' ⟨rfl, rfl⟩))
            go_roundw
            case rel => exact ⟨k + 1, by omega, rfl, D2⟩
            case measure => simp; omega
          · have N := Lib.hid (word_not s k hlt (fun h => h.elim d1 d2))
            clear d1 d2
            go_wp2_with (first | (go_at_call 175; refine (isDigit_any _ _).mono ?_; rintro e w' ⟨rfl, rfl⟩) | (go_at_call 121; refine (isLetter_any _ _).mono ?_; rintro e w' ⟨rfl, rfl⟩))
            go_ret
            exact ⟨ret_b N.out.symm, _, rfl⟩
      · have N := Lib.hid (word_not s k hlt d)
        clear d
        generalize (Utf8.decode s k).1 = r at *
        have e1 : dgB (r : Int) = false := decide_eq_false fun h => by unfold dgP at h; omega
        have e2 : ltB (r : Int) = false := decide_eq_false fun h => by unfold ltP at h; omega
        go_wp2_with (first | (go_at_call 175; refine (isDigit_any _ _).mono ?_; rintro e w' ⟨rfl, rfl⟩) | (go_at_call 121; refine (isLetter_any _ _).mono ?_; rintro e w' ⟨rfl, rfl⟩))
        go_ret
        exact ⟨ret_b N.out.symm, _, rfl⟩
    · have hnx : ∀ ty, (Instr.next (.pointer (some ⟨w.heap.size, 0, none⟩)) true ty).run Tryz.prog (w.iter s k) = _ := fun ty => run_next_end w s k ty hlt
      have N := Lib.hid (word_all s k hlt D.out)
      go_wp2
      go_ret
      exact ⟨ret_b N.out.symm, _, rfl⟩
theorem isWord_any (s : ByteArray) (w : World) (hs : s.size ≤ maxLen) :
    Calls Tryz.prog 120 #[.string s] w fun e w' => e = .returned (.bool (wordB s.data.toList)) ∧ Below w.heap.size w w' :=
  (isWord_it s w hs).mono fun _ _ ⟨he, k, hk⟩ => ⟨he, hk ▸ Gp.below_iter w s k⟩
set_option maxHeartbeats 1000000 in
theorem rword_any (s : ByteArray) (w : World) (hs : s.size ≤ maxLen) :
    Calls Tryz.prog 41 #[.string s] w fun e w' => e = .returned (.bool (wordB s.data.toList)) ∧ w = w' := by
  unfold maxLen at hs
  go_enter Tryz.func41, Tryz.ntmps41
  go_wp2
  go_loop [3] (fun i => ∃ k : Nat, k ≤ s.size ∧ i = .int .i64 k ∧ Hid (wordP (s.data.toList.take k))) (fun i => s.size - (intOf i).toNat)
  case atStart => exact ⟨0, Nat.zero_le _, rfl, Lib.hid (by intro c hc; simp at hc)⟩
  case round =>
    obtain ⟨k, hk, rfl, D⟩ := hrel
    by_cases hlt : k < s.size
    · have bb := byte_bd s[k]
      rcases dg_cases (s[k].toNat : Int) with ⟨d1, e1⟩ | ⟨d1, e1⟩
      · have D2 := Lib.hid (show wordP (s.data.toList.take (k + 1)) by rw [take_snoc s k hlt]; exact wordP_snoc D.out (Or.inl d1))
        clear d1
        go_wp2_with (first | (go_at_call 87; refine (rdigit_any _ _).mono ?_; rintro e w' ⟨rfl, rfl⟩) | (go_at_call 42; refine (rletter_any _ _).mono ?_; rintro e w' ⟨rfl, rfl⟩))
        go_round
        case rel => exact ⟨k + 1, by omega, by go_num, D2⟩
        case measure => simp [intOf]; omega
      · rcases lt_cases (s[k].toNat : Int) with ⟨d2, e2⟩ | ⟨d2, e2⟩
        · have D2 := Lib.hid (show wordP (s.data.toList.take (k + 1)) by rw [take_snoc s k hlt]; exact wordP_snoc D.out (Or.inr d2))
          clear d1 d2
          go_wp2_with (first | (go_at_call 87; refine (rdigit_any _ _).mono ?_; rintro e w' ⟨rfl, rfl⟩) | (go_at_call 42; refine (rletter_any _ _).mono ?_; rintro e w' ⟨rfl, rfl⟩))
          go_round
          case rel => exact ⟨k + 1, by omega, by go_num, D2⟩
          case measure => simp [intOf]; omega
        · have N := Lib.hid (word_not s k hlt (fun h => h.elim d1 d2))
          clear d1 d2
          go_wp2_with (first | (go_at_call 87; refine (rdigit_any _ _).mono ?_; rintro e w' ⟨rfl, rfl⟩) | (go_at_call 42; refine (rletter_any _ _).mono ?_; rintro e w' ⟨rfl, rfl⟩))
          go_ret
          exact ⟨ret_b N.out.symm, rfl⟩
    · have N := Lib.hid (word_all s k hlt D.out)
      go_wp2
      go_ret
      exact ⟨ret_b N.out.symm, rfl⟩
theorem digs_not (s : ByteArray) (k : Nat) (hk : k < s.size) (h : ¬ dgP (s[k].toNat : Int)) : digsB s.data.toList = false := by
  refine decide_eq_false fun g => h (g.2 _ ?_)
  have : s[k] = s.data.toList[k]'(by simpa using hk) := rfl
  rw [this]; exact List.getElem_mem _
theorem digs_all (s : ByteArray) (k : Nat) (hk : ¬ k < s.size) (h : allD (s.data.toList.take k)) : digsB s.data.toList = decide (0 < s.size) := by
  rw [take_all s k hk] at h
  refine decide_eq_decide.2 ⟨fun g => by simpa using g.1, fun g => ⟨by simpa using g, h⟩⟩
set_option maxHeartbeats 1000000 in
theorem rdigits_any (s : ByteArray) (w : World) (hs : s.size ≤ maxLen) :
    Calls Tryz.prog 141 #[.string s] w fun e w' => e = .returned (.bool (digsB s.data.toList)) ∧ w = w' := by
  unfold maxLen at hs
  go_enter Tryz.func141, Tryz.ntmps141
  go_wp2
  go_loop [3] (fun i => ∃ k : Nat, k ≤ s.size ∧ i = .int .i64 k ∧ Hid (allD (s.data.toList.take k))) (fun i => s.size - (intOf i).toNat)
  case atStart => exact ⟨0, Nat.zero_le _, rfl, Lib.hid (by intro c hc; simp at hc)⟩
  case round =>
    obtain ⟨k, hk, rfl, D⟩ := hrel
    by_cases hlt : k < s.size
    · have bb := byte_bd s[k]
      rcases dg_cases (s[k].toNat : Int) with ⟨d1, e1⟩ | ⟨d1, e1⟩
      · have D2 := Lib.hid (show allD (s.data.toList.take (k + 1)) by rw [take_snoc s k hlt]; exact allD_snoc D.out d1.1 d1.2)
        clear d1
        go_wp2_with (go_at_call 87; refine (rdigit_any _ _).mono ?_; rintro e w' ⟨rfl, rfl⟩)
        go_round
        case rel => exact ⟨k + 1, by omega, by go_num, D2⟩
        case measure => simp [intOf]; omega
      · have N := Lib.hid (digs_not s k hlt d1)
        clear d1
        go_wp2_with (go_at_call 87; refine (rdigit_any _ _).mono ?_; rintro e w' ⟨rfl, rfl⟩)
        go_ret
        exact ⟨ret_b N.out.symm, rfl⟩
    · have N := Lib.hid (digs_all s k hlt D.out)
      by_cases z : 0 < s.size
      · have z2 : (0 : Int) < s.size := by omega
        go_wp2
        go_ret
        exact ⟨ret_b (by rw [N.out, decide_eq_true z]), rfl⟩
      · have z2 : s.size = 0 := by omega
        have Z := Lib.hid z2
        clear z2
        have z3 : ¬ (0 : Int) < s.size := by omega
        go_wp2
        go_ret
        exact ⟨ret_b (by rw [N.out]; simp [z]), rfl⟩
end Ow
end Go.Proofs.YtaghilgfldaaiaaGreatDoor
/-
  need and number of psv: what they return, and what they raise.
-/
namespace Go.Proofs.YtaghilgfldaaiaaGreatDoor
namespace Vw
open Go.RowKit Lw Go.Proofs.YtaghilgfldaaiaaGreatDoor.Ap Go.Proofs.YtaghilgfldaaiaaGreatDoor.Vp Go.Proofs.YtaghilgfldaaiaaGreatDoor.Op Go.Proofs.YtaghilgfldaaiaaGreatDoor.Ow

/-- What a table that cannot be read raises. -/
def malP : List PanicEntry := [{ v := .iface 84 (.agg #[]), recovered := false }]
set_option maxHeartbeats 1000000 in
theorem need_yes (w : World) : Calls Tryz.prog 48 #[.bool true] w fun e w' => e = .returned (.tuple #[]) ∧ w = w' := by
  go_enter Tryz.func48, Tryz.ntmps48
  go_wp2_with fail
  first
    | (go_end0; exact ⟨rfl, rfl⟩)
    | go_end0
    | (go_ret; exact ⟨rfl, rfl⟩)
set_option maxHeartbeats 1000000 in
theorem need_no (w : World) : Calls Tryz.prog 48 #[.bool false] w fun e w' => e = .panicked malP ∧ w = w' := by
  go_enter Tryz.func48, Tryz.ntmps48
  go_wp2_with fail
  exact ⟨rfl, rfl, rfl⟩
theorem num_bd {l : List UInt8} (h : Gp.allD l) (k : Nat) (hk : l.length ≤ k) (h11 : k ≤ 11) : 0 ≤ Gp.numL l ∧ Gp.numL l < 100000000000 := by
  have b := Gp.numV_bd l
  unfold Gp.numV at b
  rw [if_pos h] at b
  have t : ∀ m : Nat, m ≤ 11 → (10 : Int) ^ m ≤ 100000000000 := by decide
  have := t l.length (by omega)
  have n0 : ∀ l : List UInt8, Gp.allD l → 0 ≤ Gp.numL l := fun l h => by
    have e : ∀ (l : List UInt8) (a : Int), 0 ≤ a → (∀ c ∈ l, 48 ≤ (c.toNat : Int)) → 0 ≤ l.foldl (fun n c => 10 * n + ((c.toNat : Int) - 48)) a := fun l => by
      induction l with
      | nil => exact fun a ha _ => ha
      | cons c l ih => exact fun a ha hc => ih _ (by have := hc c (by simp); show 0 ≤ 10 * a + ((c.toNat : Int) - 48); omega) (fun x hx => hc x (by simp [hx]))
    exact e l 0 (by omega) (fun c hc => (h c hc).1)
  exact ⟨n0 l h, by omega⟩
def NumrPost (s : ByteArray) (a b : Nat) (w : World) (e : Ending) (w' : World) : Prop := ((∃ n, numR s.data.toList a b = some n ∧ 0 ≤ n ∧ n < 100000000000 ∧ e = .returned (.int .i64 n)) ∨ (numR s.data.toList a b = none ∧ e = .panicked malP)) ∧ Below w.heap.size w w'
set_option maxRecDepth 100000 in
set_option maxHeartbeats 4000000 in
theorem numr_any (s : ByteArray) (a b : Nat) (w : World) (hs : s.size ≤ maxLen) (hb : b ≤ 11) :
    Calls Tryz.prog 131 #[.string s, .int .i64 (a : Int), .int .i64 (b : Int)] w (NumrPost s a b w) := by
  have zl : s.data.toList.length = s.size := rfl
  unfold maxLen at hs
  by_cases h1 : a ≤ s.size
  · have i1 : (a : Int) ≤ (s.size : Int) := by omega
    by_cases h2 : s.size ≤ b
    · have i2 : (s.size : Int) ≤ (b : Int) := by omega
      have NX := Lib.hid (fun (k : Nat) (h : Gp.allD (s.data.toList.take k)) => num_bd h 11 (by rw [List.length_take]; omega) (by omega))
      have FIN := Lib.hid (fun (h : Gp.allD (s.data.toList.take s.size)) => show numR s.data.toList a b = some (Gp.numL (s.data.toList.take s.size)) from by
        rw [List.take_of_length_le (by omega)] at h ⊢
        unfold numR
        rw [if_pos ⟨by omega, by omega, h⟩])
      have NO := Lib.hid (fun (h : ¬ Gp.allD s.data.toList) => show numR s.data.toList a b = none from by
        unfold numR
        rw [if_neg (fun g => h g.2.2)])
      go_enter Tryz.func131, Tryz.ntmps131
      go_wp2_with fail
      refine (need_yes _).mono ?_
      rintro e w1 ⟨rfl, rfl⟩
      go_wp2_with fail
      go_loopw [7] (fun n w' => ∃ k : Nat, k ≤ s.size ∧ w' = w.iter s k ∧ n = .int .i64 (Gp.numL (s.data.toList.take k)) ∧ Hid (Gp.allD (s.data.toList.take k))) (fun _ w' => s.size - w'.iterPos w.heap.size)
      case atStart => exact ⟨0, Nat.zero_le _, rfl, rfl, Lib.hid (by intro c hc; simp at hc)⟩
      case round =>
        obtain ⟨k, hk, rfl, rfl, D⟩ := hrel
        obtain ⟨n0, n1⟩ := NX.out k D.out
        by_cases hlt : k < s.size
        · have hnx : ∀ ty, (Instr.next (.pointer (some ⟨w.heap.size, 0, none⟩)) true ty).run Tryz.prog (w.iter s k) = _ := fun ty => run_next_any w s k ty hlt
          have bb := byte_bd s[k]
          rcases rune_word hlt with hr | ⟨d, r1, r2⟩
          · rw [hr] at hnx
            have hm : (s[k]'hlt) ∈ s.data.toList := by
              have : (s[k]'hlt) = s.data.toList[k]'(by omega) := rfl
              rw [this]
              exact List.getElem_mem _
            by_cases c1 : 48 ≤ (s[k].toNat : Int)
            · by_cases c2 : (s[k].toNat : Int) ≤ 57
              · have e1 : Gp.numL (s.data.toList.take (k + 1)) = 10 * Gp.numL (s.data.toList.take k) + ((s[k].toNat : Int) - 48) := by rw [take_snoc s k hlt, Gp.numL_snoc]
                have D2 := Lib.hid (show Gp.allD (s.data.toList.take (k + 1)) by rw [take_snoc s k hlt]; exact Gp.allD_snoc D.out c1 c2)
                obtain ⟨m0, m1⟩ := NX.out (k + 1) D2.out
                rw [e1] at m0 m1
                have E1 := Lib.hid e1
                clear e1 FIN NO hm
                generalize Gp.numL (s.data.toList.take k) = N at *
                go_wp2_with fail
                refine (need_yes _).mono ?_
                rintro e w1 ⟨rfl, rfl⟩
                go_wp2_with fail
                go_roundw
                case rel => exact ⟨k + 1, by omega, rfl, by rw [E1.out], D2⟩
                case measure => simp; omega
              · have N := Lib.hid (NO.out (fun h => c2 (h _ hm).2))
                clear FIN NO hm
                generalize Gp.numL (s.data.toList.take k) = NN at *
                go_wp2_with fail
                refine (need_no _).mono ?_
                rintro e w1 ⟨rfl, rfl⟩
                exact ⟨rfl, Or.inr ⟨N.out, rfl⟩, Gp.below_iter w s _⟩
            · have N := Lib.hid (NO.out (fun h => c1 (h _ hm).1))
              clear FIN NO hm
              generalize Gp.numL (s.data.toList.take k) = NN at *
              go_wp2_with fail
              refine (need_no _).mono ?_
              rintro e w1 ⟨rfl, rfl⟩
              exact ⟨rfl, Or.inr ⟨N.out, rfl⟩, Gp.below_iter w s _⟩
          · have hm : (s[k]'hlt) ∈ s.data.toList := by
              have : (s[k]'hlt) = s.data.toList[k]'(by omega) := rfl
              rw [this]
              exact List.getElem_mem _
            have N := Lib.hid (NO.out (fun h => d (Or.inl ⟨(h _ hm).1, (h _ hm).2⟩)))
            clear d FIN NO hm
            generalize (Utf8.decode s k).1 = r at *
            generalize Gp.numL (s.data.toList.take k) = NN at *
            have c1 : (48 : Int) ≤ (r : Int) := by omega
            have c2 : ¬ (r : Int) ≤ 57 := by omega
            go_wp2_with fail
            refine (need_no _).mono ?_
            rintro e w1 ⟨rfl, rfl⟩
            exact ⟨rfl, Or.inr ⟨N.out, rfl⟩, Gp.below_iter w s _⟩
        · obtain rfl : k = s.size := by omega
          have hnx : ∀ ty, (Instr.next (.pointer (some ⟨w.heap.size, 0, none⟩)) true ty).run Tryz.prog (w.iter s s.size) = _ := fun ty => run_next_end w s s.size ty hlt
          have F := Lib.hid (FIN.out D.out)
          clear FIN NO NX
          generalize Gp.numL (s.data.toList.take s.size) = NN at *
          go_wp2_with fail
          go_ret
          exact ⟨Or.inl ⟨NN, F.out, n0, n1, rfl⟩, Gp.below_iter w s _⟩
    · have i2 : ¬ (s.size : Int) ≤ (b : Int) := by omega
      have N := Lib.hid (show numR s.data.toList a b = none from by unfold numR; rw [if_neg (fun g => h2 (by omega))])
      go_enter Tryz.func131, Tryz.ntmps131
      go_wp2_with fail
      refine (need_no _).mono ?_
      rintro e w1 ⟨rfl, rfl⟩
      exact ⟨rfl, Or.inr ⟨N.out, rfl⟩, Below.refl _ _⟩
  · have i1 : ¬ (a : Int) ≤ (s.size : Int) := by omega
    have N := Lib.hid (show numR s.data.toList a b = none from by unfold numR; rw [if_neg (fun g => h1 (by omega))])
    go_enter Tryz.func131, Tryz.ntmps131
    go_wp2_with fail
    refine (need_no _).mono ?_
    rintro e w1 ⟨rfl, rfl⟩
    exact ⟨rfl, Or.inr ⟨N.out, rfl⟩, Below.refl _ _⟩
end Vw
end Go.Proofs.YtaghilgfldaaiaaGreatDoor
/-
  The eight readers of psv: each reads a field into the box of an observation, or raises.
-/
namespace Go.Proofs.YtaghilgfldaaiaaGreatDoor
namespace Vw
open Go.RowKit Lw Go.Proofs.YtaghilgfldaaiaaGreatDoor.Ap Go.Proofs.YtaghilgfldaaiaaGreatDoor.Vp Go.Proofs.YtaghilgfldaaiaaGreatDoor.Op Go.Proofs.YtaghilgfldaaiaaGreatDoor.Ow

theorem Rw.put {w : World} {b : Nat} {o : Ob} (h : Rw w b (obsC o)) (i : Nat) (v : Value) (o' : Ob) (hi : i < 8) (e : (obsC o).set i v = obsC o') : Rw (w.setCell ⟨b, i, none⟩ v) b (obsC o') := by
  have := h.set i v hi
  rwa [e] at this
/-- What a reader leaves. -/
def RdrPost (k : Nat) (s : ByteArray) (b : Nat) (o : Ob) (w : World) (e : Ending) (w' : World) : Prop :=
  ((∃ o', readF k s o = some o' ∧ e = .returned (.tuple #[]) ∧ Rw w' b (obsC o')) ∨ (readF k s o = none ∧ e = .panicked malP)) ∧ Only b w w'
set_option maxHeartbeats 1000000 in
theorem rd0_any (s : ByteArray) (b : Nat) (o : Ob) (w : World) (hb : Rw w b (obsC o)) :
    Calls Tryz.prog 73 #[.pointer (some ⟨b, 0, none⟩), .string s] w (RdrPost 0 s b o w) := by
  have c := hb.cell (j := 0) (v := .string o.name) rfl
  have f := hb.free (j := 0) (by show 0 < 8; decide)
  have P := Lib.hid (hb.put 0 (.string s) { o with name := s } (by decide) rfl)
  clear hb
  go_enter Tryz.func73, Tryz.ntmps73
  go_wp2_with fail
  go_end0
  exact ⟨Or.inl ⟨_, rfl, rfl, P.out⟩, Only.set b 0 _ w⟩
set_option maxHeartbeats 1000000 in
theorem rd1_any (s : ByteArray) (b : Nat) (o : Ob) (w : World) (hb : Rw w b (obsC o)) :
    Calls Tryz.prog 74 #[.pointer (some ⟨b, 0, none⟩), .string s] w (RdrPost 1 s b o w) := by
  have c := hb.cell (j := 1) (v := .string o.site) rfl
  have f := hb.free (j := 1) (by show 1 < 8; decide)
  have P := Lib.hid (hb.put 1 (.string s) { o with site := s } (by decide) rfl)
  clear hb
  go_enter Tryz.func74, Tryz.ntmps74
  go_wp2_with fail
  go_end0
  exact ⟨Or.inl ⟨_, rfl, rfl, P.out⟩, Only.set b 1 _ w⟩
theorem degV_bd {s : ByteArray} {v e : Int} (h : DegS s v e) : -4000000000000000000 ≤ v ∧ v ≤ 4000000000000000000 := by
  rcases h with ⟨h1, h2, h3, _⟩ | ⟨_, h2, _⟩
  · obtain ⟨g1, _, g3, g4, _⟩ := h1
    have fb := Gp.degF_bd (Gp.bodyOf s) (Gp.ptOf (Gp.bodyOf s)) g4
    obtain ⟨d0, f0, d1, _, _⟩ := h2
    have q := Gp.frac_bd (Gp.degF (Gp.bodyOf s) (Gp.ptOf (Gp.bodyOf s))) ((Gp.bodyOf s).size - (Gp.ptOf (Gp.bodyOf s) + 1)) f0 fb.2 (by omega)
    rw [h3]
    generalize Gp.fracI (Gp.degF (Gp.bodyOf s) (Gp.ptOf (Gp.bodyOf s))) ((Gp.bodyOf s).size - (Gp.ptOf (Gp.bodyOf s) + 1)) = y at *
    generalize Gp.degD (Gp.bodyOf s) (Gp.ptOf (Gp.bodyOf s)) = D at *
    cases Gp.negB s
    · show _ ≤ D * 3600000000 + y ∧ D * 3600000000 + y ≤ _
      omega
    · show _ ≤ -(D * 3600000000 + y) ∧ -(D * 3600000000 + y) ≤ _
      omega
  · omega
set_option maxHeartbeats 2000000 in
theorem rd2_any (s : ByteArray) (b : Nat) (o : Ob) (w : World) (hb : Rw w b (obsC o)) (hs : s.size ≤ 100) :
    Calls Tryz.prog 75 #[.pointer (some ⟨b, 0, none⟩), .string s] w (RdrPost 2 s b o w) := by
  have HB := Lib.hid hb
  have PA := Lib.hid (Ap.parse_any s w hs)
  clear hb
  go_enter Tryz.func75, Tryz.ntmps75
  go_wp2_with fail
  refine PA.out.mono ?_
  rintro e w1 ⟨t, k, rfl, hp, hb1⟩
  have R1 := Lib.hid (HB.out.call hb1)
  have O1 := Lib.hid (show Only b w w1 from Only.of (Nat.le_of_lt HB.out.lt) hb1)
  clear PA HB hb1
  rcases timeR_is hp with ⟨rfl, h⟩ | ⟨rfl, rfl, h⟩
  · have F := Lib.hid (show readF 2 s o = some { o with t := t } by show (timeR s).map _ = _; rw [h]; rfl)
    have c := R1.out.cell (j := 2) (v := .int .i64 o.t) rfl
    have f := R1.out.free (j := 2) (by show 2 < 8; decide)
    have P := Lib.hid (R1.out.put 2 (.int .i64 t) { o with t := t } (by decide) rfl)
    clear hp h R1
    go_wp2_with fail
    refine (need_yes _).mono ?_
    rintro e w2 ⟨rfl, rfl⟩
    go_wp2_with fail
    go_end0
    exact ⟨Or.inl ⟨_, F.out, rfl, P.out⟩, O1.out.trans (Only.set b 2 _ w1)⟩
  · have F := Lib.hid (show readF 2 s o = none by show (timeR s).map _ = _; rw [h]; rfl)
    clear hp h R1
    go_wp2_with fail
    refine (need_no _).mono ?_
    rintro e w2 ⟨rfl, rfl⟩
    exact ⟨rfl, Or.inr ⟨F.out, rfl⟩, O1.out⟩
/-- Where the variable lies that Cut and Index read. -/
def MX (w : World) : Prop := 1 < w.heap.size ∧ ∃ m : Int, w.cell? ⟨1, 0, none⟩ = some (.int .i64 m)
theorem MX.below {w w' : World} (h : MX w) (hb : Below w.heap.size w w') : MX w' := by
  obtain ⟨lt, m, hm⟩ := h
  exact ⟨Nat.lt_of_lt_of_le lt hb.size, m, (hb.cell (p := ⟨1, 0, none⟩) lt).trans hm⟩
set_option maxHeartbeats 2000000 in
theorem rd3_any (s : ByteArray) (b : Nat) (o : Ob) (w : World) (hb : Rw w b (obsC o)) (hM : MX w) (hs : s.size ≤ 100) :
    Calls Tryz.prog 76 #[.pointer (some ⟨b, 0, none⟩), .string s] w (RdrPost 3 s b o w) := by
  have HB := Lib.hid hb
  obtain ⟨_, m, hm⟩ := hM
  have PA := Lib.hid (Gp.deg_any s w m hm hs)
  clear hb hm
  go_enter Tryz.func76, Tryz.ntmps76
  go_wp2_with fail
  refine PA.out.mono ?_
  rintro e w1 ⟨v, k, rfl, hp, hb1⟩
  have R1 := Lib.hid (HB.out.call hb1)
  have O1 := Lib.hid (show Only b w w1 from Only.of (Nat.le_of_lt HB.out.lt) hb1)
  have bd := degV_bd hp
  clear PA HB hb1
  rcases degR_is hp with ⟨rfl, h⟩ | ⟨rfl, rfl, h⟩
  · by_cases v0 : 0 ≤ v
    · obtain ⟨vv, hvv⟩ : ∃ vv, v % 1296000000000 = vv := ⟨_, rfl⟩
      have F := Lib.hid (show readF 3 s o = some { o with ra := vv } by show (degR s).bind _ = _; rw [h, ← hvv]; exact if_pos v0)
      have c := R1.out.cell (j := 3) (v := .int .i64 o.ra) rfl
      have f := R1.out.free (j := 3) (by show 3 < 8; decide)
      have P := Lib.hid (R1.out.put 3 (.int .i64 vv) { o with ra := vv } (by decide) rfl)
      have NM := Lib.hid (fun w => Turns.norm_any v w (by omega) (by omega))
      rw [hvv] at NM
      clear hp h R1 hvv
      go_wp2_with fail
      refine (need_yes _).mono ?_
      rintro e w2 ⟨rfl, rfl⟩
      go_wp2_with fail
      refine (NM.out _).mono ?_
      rintro e w2 ⟨rfl, rfl⟩
      clear NM
      go_wp2_with fail
      go_end0
      exact ⟨Or.inl ⟨_, F.out, rfl, P.out⟩, O1.out.trans (Only.set b 3 _ w1)⟩
    · have F := Lib.hid (show readF 3 s o = none by show (degR s).bind _ = _; rw [h]; exact if_neg v0)
      have v1 : v < 0 := by omega
      have g0 : decide (0 ≤ v) = false := decide_eq_false v0
      clear hp h R1
      go_wp2_with fail
      refine (need_no _).mono ?_
      rintro e w2 ⟨rfl, rfl⟩
      exact ⟨rfl, Or.inr ⟨F.out, rfl⟩, O1.out⟩
  · have F := Lib.hid (show readF 3 s o = none by show (degR s).bind _ = _; rw [h]; rfl)
    clear hp h R1
    go_wp2_with fail
    refine (need_no _).mono ?_
    rintro e w2 ⟨rfl, rfl⟩
    exact ⟨rfl, Or.inr ⟨F.out, rfl⟩, O1.out⟩
set_option maxHeartbeats 2000000 in
theorem rd4_any (s : ByteArray) (b : Nat) (o : Ob) (w : World) (hb : Rw w b (obsC o)) (hM : MX w) (hs : s.size ≤ 100) :
    Calls Tryz.prog 77 #[.pointer (some ⟨b, 0, none⟩), .string s] w (RdrPost 4 s b o w) := by
  have HB := Lib.hid hb
  obtain ⟨_, m, hm⟩ := hM
  have PA := Lib.hid (Gp.deg_any s w m hm hs)
  clear hb hm
  go_enter Tryz.func77, Tryz.ntmps77
  go_wp2_with fail
  refine PA.out.mono ?_
  rintro e w1 ⟨v, k, rfl, hp, hb1⟩
  have R1 := Lib.hid (HB.out.call hb1)
  have O1 := Lib.hid (show Only b w w1 from Only.of (Nat.le_of_lt HB.out.lt) hb1)
  clear PA HB hb1
  rcases degR_is hp with ⟨rfl, h⟩ | ⟨rfl, rfl, h⟩
  · have F := Lib.hid (show readF 4 s o = some { o with dec := v } by show (degR s).map _ = _; rw [h]; rfl)
    have c := R1.out.cell (j := 4) (v := .int .i64 o.dec) rfl
    have f := R1.out.free (j := 4) (by show 4 < 8; decide)
    have P := Lib.hid (R1.out.put 4 (.int .i64 v) { o with dec := v } (by decide) rfl)
    clear hp h R1
    go_wp2_with fail
    refine (need_yes _).mono ?_
    rintro e w2 ⟨rfl, rfl⟩
    go_wp2_with fail
    go_end0
    exact ⟨Or.inl ⟨_, F.out, rfl, P.out⟩, O1.out.trans (Only.set b 4 _ w1)⟩
  · have F := Lib.hid (show readF 4 s o = none by show (degR s).map _ = _; rw [h]; rfl)
    clear hp h R1
    go_wp2_with fail
    refine (need_no _).mono ?_
    rintro e w2 ⟨rfl, rfl⟩
    exact ⟨rfl, Or.inr ⟨F.out, rfl⟩, O1.out⟩
theorem sz_yes {t : ByteArray} (h : t.size = 0) : t.toList.isEmpty = true := by
  rw [Lib.toList_data, List.isEmpty_iff_length_eq_zero]; simpa using h
theorem sz_no {t : ByteArray} (h : t.size ≠ 0) : t.toList.isEmpty = false := by
  rw [Lib.toList_data, Bool.eq_false_iff, ne_eq, List.isEmpty_iff_length_eq_zero]; simpa using h
theorem head_of {s : ByteArray} (h : 0 < s.size) : s.data.toList.head? = some (s[0]'h) := by
  have hl : 0 < s.data.toList.length := h
  rw [List.head?_eq_getElem?, List.getElem?_eq_getElem hl]
  rfl
set_option maxHeartbeats 2000000 in
theorem rd5_any (s : ByteArray) (b : Nat) (o : Ob) (w : World) (hb : Rw w b (obsC o)) (hs : s.size ≤ maxLen) :
    Calls Tryz.prog 78 #[.pointer (some ⟨b, 0, none⟩), .string s] w (RdrPost 5 s b o w) := by
  have HB := Lib.hid hb
  clear hb
  by_cases z : s.size = 0
  · have em := sz_yes z
    have F := Lib.hid (show readF 5 s o = some o by show (if s.size = 0 then _ else _) = _; rw [if_pos z])
    go_enter Tryz.func78, Tryz.ntmps78
    go_wp2_with fail
    go_end0
    exact ⟨Or.inl ⟨_, F.out, rfl, HB.out⟩, Only.refl b w⟩
  · have em := sz_no z
    have p0 : 0 < s.size := by omega
    have i0 : (0 : Int) < (s.size : Int) := by omega
    have hd := head_of p0
    have FF : readF 5 s o = (sigR s.data.toList).map fun n => { o with sg := n } := by show (if s.size = 0 then _ else _) = _; rw [if_neg z]
    have NR := Lib.hid (fun w => numr_any s 1 11 w hs (by omega))
    by_cases h48 : (s[0]'p0) = 48
    · have c10 : (((s[0]'p0).toNat : Int) != 48) = false := by rw [h48]; rfl
      have F := Lib.hid (show readF 5 s o = none by rw [FF]; unfold sigR; rw [hd, h48, if_pos rfl]; rfl)
      clear FF hd h48 NR
      go_enter Tryz.func78, Tryz.ntmps78
      go_wp2_with fail
      refine (need_no _).mono ?_
      rintro e w2 ⟨rfl, rfl⟩
      exact ⟨rfl, Or.inr ⟨F.out, rfl⟩, Only.refl b w⟩
    · have c10 : (((s[0]'p0).toNat : Int) != 48) = true := by
        rw [bne, beq_eq_false_iff_ne.2]
        · rfl
        · intro e
          have e2 : (s[0]'p0).toNat = (48 : UInt8).toNat := by have e3 : (48 : UInt8).toNat = 48 := rfl; rw [e3]; exact Int.ofNat.inj e
          exact h48 (UInt8.toNat.inj e2)
      have F := Lib.hid (show readF 5 s o = (numR s.data.toList 1 11).map fun n => { o with sg := n } by rw [FF]; unfold sigR; rw [hd, if_neg (fun e => h48 (Option.some.inj e))])
      clear FF hd h48
      go_enter Tryz.func78, Tryz.ntmps78
      go_wp2_with fail
      refine (need_yes _).mono ?_
      rintro e w2 ⟨rfl, rfl⟩
      go_wp2_with fail
      refine (NR.out _).mono ?_
      rintro e w1 ⟨h, hb1⟩
      have R1 := Lib.hid (HB.out.call hb1)
      have O1 := Lib.hid (show Only b w w1 from Only.of (Nat.le_of_lt HB.out.lt) hb1)
      clear NR HB hb1
      rcases h with ⟨n, h, n0, n1, rfl⟩ | ⟨h, rfl⟩
      · have F2 := Lib.hid (show readF 5 s o = some { o with sg := n } by rw [F.out, h]; rfl)
        have c := R1.out.cell (j := 5) (v := .int .i64 o.sg) rfl
        have f := R1.out.free (j := 5) (by show 5 < 8; decide)
        have P := Lib.hid (R1.out.put 5 (.int .i64 n) { o with sg := n } (by decide) rfl)
        clear h R1 F
        go_wp2_with fail
        go_end0
        exact ⟨Or.inl ⟨_, F2.out, rfl, P.out⟩, O1.out.trans (Only.set b 5 _ w1)⟩
      · have F2 := Lib.hid (show readF 5 s o = none by rw [F.out, h]; rfl)
        exact ⟨rfl, Or.inr ⟨F2.out, rfl⟩, O1.out⟩
theorem bt_0 {s : ByteArray} (h : 0 < s.size) : bt s 0 = ((s[0]'h).toNat : Int) := bt_of s 0 h
set_option maxHeartbeats 2000000 in
theorem rd7_any (s : ByteArray) (b : Nat) (o : Ob) (w : World) (hb : Rw w b (obsC o)) (hs : s.size ≤ maxLen) :
    Calls Tryz.prog 80 #[.pointer (some ⟨b, 0, none⟩), .string s] w (RdrPost 7 s b o w) := by
  have HB := Lib.hid hb
  clear hb
  by_cases z : s.size = 0
  · have em := sz_yes z
    have F := Lib.hid (show readF 7 s o = some o by show (if s.size = 0 then _ else _) = _; rw [if_pos z])
    go_enter Tryz.func80, Tryz.ntmps80
    go_wp2_with fail
    go_end0
    exact ⟨Or.inl ⟨_, F.out, rfl, HB.out⟩, Only.refl b w⟩
  · have em := sz_no z
    have p0 : 0 < s.size := by omega
    have i0 : (0 : Int) < (s.size : Int) := by omega
    have FF : readF 7 s o = if s.size = 1 then some { o with band := bt s 0 } else none := by show (if s.size = 0 then _ else _) = _; rw [if_neg z]
    by_cases z1 : s.size = 1
    · have c1 : ((s.size : Int) == 1) = true := by rw [z1]; rfl
      have e0 := bt_0 p0
      have F := Lib.hid (show readF 7 s o = some { o with band := bt s 0 } by rw [FF, if_pos z1])
      rw [e0] at F
      have c := HB.out.cell (j := 7) (v := .int .u8 o.band) rfl
      have f := HB.out.free (j := 7) (by show 7 < 8; decide)
      have P := Lib.hid (HB.out.put 7 (.int .u8 ((s[0]'p0).toNat : Int)) { o with band := ((s[0]'p0).toNat : Int) } (by decide) rfl)
      clear FF e0 z1 HB
      go_enter Tryz.func80, Tryz.ntmps80
      go_wp2_with fail
      refine (need_yes _).mono ?_
      rintro e w2 ⟨rfl, rfl⟩
      go_wp2_with fail
      go_end0
      exact ⟨Or.inl ⟨_, F.out, rfl, P.out⟩, Only.set b 7 _ w⟩
    · have c1 : ((s.size : Int) == 1) = false := beq_eq_false_iff_ne.2 (by omega)
      have F := Lib.hid (show readF 7 s o = none by rw [FF, if_neg z1])
      clear FF
      go_enter Tryz.func80, Tryz.ntmps80
      go_wp2_with fail
      refine (need_no _).mono ?_
      rintro e w2 ⟨rfl, rfl⟩
      exact ⟨rfl, Or.inr ⟨F.out, rfl⟩, Only.refl b w⟩
end Vw
end Go.Proofs.YtaghilgfldaaiaaGreatDoor
