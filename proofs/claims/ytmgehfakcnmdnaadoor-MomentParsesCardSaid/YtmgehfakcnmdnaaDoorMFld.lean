/-
  Reading numbers between separators: fields of package moment and its function literal.
-/
import Derived.Test.YtmgehfakcnmdnaaDoorMGrp
import Derived.OneCell
import Derived.OwnWalk
import Derived.Deep.AppendLies
import Derived.StillTailTactics
namespace Go.Proofs.YtmgehfakcnmdnaaDoor
namespace Ap
open Go.RowKit Lw

/-- What the literal captures: the two strings, the numbers, and whether the byte before was one of a number. -/
structure FS (s p : ByteArray) (w0 : World) (B : Nat) (L : List Int) (b : Bool) (wr : World) : Prop where
  cs : wr.heap[B]? = some (.cells #[.string s] 9 (0, 0))
  cp : wr.heap[B + 1]? = some (.cells #[.string p] 9 (0, 0))
  co : ∃ v, wr.heap[B + 2]? = some (.cells #[v] 32 (0, 0)) ∧ wr.ownsRow (B + 4) 3 1 v L.length (L.map (Value.int .i64))
  ci : wr.heap[B + 3]? = some (.cells #[.bool b] 4 (0, 0))
  below : Below B w0 wr
theorem owns_set {w : World} {base : Nat} {e : TypeId} {g n cap : Nat} {xs : List Value} {u : Value} (h : w.ownsRow base e 1 (.slice (some ⟨g, 0, none⟩) n cap) n (xs ++ [u])) (u' : Value) :
    (w.setCell ⟨g, xs.length, none⟩ u').ownsRow base e 1 (.slice (some ⟨g, 0, none⟩) n cap) n (xs ++ [u']) := by
  obtain ⟨h1, h2⟩ := h
  refine ⟨by simpa using h1, ?_⟩
  rcases h2 with ⟨h2, _⟩ | ⟨g', cap', cur, hv, hg, hh, hc1, hc2, hsz, ht⟩
  · cases h2
  · cases hv
    refine Or.inr ⟨g, cap, cur.set! xs.length u', rfl, hg, ?_, hc1, hc2, by simpa using hsz, ?_⟩
    · have hlt := lt_of_block hh
      have h' : w.heap[g] = .cells cur e (0, 0) := by simpa [Array.getElem?_eq_getElem hlt] using hh
      show (w.heap.modify g _)[g]? = _
      rw [Array.getElem?_eq_getElem (by simpa using hlt), Array.getElem_modify_self, h']
      rfl
    · have hn : n = xs.length + 1 := by simpa using h1.symm
      subst hn
      simp only [Nat.mul_one] at ht ⊢
      rw [Array.set!_eq_setIfInBounds, Array.toList_setIfInBounds]
      have hl : xs.length < cur.toList.length := by simp at hsz ⊢; omega
      rw [List.take_set, ht]
      simp
theorem FS.flag {s p : ByteArray} {w0 : World} {B : Nat} {L : List Int} {b : Bool} {wr : World} (h : FS s p w0 B L b wr) (b' : Bool) : FS s p w0 B L b' (wr.setCell ⟨B + 3, 0, none⟩ (.bool b')) := by
  obtain ⟨h1, h2, ⟨v, h3, h4⟩, h5, h6⟩ := h
  exact ⟨by rw [Below.heap_setCell _ _ _ _ (by simp <;> omega)]; exact h1, by rw [Below.heap_setCell _ _ _ _ (by simp <;> omega)]; exact h2,
    ⟨v, by rw [Below.heap_setCell _ _ _ _ (by simp)]; exact h3, ownsRow_setCell_below h4 (by simp) _⟩, one_setCell h5, h6.setCell (by simp <;> omega) _⟩
theorem FS.drewN {s p : ByteArray} {w0 : World} {B : Nat} {L : List Int} {b : Bool} {wr : World} (h : FS s p w0 B L b wr) (n : Nat) : FS s p w0 B L b (wr.drewN n) := by
  obtain ⟨h1, h2, ⟨v, h3, h4⟩, h5, h6⟩ := h
  exact ⟨h1, h2, ⟨v, h3, h4⟩, h5, ⟨h6.os, h6.tape, h6.output, h6.size, h6.block⟩⟩
theorem FS.drew {s p : ByteArray} {w0 : World} {B : Nat} {L : List Int} {b : Bool} {wr : World} (h : FS s p w0 B L b wr) : FS s p w0 B L b wr.drew := by
  obtain ⟨h1, h2, ⟨v, h3, h4⟩, h5, h6⟩ := h
  exact ⟨h1, h2, ⟨v, h3, h4⟩, h5, h6.drew⟩
theorem FS.app {s p : ByteArray} {w0 : World} {B : Nat} {L : List Int} {b : Bool} {wr w1 : World} {v v' : Value} {o : Obj} {z : Int} (h : FS s p w0 B L b wr) (hv : wr.heap[B + 2]? = some (.cells #[v] 32 (0, 0))) (hown : wr.ownsRow (B + 4) 3 1 v L.length (L.map (Value.int .i64)))
    (h1 : w1.ownsRow (B + 4) 3 1 v' (L.length + 1) (L.map (Value.int .i64) ++ [.int .i64 z])) (hg : (wr.alloc o).grownBy w1 v.ownBlock) : FS s p w0 B (L ++ [z]) b (w1.setCell ⟨B + 2, 0, none⟩ v') := by
  obtain ⟨a1, a2, _, a5, a6⟩ := h
  have lt3 := lt_of_block a5
  have hne : ∀ k, k < B + 4 → some k ≠ v.ownBlock := fun k hk e => by have := (hown.lt k e.symm).1; omega
  have hk : ∀ k, k < B + 4 → w1.heap[k]? = wr.heap[k]? := fun k hk => by
    rw [hg.block k (by simp <;> omega) (hne k hk)]
    exact heap_alloc_old wr o (by omega)
  refine ⟨by rw [Below.heap_setCell _ _ _ _ (by simp <;> omega), hk _ (by omega)]; exact a1, by rw [Below.heap_setCell _ _ _ _ (by simp), hk _ (by omega)]; exact a2,
    ⟨v', one_setCell (by rw [hk _ (by omega)]; exact hv), ?_⟩, by rw [Below.heap_setCell _ _ _ _ (by simp), hk _ (by omega)]; exact a5, ?_⟩
  · have := ownsRow_setCell_below h1 (a := ⟨B + 2, 0, none⟩) (by simp) v'
    simpa using this
  · exact ((a6.alloc (by omega) o).grown hg (by simp <;> omega) (fun k e => by have := (hown.lt k e).1; omega)).setCell (by simp <;> omega) _
theorem FS.app_cells {s p : ByteArray} {w0 : World} {B : Nat} {L : List Int} {b : Bool} {wr w1 : World} {v v' : Value} {o : Obj} (h : FS s p w0 B L b wr) (hv : wr.heap[B + 2]? = some (.cells #[v] 32 (0, 0))) (hown : wr.ownsRow (B + 4) 3 1 v L.length (L.map (Value.int .i64)))
    (hg : (wr.alloc o).grownBy w1 v.ownBlock) : w1.cell? ⟨B + 2, 0, none⟩ = some v ∧ w1.frozen? ⟨B + 2, 0, none⟩ = false ∧ (w1.setCell ⟨B + 2, 0, none⟩ v').cell? ⟨B + 3, 0, none⟩ = some (.bool b) ∧ (w1.setCell ⟨B + 2, 0, none⟩ v').frozen? ⟨B + 3, 0, none⟩ = false ∧
      ((w1.setCell ⟨B + 2, 0, none⟩ v').setCell ⟨B + 3, 0, none⟩ (.bool true)).heap[B + 2]? = some (.cells #[v'] 32 (0, 0)) := by
  obtain ⟨a1, a2, _, a5, a6⟩ := h
  have lt3 := lt_of_block a5
  have hne : ∀ k, k < B + 4 → some k ≠ v.ownBlock := fun k hk e => by have := (hown.lt k e.symm).1; omega
  have hk : ∀ k, k < B + 4 → w1.heap[k]? = wr.heap[k]? := fun k hk => by
    rw [hg.block k (by simp; omega) (hne k hk)]
    exact heap_alloc_old wr o (by omega)
  have h2 : w1.heap[B + 2]? = some (.cells #[v] 32 (0, 0)) := by rw [hk _ (by omega)]; exact hv
  have h3 : (w1.setCell ⟨B + 2, 0, none⟩ v').heap[B + 3]? = some (.cells #[.bool b] 4 (0, 0)) := by
    rw [Below.heap_setCell _ _ _ _ (by simp), hk _ (by omega)]; exact a5
  exact ⟨cell_of_one h2, free_of_one h2, cell_of_one h3, free_of_one h3, by rw [Below.heap_setCell _ _ _ _ (by simp)]; exact one_setCell h2⟩
theorem FS.put {s p : ByteArray} {w0 : World} {B : Nat} {X : List Int} {u : Int} {b : Bool} {wr : World} {g n cap : Nat} (h : FS s p w0 B (X ++ [u]) b wr) (hv : wr.heap[B + 2]? = some (.cells #[.slice (some ⟨g, 0, none⟩) n cap] 32 (0, 0))) (u' : Int) :
    n = X.length + 1 ∧ wr.cell? ⟨g, X.length, none⟩ = some (.int .i64 u) ∧ wr.frozen? ⟨g, X.length, none⟩ = false ∧ B + 4 ≤ g ∧ FS s p w0 B (X ++ [u']) b (wr.setCell ⟨g, X.length, none⟩ (.int .i64 u')) := by
  obtain ⟨a1, a2, ⟨v, a3, a4⟩, a5, a6⟩ := h
  rw [hv] at a3
  have a3' : v = .slice (some ⟨g, 0, none⟩) n cap := by simpa using a3.symm
  subst a3'
  have hn : n = X.length + 1 := by
    rcases a4.2 with ⟨e, _⟩ | ⟨g', cap', cur, e, _⟩
    · cases e
    · cases e; simp
  have ml : (X ++ [u]).map (Value.int .i64) = X.map (Value.int .i64) ++ [.int .i64 u] := by simp
  have ll : (X ++ [u]).length = n := by simp; omega
  rw [ml, ll] at a4
  have ce := a4.cells (g := g) rfl X.length (.int .i64 u) (by simp)
  have ae : (⟨g, 0, none⟩ : Addr).add X.length = ⟨g, X.length, none⟩ := by
    unfold Addr.add
    split
    · simp [*]
    · simp
  rw [ae] at ce
  have hgb := (a4.lt g rfl).1
  have hfz : wr.frozen? ⟨g, X.length, none⟩ = false := by
    rcases a4.2 with ⟨e, _⟩ | ⟨g', cap', cur, e, _, hh, _, _, hs, _⟩
    · cases e
    · cases e
      simp [World.frozen?, hh]
  have st := owns_set a4 (.int .i64 u')
  rw [List.length_map] at st
  refine ⟨hn, ce, hfz, hgb, by rw [Below.heap_setCell _ _ _ _ (by simp; omega)]; exact a1, by rw [Below.heap_setCell _ _ _ _ (by simp; omega)]; exact a2,
    ⟨.slice (some ⟨g, 0, none⟩) n cap, by rw [Below.heap_setCell _ _ _ _ (by simp; omega)]; exact hv, ?_⟩, by rw [Below.heap_setCell _ _ _ _ (by simp; omega)]; exact a5, a6.setCell (by simp; omega) _⟩
  have e1 : (X ++ [u']).map (Value.int .i64) = X.map (Value.int .i64) ++ [.int .i64 u'] := by simp
  have e2 : (X ++ [u']).length = n := by simp; omega
  rw [e1, e2]
  exact st
set_option maxRecDepth 100000 in
set_option maxHeartbeats 1000000 in
theorem read_sep (s p : ByteArray) (w0 w : World) (B : Nat) (L : List Int) (b : Bool) (k : Nat) (hs : k < s.size) (hp : k < p.size) (hS : FS s p w0 B L b w) (hb : ¬ bt p k = 48) :
    Calls Tryd.prog 28 #[.int .i64 k, .pointer (some ⟨B, 0, none⟩), .pointer (some ⟨B + 1, 0, none⟩), .pointer (some ⟨B + 3, 0, none⟩), .pointer (some ⟨B + 2, 0, none⟩)] w fun e w' => e = .returned (.bool (decide (okAt s p k))) ∧ FS s p w0 B L false w' := by
  have c0 := cell_of_one hS.cs
  have c1 := cell_of_one hS.cp
  have c3 := cell_of_one hS.ci
  have g3 := free_of_one hS.ci
  have S1 := Lib.hid (hS.flag false)
  have O := Lib.hid (show okAt s p k ↔ (s[k].toNat : Int) = (p[k].toNat : Int) by unfold okAt; rw [bt_of s k hs, bt_of p k hp]; rw [bt_of p k hp] at hb; exact ⟨fun g => g.2 hb, fun g => ⟨fun h => absurd h hb, fun _ => g⟩⟩)
  rw [bt_of p k hp] at hb
  have i0 : (k : Int) < (s.size : Int) := by omega
  have i1 : (k : Int) < (p.size : Int) := by omega
  have bb := byte_bd s[k]
  clear hS
  have D := Lib.hid (show ∀ v : Bool, v = ((s[k].toNat : Int) == (p[k].toNat : Int)) → v = decide (okAt s p k) from fun v h => by rw [h, Bool.eq_iff_iff, beq_iff_eq, decide_eq_true_iff]; exact O.out.symm)
  go_enter Tryd.func28, Tryd.ntmps28
  go_wp2
  all_goals
    go_quiet (fail)
    go_wp2
    go_ret
    exact ⟨ret_b (D.out _ rfl), S1.out.drewN _⟩
theorem info_int : (Tryd.prog.info? 3).map (fun i => (i.zero, i.size, i.bytes)) = some (some (.int .i64 0), 1, 8) := by kernel_rfl
set_option maxRecDepth 100000 in
set_option maxHeartbeats 2000000 in
theorem read_on (s p : ByteArray) (w0 w : World) (B : Nat) (X : List Int) (v : Int) (k : Nat) (hs : k < s.size) (hp : k < p.size) (hS : FS s p w0 B (X ++ [v]) true w) (hb : bt p k = 48) (v0 : 0 ≤ v) (v1 : v < 1000000000) (hX : X.length ≤ 1000) :
    Calls Tryd.prog 28 #[.int .i64 k, .pointer (some ⟨B, 0, none⟩), .pointer (some ⟨B + 1, 0, none⟩), .pointer (some ⟨B + 3, 0, none⟩), .pointer (some ⟨B + 2, 0, none⟩)] w fun e w' => e = .returned (.bool (decide (okAt s p k))) ∧ FS s p w0 B (X ++ [10 * v + (bt s k - 48)]) true w' := by
  have c0 := cell_of_one hS.cs
  have c1 := cell_of_one hS.cp
  have c3 := cell_of_one hS.ci
  obtain ⟨vo, hv, hown⟩ := hS.co
  obtain ⟨g, cap, rfl, hg1, hg2⟩ := hown.form (by simp)
  have c2 := cell_of_one hv
  obtain ⟨hn, ce, hf, hgb, hput⟩ := hS.drew.put hv (10 * v + (s[k].toNat : Int) - 48)
  replace ce : w.cell? ⟨g, X.length, none⟩ = some (.int .i64 v) := ce
  replace hf : w.frozen? ⟨g, X.length, none⟩ = false := hf
  have O := Lib.hid (show okAt s p k ↔ 48 ≤ (s[k].toNat : Int) ∧ (s[k].toNat : Int) ≤ 57 by unfold okAt; rw [bt_of s k hs]; exact ⟨fun g => g.1 hb, fun g => ⟨fun _ => g, fun h => absurd hb h⟩⟩)
  rw [bt_of p k hp] at hb
  have ev : 10 * v + (bt s k - 48) = 10 * v + (s[k].toNat : Int) - 48 := by rw [bt_of s k hs]; omega
  rw [ev]
  rw [hn] at c2
  have Hput := Lib.hid hput
  have bb := byte_bd s[k]
  have i0 : (k : Int) < (s.size : Int) := by omega
  have i1 : (k : Int) < (p.size : Int) := by omega
  clear hS hv hown hn hput hg1 hgb ev
  have D := Lib.hid (show ∀ b : Bool, (b = true ↔ 48 ≤ (s[k].toNat : Int) ∧ (s[k].toNat : Int) ≤ 57) → b = decide (okAt s p k) from fun b h => by rw [Bool.eq_iff_iff, h, decide_eq_true_iff]; exact O.out.symm)
  have i2 : (X.length : Int) < (X.length : Int) + 1 := by omega
  have i3 : 0 ≤ (X.length : Int) := by omega
  by_cases d1 : 48 ≤ (s[k].toNat : Int)
  · have E := Lib.hid (D.out (decide ((s[k].toNat : Int) ≤ 57)) (by rw [decide_eq_true_iff]; exact ⟨fun h => ⟨d1, h⟩, fun h => h.2⟩))
    clear D O
    go_enter Tryd.func28, Tryd.ntmps28
    go_wp2
    go_still_tail 13, (by kernel_rfl)
    repeat still_step
    try refine wpStill_nil ?_
    change wpList _ _ _ _ _ w.drew
    go_wp2_with fail
    go_ret
    exact ⟨ret_b E.out, Hput.out⟩
  · have E := Lib.hid (D.out false (by simp; omega))
    clear D O
    go_enter Tryd.func28, Tryd.ntmps28
    go_wp2
    go_still_tail 13, (by kernel_rfl)
    repeat still_step
    try refine wpStill_nil ?_
    change wpList _ _ _ _ _ w.drew
    go_wp2_with fail
    go_ret
    exact ⟨ret_b E.out, Hput.out⟩
set_option maxRecDepth 100000 in
set_option maxHeartbeats 2000000 in
theorem read_new (s p : ByteArray) (w0 w : World) (B : Nat) (L : List Int) (k : Nat) (hs : k < s.size) (hp : k < p.size) (hS : FS s p w0 B L false w) (hb : bt p k = 48) (hX : L.length ≤ 1000) :
    Calls Tryd.prog 28 #[.int .i64 k, .pointer (some ⟨B, 0, none⟩), .pointer (some ⟨B + 1, 0, none⟩), .pointer (some ⟨B + 3, 0, none⟩), .pointer (some ⟨B + 2, 0, none⟩)] w fun e w' => e = .returned (.bool (decide (okAt s p k))) ∧ FS s p w0 B (L ++ [bt s k - 48]) true w' := by
  obtain ⟨i0', hi, hz0, hz1, hz2⟩ := info_parts info_int
  have c0 := cell_of_one hS.cs
  have c1 := cell_of_one hS.cp
  have c3 := cell_of_one hS.ci
  obtain ⟨v, hv, hown⟩ := hS.co
  have c2 := cell_of_one hv
  have O := Lib.hid (show okAt s p k ↔ 48 ≤ (s[k].toNat : Int) ∧ (s[k].toNat : Int) ≤ 57 by unfold okAt; rw [bt_of s k hs]; exact ⟨fun g => g.1 hb, fun g => ⟨fun _ => g, fun h => absurd hb h⟩⟩)
  have ev : bt s k - 48 = (s[k].toNat : Int) - 48 := by rw [bt_of s k hs]
  rw [ev]
  rw [bt_of p k hp] at hb
  have bb := byte_bd s[k]
  have i0 : (k : Int) < (s.size : Int) := by omega
  have i1 : (k : Int) < (p.size : Int) := by omega
  have D := Lib.hid (show ∀ b : Bool, (b = true ↔ 48 ≤ (s[k].toNat : Int) ∧ (s[k].toNat : Int) ≤ 57) → b = decide (okAt s p k) from fun b h => by rw [Bool.eq_iff_iff, h, decide_eq_true_iff]; exact O.out.symm)
  have i2 : (L.length : Int) < (L.length : Int) + 1 := by omega
  have i3 : 0 ≤ (L.length : Int) := by omega
  have HS := Lib.hid hS
  have HV := Lib.hid hv
  have HO := Lib.hid hown
  have hsz := lt_of_block hS.ci
  clear hS hv hown ev
  by_cases d1 : 48 ≤ (s[k].toNat : Int)
  all_goals
    have E : Hid (∃ r : Bool, r = (decide (48 ≤ (s[k].toNat : Int)) && decide ((s[k].toNat : Int) ≤ 57)) ∧ r = decide (okAt s p k)) := Lib.hid ⟨_, rfl, D.out _ (by simp)⟩
    clear D O
    go_enter Tryd.func28, Tryd.ntmps28
    go_wp2_with (at_builtin; refine wpList_append_own _ rfl (.tmp 32) (.tmp 33) 32 rfl (B + 4) 3 i0' (.int .i64 0) 1 8 Tryd.underlying32 hi hz0 hz1 hz2 rfl (by decide) _ _ _ rfl (HO.out.alloc _) ⟨w.heap.size, 0, none⟩ 1 1 [.int .i64 0] rfl rfl (by intro j u hj; match j, hj with | 0, hj => (simp at hj; subst hj; simp [Addr.add])) (by intro u hu; simp at hu; subst hu; rfl) (by unfold maxLen; omega) (by omega) (by simp; omega) ?_)
    intro v' w1 hown' hgrow _
    obtain ⟨g, cap, rfl, hg1, hg2⟩ := hown'.form (by omega)
    obtain ⟨e1, e2, e3, e4, e5⟩ := HS.out.app_cells (v' := .slice (some ⟨g, 0, none⟩) (L.length + 1) cap) HV.out HO.out hgrow
    have S2 := (HS.out.app HV.out HO.out hown' hgrow).flag true
    have e6 := cell_of_one e5
    have e7 := cell_of_one S2.cs
    have z0 : IntKind.i64.wrap 0 = 0 := rfl
    obtain ⟨hn, ce, hf, hgb, hput⟩ := S2.drew.put e5 ((s[k].toNat : Int) - 48)
    have ce : (((w1.setCell ⟨B + 2, 0, none⟩ (.slice (some ⟨g, 0, none⟩) (L.length + 1) cap)).setCell ⟨B + 3, 0, none⟩ (.bool true))).cell? ⟨g, L.length, none⟩ = some (.int .i64 0) := ce
    have hf : (((w1.setCell ⟨B + 2, 0, none⟩ (.slice (some ⟨g, 0, none⟩) (L.length + 1) cap)).setCell ⟨B + 3, 0, none⟩ (.bool true))).frozen? ⟨g, L.length, none⟩ = false := hf
    have Hput := Lib.hid hput
    clear hown' hgrow hg1 hg2 S2 hput hn hgb e5
    go_wp2
    generalize ((w1.setCell ⟨B + 2, 0, none⟩ (.slice (some ⟨g, 0, none⟩) (L.length + 1) cap)).setCell ⟨B + 3, 0, none⟩ (.bool true)) = W at *
    go_still_tail 13, (by kernel_rfl)
    repeat still_step
    try refine wpStill_nil ?_
    change wpList _ _ _ _ _ W.drew
    go_wp2_with fail
    go_ret
    obtain ⟨r, hr1, hr2⟩ := E.out
    exact ⟨ret_b (by rw [← hr2, hr1]; simp [d1]; try omega), Hput.out⟩
end Ap
end Go.Proofs.YtmgehfakcnmdnaaDoor
