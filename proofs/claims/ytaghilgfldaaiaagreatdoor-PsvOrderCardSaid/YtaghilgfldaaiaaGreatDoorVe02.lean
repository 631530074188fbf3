/-
  Lemmas and walks, texts joined: OInsPl, ORSort, VOrd.
-/
import Derived.Deep.RegionHeld3
import Derived.RegionTactic
import Derived.BigRegion
import Derived.StillTailTactics
import Derived.Test.YtaghilgfldaaiaaGreatDoorVe01
import Derived.Test.YtaghilgfldaaiaaGreatDoorVb01
import Derived.Test.YtaghilgfldaaiaaGreatDoorVb02
import Derived.Test.YtaghilgfldaaiaaGreatDoorVb03
import Derived.Test.YtaghilgfldaaiaaGreatDoorVb04
import Derived.Test.YtaghilgfldaaiaaGreatDoorVb05
import Derived.Test.YtaghilgfldaaiaaGreatDoorVb06
import Derived.Test.YtaghilgfldaaiaaGreatDoorVb07
import Derived.Test.YtaghilgfldaaiaaGreatDoorVb08
import Derived.Test.YtaghilgfldaaiaaGreatDoorVb09
set_option linter.unusedSimpArgs false
set_option linter.unusedVariables false
/-
  Plain law of observations: inserting one into a sorted list; the row of memory behind an exchange.
-/
namespace Go.Proofs.YtaghilgfldaaiaaGreatDoor
namespace Ow
open Go.RowKit Lw Go.Proofs.YtaghilgfldaaiaaGreatDoor.Ap Go.Proofs.YtaghilgfldaaiaaGreatDoor.Op Go.Proofs.YtaghilgfldaaiaaGreatDoor.Mp Go.Proofs.YtaghilgfldaaiaaGreatDoor.Mw Go.Proofs.YtaghilgfldaaiaaGreatDoor.At

def swapO (y : List Ob) (m j : Nat) (hm : m < y.length) (hj : j < y.length) : List Ob := (y.set m y[j]).set j y[m]
theorem swapO_len (y : List Ob) (m j : Nat) (hm : m < y.length) (hj : j < y.length) : (swapO y m j hm hj).length = y.length := by simp [swapO]
theorem swapO_get (y : List Ob) (m j : Nat) (hm : m < y.length) (hj : j < y.length) (i : Nat) (hi : i < y.length) : (swapO y m j hm hj)[i]'(by rw [swapO_len]; exact hi) = if i = j then y[m] else if i = m then y[j] else y[i] := by
  unfold swapO
  rw [List.getElem_set]
  by_cases h : j = i
  · rw [if_pos h, if_pos h.symm]
  · rw [if_neg h, if_neg (fun e => h e.symm), List.getElem_set]
    by_cases g : m = i
    · rw [if_pos g, if_pos g.symm]
    · rw [if_neg g, if_neg (fun e => g e.symm)]
theorem setCells_block {e : TypeId} {fr : Nat × Nat} {g : Nat} : ∀ (vs : List Value) (o : Nat) (w : World) (cur : Array Value), w.heap[g]? = some (.cells cur e fr) → ∃ cur', (w.setCells g o vs).heap[g]? = some (.cells cur' e fr) ∧ cur'.size = cur.size ∧ ∀ t, t < cur.size → cur'[t]? = if o ≤ t ∧ t < o + vs.length then vs[t - o]? else cur[t]?
  | [], o, w, cur, h => ⟨cur, h, rfl, fun t _ => by rw [if_neg (by simp)]⟩
  | v :: r, o, w, cur, h => by
    have h1 : (w.setCell ⟨g, o, none⟩ v).heap[g]? = some (.cells (cur.setIfInBounds o v) e fr) := by
      simp [World.setCell, Array.getElem?_modify, h]
    obtain ⟨cur', g1, g2, g3⟩ := setCells_block r (o + 1) _ _ h1
    refine ⟨cur', g1, by rw [g2]; simp, fun t ht => ?_⟩
    rw [g3 t (by simpa using ht)]
    simp only [List.length_cons]
    by_cases c1 : t = o
    · subst c1
      rw [if_neg (by omega), if_pos (by omega), Nat.sub_self]
      simp [ht]
    · by_cases c2 : o + 1 ≤ t ∧ t < o + 1 + r.length
      · rw [if_pos c2, if_pos (by omega)]
        rw [show t - o = (t - (o + 1)) + 1 by omega]
        rfl
      · rw [if_neg c2, if_neg (by omega)]
        rw [Array.getElem?_setIfInBounds_ne (by omega)]
theorem flatO_set {y : List Ob} {i : Nat} (hi : i < y.length) (q : Ob) (t : Nat) (ht : t < y.length * 8) : (flatO (y.set i q))[t]? = if i * 8 ≤ t ∧ t < i * 8 + 8 then (obsC q)[t - i * 8]? else (flatO y)[t]? := by
  have hk : t / 8 < y.length := by omega
  have hj : t % 8 < 8 := Nat.mod_lt _ (by omega)
  have et : t / 8 * 8 + t % 8 = t := by omega
  have cell : ∀ (l : List Ob) (hl : t / 8 < l.length), (flatO l)[t]? = (obsC l[t / 8])[t % 8]? := fun l hl => by
    have hj2 : t % 8 < (obsC l[t / 8]).length := hj
    rw [List.getElem?_eq_getElem hj2]
    have := flatO_get hl (List.getElem?_eq_getElem hj2)
    rwa [et] at this
  rw [cell _ (by simpa using hk), cell y hk, List.getElem_set]
  by_cases h : i = t / 8
  · rw [if_pos h, if_pos (by omega)]
    congr 1
    omega
  · rw [if_neg h, if_neg (by omega)]
theorem own_set {w : World} {B g cap : Nat} {y : List Ob} (h : OwnO w B (.slice (some ⟨g, 0, none⟩) y.length cap) y) {i : Nat} (hi : i < y.length) (q : Ob) : OwnO (w.setCells g (i * 8) (obsC q)) B (.slice (some ⟨g, 0, none⟩) y.length cap) (y.set i q) := by
  obtain ⟨⟨h1, h2⟩, hB⟩ := h
  rcases h2 with ⟨hv, _⟩ | ⟨g', cap', cur, hv, hb, hh, hc1, hc2, hs, ht⟩
  · cases hv
  · have eg : g = g' := by
      have := congrArg (fun v => match v with | Value.slice (some a) _ _ => a.block | _ => 0) hv
      exact this
    have ec : cap = cap' := by
      have := congrArg (fun v => match v with | Value.slice (some _) _ c => c | _ => 0) hv
      exact this
    subst eg ec
    obtain ⟨cur', g1, g2, g3⟩ := setCells_block (obsC q) (i * 8) w cur hh
    have hz : (w.setCells g (i * 8) (obsC q)).heap.size = w.heap.size := sets_size g (obsC q) (i * 8) w
    refine ⟨⟨by rw [flatO_len, List.length_set], Or.inr ⟨g, cap, cur', by rw [List.length_set], hb, g1, by rw [List.length_set]; exact hc1, hc2, by rw [g2]; exact hs, ?_⟩⟩, by rw [hz]; exact hB⟩
    rw [List.length_set]
    apply List.ext_getElem?
    intro t
    by_cases c : t < y.length * 8
    · have ct : t < cur.size := by
        have : y.length * 8 ≤ cap * 8 := Nat.mul_le_mul_right 8 hc1
        omega
      rw [List.getElem?_take_of_lt c, Array.getElem?_toList, g3 t ct, flatO_set hi q t c]
      have e0 : (flatO y)[t]? = cur[t]? := by
        rw [← ht, List.getElem?_take_of_lt c, Array.getElem?_toList]
      rw [e0]
      rfl
    · rw [List.getElem?_eq_none (by rw [List.length_take]; omega), List.getElem?_eq_none (by rw [flatO_len, List.length_set]; omega)]
theorem own_swap {w : World} {B g cap : Nat} {y : List Ob} (h : OwnO w B (.slice (some ⟨g, 0, none⟩) y.length cap) y) {m j : Nat} (hm : m < y.length) (hj : j < y.length) : OwnO ((w.setCells g (m * 8) (obsC y[j])).setCells g (j * 8) (obsC y[m])) B (.slice (some ⟨g, 0, none⟩) y.length cap) (swapO y m j hm hj) := by
  have h1 := own_set h hm y[j]
  have e : y.length = (y.set m y[j]).length := by simp
  rw [e] at h1
  have h2 := own_set h1 (i := j) (by rw [← e]; exact hj) y[m]
  rw [← e] at h2
  exact h2
end Ow
end Go.Proofs.YtaghilgfldaaiaaGreatDoor
/-
  The walk of Sort of the reference.
-/
namespace Go.Proofs.YtaghilgfldaaiaaGreatDoor
namespace Ow
open Go.RowKit Lw Go.Proofs.YtaghilgfldaaiaaGreatDoor.Ap Go.Proofs.YtaghilgfldaaiaaGreatDoor.Op Go.Proofs.YtaghilgfldaaiaaGreatDoor.Mp Go.Proofs.YtaghilgfldaaiaaGreatDoor.Mw Go.Proofs.YtaghilgfldaaiaaGreatDoor.At

theorem SW.swap {W0 w : World} {B g cap : Nat} {y : List Ob} (h : SW W0 B g cap y w) (hg : B ≤ g) {m j : Nat} (hm : m < y.length) (hj : j < y.length) {p q : Ob} (e1 : y[m] = p) (e2 : y[j] = q) : SW W0 B g cap (swapO y m j hm hj) ((w.setCells g (m * 8) (obsC q)).setCells g (j * 8) (obsC p)) := by
  have o := own_swap h.own hm hj
  rw [e1, e2] at o
  have z1 := sets_size g (obsC q) (m * 8) w
  have z2 := sets_size g (obsC p) (j * 8) (w.setCells g (m * 8) (obsC q))
  refine ⟨by rw [swapO_len]; exact o, below_sets g hg _ _ (below_sets g hg _ _ h.below), by rw [z2, z1]; exact h.lt⟩
theorem OBs.swap {y : List Ob} (h : OBs y) {m j : Nat} (hm : m < y.length) (hj : j < y.length) : OBs (swapO y m j hm hj) := fun i hi => by
  have hi' : i < y.length := by rw [swapO_len] at hi; exact hi
  rw [swapO_get y m j hm hj i hi']
  by_cases a : i = j
  · rw [if_pos a]; exact h m hm
  · rw [if_neg a]
    by_cases b : i = m
    · rw [if_pos b]; exact h j hj
    · rw [if_neg b]; exact h i hi'
end Ow
end Go.Proofs.YtaghilgfldaaiaaGreatDoor
/-
  The walk of the law PsvOrder.
-/
namespace Go.Proofs.YtaghilgfldaaiaaGreatDoor
namespace Vw
open Go.RowKit Lw Go.Proofs.YtaghilgfldaaiaaGreatDoor.Ap Go.Proofs.YtaghilgfldaaiaaGreatDoor.Vp Go.Proofs.YtaghilgfldaaiaaGreatDoor.Op Go.Proofs.YtaghilgfldaaiaaGreatDoor.Ow Go.Proofs.YtaghilgfldaaiaaGreatDoor.Mp Go.Proofs.YtaghilgfldaaiaaGreatDoor.Mw Go.Proofs.YtaghilgfldaaiaaGreatDoor.At

theorem strC_get (l : List ByteArray) (i : Nat) (h : i < l.length) : (strC l)[i]? = some (.string (l[i]'h)) := by
  unfold strC
  rw [List.getElem?_map, List.getElem?_eq_getElem h]
  rfl
theorem strC_swp (l : List ByteArray) (a b : Nat) (ha : a < l.length) (hb : b < l.length) : ((strC l).set a (.string (l[b]'hb))).set b (.string (l[a]'ha)) = strC (swp l a b ha hb) := by
  unfold strC swp
  rw [List.map_set, List.map_set]
/-- What stays while the table is made. -/
structure OR3 (w0 : World) (o : Ob) (bn : Nat) (N : List ByteArray) (bf : Nat) (F : List ByteArray) (w : World) : Prop where
  x : OX w0 w0.heap.size o w
  n : Rw w bn (strC N)
  f : Rw w bf (strC F)
theorem OR3.call {w0 w w' : World} {o : Ob} {bn bf : Nat} {N F : List ByteArray} (h : OR3 w0 o bn N bf F w) (hb : Below w.heap.size w w') : OR3 w0 o bn N bf F w' := ⟨h.x.call hb, h.n.call hb, h.f.call hb⟩
theorem OR3.swapN {w0 w : World} {o : Ob} {bn bf : Nat} {N F : List ByteArray} (h : OR3 w0 o bn N bf F w) (a b : Nat) (ha : a < N.length) (hb : b < N.length) (h1 : w0.heap.size < bn) (h2 : bf ≠ bn) :
    OR3 w0 o bn (swp N a b ha hb) bf F (((w.setCell ⟨bn, a, none⟩ (.string (N[b]'hb))).setCell ⟨bn, b, none⟩ (.string (N[a]'ha))).drew) := by
  refine OR3.call (w := ((w.setCell ⟨bn, a, none⟩ (.string (N[b]'hb))).setCell ⟨bn, b, none⟩ (.string (N[a]'ha)))) ⟨((h.x.apart (Nat.ne_of_lt h1) (Nat.le_of_lt h1) a _).apart (Nat.ne_of_lt h1) (Nat.le_of_lt h1) b _), ?_, ((h.f.apart h2 a _).apart h2 b _)⟩ (Below.refl _ _).drew
  have := (h.n.set a (.string (N[b]'hb)) (by rw [strC_len]; exact ha)).set b (.string (N[a]'ha)) (by rw [List.length_set, strC_len]; exact hb)
  rw [strC_swp] at this
  exact this
theorem OR3.swapF {w0 w : World} {o : Ob} {bn bf : Nat} {N F : List ByteArray} (h : OR3 w0 o bn N bf F w) (a b : Nat) (ha : a < F.length) (hb : b < F.length) (h1 : w0.heap.size < bf) (h2 : bn ≠ bf) :
    OR3 w0 o bn N bf (swp F a b ha hb) (((w.setCell ⟨bf, a, none⟩ (.string (F[b]'hb))).setCell ⟨bf, b, none⟩ (.string (F[a]'ha))).drew) := by
  refine OR3.call (w := ((w.setCell ⟨bf, a, none⟩ (.string (F[b]'hb))).setCell ⟨bf, b, none⟩ (.string (F[a]'ha)))) ⟨((h.x.apart (Nat.ne_of_lt h1) (Nat.le_of_lt h1) a _).apart (Nat.ne_of_lt h1) (Nat.le_of_lt h1) b _), ((h.n.apart h2 a _).apart h2 b _), ?_⟩ (Below.refl _ _).drew
  have := (h.f.set a (.string (F[b]'hb)) (by rw [strC_len]; exact ha)).set b (.string (F[a]'ha)) (by rw [List.length_set, strC_len]; exact hb)
  rw [strC_swp] at this
  exact this
theorem join_first (sep : List UInt8) (l : List ByteArray) (h : 0 < l.length) : stL (joinK sep l 0) ++ (l[0]'h) = stL (joinK sep l 1) := by
  apply str_toL
  have e : l.getD 0 ByteArray.empty = l[0]'h := by rw [List.getD_eq_getElem?_getD, List.getElem?_eq_getElem h]; rfl
  show _ = ([] ++ []) ++ (l.getD 0 ByteArray.empty).data.toList
  rw [e]
  simp [ByteArray.data_append, stL, joinK]
theorem join_next (sep : List UInt8) (l : List ByteArray) (k : Nat) (h : k < l.length) (hk : 0 < k) : (stL (joinK sep l k) ++ ⟨sep.toArray⟩) ++ (l[k]'h) = stL (joinK sep l (k + 1)) := by
  apply str_toL
  have e : l.getD k ByteArray.empty = l[k]'h := by rw [List.getD_eq_getElem?_getD, List.getElem?_eq_getElem h]; rfl
  show _ = (joinK sep l k ++ (if 0 < k then sep else [])) ++ (l.getD k ByteArray.empty).data.toList
  rw [e, if_pos hk]
  simp [ByteArray.data_append, stL]
theorem joinK_len (sep : List UInt8) (l : List ByteArray) (hs : sep.length ≤ 3) (h : ∀ s ∈ l, s.size ≤ 100) : ∀ k, (stL (joinK sep l k)).size ≤ k * 103
  | 0 => Nat.zero_le _
  | k + 1 => by
    have ih := joinK_len sep l hs h k
    have e : (l.getD k ByteArray.empty).data.toList.length ≤ 100 := by
      by_cases hk : k < l.length
      · rw [List.getD_eq_getElem?_getD, List.getElem?_eq_getElem hk]
        exact h _ (List.getElem_mem hk)
      · rw [List.getD_eq_getElem?_getD, List.getElem?_eq_none (by omega)]
        exact Nat.zero_le _
    rw [stL_size] at ih ⊢
    show ((joinK sep l k ++ (if 0 < k then sep else [])) ++ (l.getD k ByteArray.empty).data.toList).length ≤ _
    rw [List.length_append, List.length_append]
    split <;> (try rw [List.length_nil]) <;> omega
theorem table_str {S T : ByteArray} {h r : List UInt8} (e1 : S = stL h) (e2 : T = stL r) : (((S ++ ⟨#[10]⟩) ++ T) ++ (⟨#[10]⟩ : ByteArray)).data.toList = (h ++ 10 :: r) ++ [10] := by
  subst e1 e2
  simp [ByteArray.data_append, stL]
/-- What stays while the results are held against each other. -/
structure O16 (w0 : World) (o : Ob) (bq : Nat) (r : Ob) (be oe : Nat) (e : Ob) (w : World) : Prop where
  x : OX w0 w0.heap.size o w
  q : Rw w bq (obsC r)
  re : w.rangeAt be oe (obsC e)
  le : be < w.heap.size
theorem O16.call {w0 w w' : World} {o r e : Ob} {bq be oe : Nat} (h : O16 w0 o bq r be oe e w) (hb : Below w.heap.size w w') : O16 w0 o bq r be oe e w' := ⟨h.x.call hb, h.q.call hb, rangeAt_below h.re hb h.le, Nat.lt_of_lt_of_le h.le hb.size⟩
structure O19 (w0 : World) (o : Ob) (bq : Nat) (r : Ob) (bf : Nat) (F : List ByteArray) (w : World) : Prop where
  x : OX w0 w0.heap.size o w
  q : Rw w bq (obsC r)
  f : Rw w bf (strC F)
  no : ∀ j, 8 ≤ j → w.cell? ⟨bq, j, none⟩ = none
theorem O19.call {w0 w w' : World} {o r : Ob} {bq bf : Nat} {F : List ByteArray} (h : O19 w0 o bq r bf F w) (hb : Below w.heap.size w w') : O19 w0 o bq r bf F w' := ⟨h.x.call hb, h.q.call hb, h.f.call hb, fun j hj => (hb.cell (p := ⟨bq, j, none⟩) h.q.lt).trans (h.no j hj)⟩
theorem no_new (w : World) (q : Ob) (t : TypeId) (j : Nat) (hj : 8 ≤ j) : (w.alloc (.cells (obsC q).toArray t)).cell? ⟨w.heap.size, j, none⟩ = none := by
  have e : (obsC q).toArray[j]? = none := Array.getElem?_eq_none hj
  simp only [World.cell?, World.alloc, Array.getElem?_push_size]
  simpa using hj
theorem range_apart {w : World} {b c i o : Nat} {vs : List Value} (h : w.rangeAt b o vs) (x : Value) (hne : b ≠ c) : (w.setCell ⟨c, i, none⟩ x).rangeAt b o vs := fun j v hj => by
  have out := World.cell?_setCells_out c [x] i w
  have ew : w.setCells c i [x] = w.setCell ⟨c, i, none⟩ x := rfl
  rw [ew] at out
  exact (out ⟨b, o + j, none⟩ (fun e => absurd e hne)).trans (h j v hj)
def bareO (q : Ob) : Ob := { q with sg := 1000000, mag := 9999, band := 32 }
/-- The fields that are not there are set. -/
theorem O19.bare {w0 w : World} {o r : Ob} {bq bf be oe : Nat} {F : List ByteArray} (h : O19 w0 o bq r bf F w) (hl : w0.heap.size < bq) (re : w.rangeAt be oe (obsC (bareO r))) (le : be < w.heap.size) :
    O16 w0 o bq (bareO r) be oe (bareO r) (((w.setCell ⟨bq, 5, none⟩ (.int .i64 1000000)).setCell ⟨bq, 6, none⟩ (.int .i64 9999)).setCell ⟨bq, 7, none⟩ (.int .u8 32)) := by
  have q1 : Rw (((w.setCell ⟨bq, 5, none⟩ (.int .i64 1000000)).setCell ⟨bq, 6, none⟩ (.int .i64 9999)).setCell ⟨bq, 7, none⟩ (.int .u8 32)) bq (obsC (bareO r)) := ((h.q.set 5 (.int .i64 1000000) (by show 5 < 8; omega)).set 6 (.int .i64 9999) (by show 6 < 8; omega)).set 7 (.int .u8 32) (by show 7 < 8; omega)
  refine ⟨((h.x.apart (Nat.ne_of_lt hl) (Nat.le_of_lt hl) 5 _).apart (Nat.ne_of_lt hl) (Nat.le_of_lt hl) 6 _).apart (Nat.ne_of_lt hl) (Nat.le_of_lt hl) 7 _, q1, ?_, by rw [set_size, set_size, set_size]; exact le⟩
  by_cases e : be = bq
  · subst e
    have o0 : oe = 0 := by
      refine Classical.byContradiction fun ne => ?_
      have a := re 7 _ rfl
      rw [h.no (oe + 7) (by omega)] at a
      cases a
    subst o0
    exact q1.row
  · exact range_apart (range_apart (range_apart re _ e) _ e) _ e
theorem five_str (x0 x1 x2 x3 x4 : ByteArray) : (((((((((((⟨#[110, 97, 109, 101, 124, 115, 116, 110, 124, 111, 98, 115, 84, 105, 109, 101, 124, 114, 97, 124, 100, 101, 99, 10]⟩ : ByteArray) ++ x0) ++ (⟨#[124]⟩ : ByteArray)) ++ x1) ++ (⟨#[124]⟩ : ByteArray)) ++ x2) ++ (⟨#[124]⟩ : ByteArray)) ++ x3) ++ (⟨#[124]⟩ : ByteArray)) ++ x4) ++ (⟨#[10]⟩ : ByteArray)).data.toList = (headF ++ 10 :: joinC 124 ([x0, x1, x2, x3, x4].map (·.data.toList))) ++ [10] := by
  simp [ByteArray.data_append, headF, joinC_cons, joinC_one]
set_option maxRecDepth 100000 in
set_option maxHeartbeats 40000000 in
theorem vord_bad (o : Ob) (a b : Int) (w : World) (hT : Gt.Tab w) (hE : ES w) (hM : MX w) (hb : OB o) (no : longP o ∨ ¬ okO o) : Calls Tryz.prog 5 #[obsV o, .int .i64 a, .int .i64 b] w fun e w' => e = .returned (.bool true) ∧ Below w.heap.size w w' := by
  have X0 := Lib.hid (OX.new w o)
  have HT := Lib.hid (hT.below X0.out.below)
  have HE := Lib.hid (hE.below X0.out.below)
  have HM := Lib.hid (hM.below X0.out.below)
  have AL := Lib.hid (fun w' (h : Gt.Tab w') (g : ES w') (k : MX w') => alive27_any w' h g k)
  have GR := Lib.hid (fun w' : World => great_one (w := w') hb)
  have RC := Lib.hid (fun w' => rcheck_any o w' hb.t0 hb.t1 hb.b0 hb.b1 hb.n1 hb.n2)
  clear hT hE hM hb
  obtain ⟨nm, st, tt, ra, dec, sg, mg, bd⟩ := o
  go_enter Tryz.func5, Tryz.ntmps5
  go_wp2_with fail
  refine (AL.out _ HT.out HE.out HM.out).mono ?_
  rintro e w1 ⟨rfl, hb⟩
  have X1 := Lib.hid (X0.out.call hb)
  clear hb AL HT HE HM X0
  go_wp2_with (refine wpList_load_mid rfl _ (.tmp 3) rfl w.heap.size 0 rfl (obsC ⟨nm, st, tt, ra, dec, sg, mg, bd⟩) _ X1.out.row Tryz.underlying33 rfl info8 ?_)
  refine (GR.out _).mono ?_
  rintro e w2 ⟨rfl, rfl⟩
  have X2 := Lib.hid (X1.out.call ((Below.refl w1.heap.size w1).alloc (Nat.le_refl _) (.cells (obsC ⟨nm, st, tt, ra, dec, sg, mg, bd⟩).toArray 33)))
  by_cases hl : longP ⟨nm, st, tt, ra, dec, sg, mg, bd⟩
  · rw [decide_eq_true hl]
    clear no hl GR RC X1
    go_wp2_with fail
    go_ret
    exact ⟨rfl, X2.out.below⟩
  · rw [decide_eq_false hl]
    rw [show checkC ⟨nm, st, tt, ra, dec, sg, mg, bd⟩ = 8 from if_neg (no.resolve_left hl)] at RC
    clear no hl GR
    have q0 := X1.out.row 0 _ rfl
    have q1 := X1.out.row 1 _ rfl
    have q2 := X1.out.row 2 _ rfl
    have q3 := X1.out.row 3 _ rfl
    have q4 := X1.out.row 4 _ rfl
    have q5 := X1.out.row 5 _ rfl
    have q6 := X1.out.row 6 _ rfl
    have q7 := X1.out.row 7 _ rfl
    simp only [Nat.zero_add] at q0 q1 q2 q3 q4 q5 q6 q7
    have lt1 := X1.out.lt
    go_wp2_with fail
    refine (RC.out _).mono ?_
    rintro e w3 ⟨rfl, hb⟩
    have X3 := Lib.hid (X2.out.call hb)
    clear hb X2 X1 q0 q1 q2 q3 q4 q5 q6 q7 lt1
    go_wp2_with fail
    go_ret
    exact ⟨rfl, X3.out.below⟩
set_option maxRecDepth 100000 in
set_option maxHeartbeats 40000000 in
theorem vord_out (o : Ob) (a b : Int) (w : World) (hT : Gt.Tab w) (hE : ES w) (hM : MX w) (hb : OB o) (ok : okO o) (nl : ¬ longP o) (hab : ¬ (0 ≤ a ∧ a ≤ 7 ∧ 0 ≤ b ∧ b ≤ 7)) : Calls Tryz.prog 5 #[obsV o, .int .i64 a, .int .i64 b] w fun e w' => e = .returned (.bool true) ∧ Below w.heap.size w w' := by
  have X0 := Lib.hid (OX.new w o)
  have HT := Lib.hid (hT.below X0.out.below)
  have HE := Lib.hid (hE.below X0.out.below)
  have HM := Lib.hid (hM.below X0.out.below)
  have AL := Lib.hid (fun w' (h : Gt.Tab w') (g : ES w') (k : MX w') => alive27_any w' h g k)
  have GR := Lib.hid (fun w' : World => great_one (w := w') hb)
  have RC := Lib.hid (fun w' => rcheck_any o w' hb.t0 hb.t1 hb.b0 hb.b1 hb.n1 hb.n2)
  have HTw := Lib.hid hT
  have HEw := Lib.hid hE
  have HMw := Lib.hid hM
  rw [show checkC o = 0 from if_pos ok] at RC
  rw [decide_eq_false nl] at GR
  clear hT hE hM hb ok nl HTw HEw HMw
  obtain ⟨nm, st, tt, ra, dec, sg, mg, bd⟩ := o
  go_enter Tryz.func5, Tryz.ntmps5
  go_wp2_with fail
  refine (AL.out _ HT.out HE.out HM.out).mono ?_
  rintro e w1 ⟨rfl, hb⟩
  have X1 := Lib.hid (X0.out.call hb)
  clear hb AL X0 HT HE HM
  go_wp2_with (refine wpList_load_mid rfl _ (.tmp 3) rfl w.heap.size 0 rfl (obsC ⟨nm, st, tt, ra, dec, sg, mg, bd⟩) _ X1.out.row Tryz.underlying33 rfl info8 ?_)
  refine (GR.out _).mono ?_
  rintro e w2 ⟨rfl, rfl⟩
  have X2 := Lib.hid (X1.out.call ((Below.refl w1.heap.size w1).alloc (Nat.le_refl _) (.cells (obsC ⟨nm, st, tt, ra, dec, sg, mg, bd⟩).toArray 33)))
  have q0 := X1.out.row 0 _ rfl
  have q1 := X1.out.row 1 _ rfl
  have q2 := X1.out.row 2 _ rfl
  have q3 := X1.out.row 3 _ rfl
  have q4 := X1.out.row 4 _ rfl
  have q5 := X1.out.row 5 _ rfl
  have q6 := X1.out.row 6 _ rfl
  have q7 := X1.out.row 7 _ rfl
  simp only [Nat.zero_add] at q0 q1 q2 q3 q4 q5 q6 q7
  have lt1 := X1.out.lt
  clear GR
  go_wp2_with fail
  refine (RC.out _).mono ?_
  rintro e w3 ⟨rfl, hb⟩
  have X3 := Lib.hid (X2.out.call hb)
  clear hb X2 X1 q0 q1 q2 q3 q4 q5 q6 q7 lt1 RC
  by_cases a0 : a < 0
  · clear hab
    go_wp2_with fail
    go_ret
    exact ⟨rfl, X3.out.below⟩
  by_cases a7 : 7 < a
  · clear hab
    go_wp2_with fail
    go_ret
    exact ⟨rfl, X3.out.below⟩
  by_cases b0 : b < 0
  · clear hab
    go_wp2_with fail
    go_ret
    exact ⟨rfl, X3.out.below⟩
  have b7 : 7 < b := by omega
  clear hab
  go_wp2_with fail
  go_ret
  exact ⟨rfl, X3.out.below⟩
set_option maxRecDepth 100000 in
set_option maxHeartbeats 40000000 in
theorem vord_main (o : Ob) (a b : Nat) (w : World) (hT : Gt.Tab w) (hE : ES w) (hM : MX w) (hb : OB o) (ok : okO o) (nl : ¬ longP o) (ha : a < 8) (hbb : b < 8) : Calls Tryz.prog 5 #[obsV o, .int .i64 a, .int .i64 b] w fun e w' => e = .returned (.bool true) ∧ Below w.heap.size w w' := by
  have X0 := Lib.hid (OX.new w o)
  have HT := Lib.hid (hT.below X0.out.below)
  have HE := Lib.hid (hE.below X0.out.below)
  have HM := Lib.hid (hM.below X0.out.below)
  have AL := Lib.hid (fun w' (h : Gt.Tab w') (g : ES w') (k : MX w') => alive27_any w' h g k)
  have GR := Lib.hid (fun w' : World => great_one (w := w') hb)
  have RC := Lib.hid (fun w' => rcheck_any o w' hb.t0 hb.t1 hb.b0 hb.b1 hb.n1 hb.n2)
  have HTw := Lib.hid hT
  have HEw := Lib.hid hE
  have HMw := Lib.hid hM
  rw [show checkC o = 0 from if_pos ok] at RC
  rw [decide_eq_false nl] at GR
  have FI := Lib.hid (fun w' => rfields_any o w' hb.t0 hb.t1 ok)
  have RO := Lib.hid (fun w' (h : Gt.Tab w') (g : ES w') (k : MX w') => vround_any o w' h g k hb)
  have Q1 := Lib.hid (show VRoundIs o (roundP o) 0 from Or.inl ⟨ok, rfl, rfl⟩)
  have OK := Lib.hid ok
  clear hT hE hM hb ok nl
  have a1 : (a : Int) < 8 := by omega
  have a0 : (0 : Int) ≤ (a : Int) := by omega
  have a7 : ¬ (7 : Int) < (a : Int) := by omega
  have a8 : ¬ (a : Int) < 0 := by omega
  have b1 : (b : Int) < 8 := by omega
  have b0 : (0 : Int) ≤ (b : Int) := by omega
  have b7 : ¬ (7 : Int) < (b : Int) := by omega
  have b8 : ¬ (b : Int) < 0 := by omega
  have ST : Hid (∀ T, TextIs o.t 6 T 0 → (∀ s ∈ fieldL o T, s.size ≤ 100) ∧ (∀ s, s.data.toList = (joinK [32, 124, 32] (swp colB a b ha hbb) 8 ++ 10 :: joinK [124] (swp (fieldL o T) a b ha hbb) 8) ++ [10] → ParseTIs s [] [roundP o] 0 ∧ SmallC s) ∧ (∀ s, s.data.toList = (headF ++ 10 :: joinC 124 (((fieldL o T).take 5).map (·.data.toList))) ++ [10] → ParseTIs s [] [{ roundP o with sg := 1000000, mag := 9999, band := 32 }] 0 ∧ SmallC s)) := Lib.hid (fun T hT => ⟨field_size OK.out hT, fun s hs => swp_table OK.out hT ha hbb hs, fun s hs => five_table OK.out hT hs⟩)
  obtain ⟨r, hr⟩ : ∃ r, roundP o = r := ⟨_, rfl⟩
  rw [hr] at Q1 ST
  clear OK hr
  obtain ⟨nm, st, tt, ra, dec, sg, mg, bd⟩ := o
  go_enter Tryz.func5, Tryz.ntmps5
  go_wp2_with fail
  refine (AL.out _ HT.out HE.out HM.out).mono ?_
  rintro e w1 ⟨rfl, hb⟩
  have X1 := Lib.hid (X0.out.call hb)
  clear hb AL X0 HT HE HM
  go_wp2_with (refine wpList_load_mid rfl _ (.tmp 3) rfl w.heap.size 0 rfl (obsC ⟨nm, st, tt, ra, dec, sg, mg, bd⟩) _ X1.out.row Tryz.underlying33 rfl info8 ?_)
  refine (GR.out _).mono ?_
  rintro e w2 ⟨rfl, rfl⟩
  have X2 := Lib.hid (X1.out.call ((Below.refl w1.heap.size w1).alloc (Nat.le_refl _) (.cells (obsC ⟨nm, st, tt, ra, dec, sg, mg, bd⟩).toArray 33)))
  have q0 := X1.out.row 0 _ rfl
  have q1 := X1.out.row 1 _ rfl
  have q2 := X1.out.row 2 _ rfl
  have q3 := X1.out.row 3 _ rfl
  have q4 := X1.out.row 4 _ rfl
  have q5 := X1.out.row 5 _ rfl
  have q6 := X1.out.row 6 _ rfl
  have q7 := X1.out.row 7 _ rfl
  simp only [Nat.zero_add] at q0 q1 q2 q3 q4 q5 q6 q7
  have lt1 := X1.out.lt
  clear GR
  go_wp2_with fail
  refine (RC.out _).mono ?_
  rintro e w3 ⟨rfl, hb⟩
  have X3 := Lib.hid (X2.out.call hb)
  clear hb X2 X1 q0 q1 q2 q3 q4 q5 q6 q7 lt1 RC
  have NW := Lib.hid (Rw.new w3 (strC colB) 9)
  obtain ⟨w4, hw4⟩ : ∃ v, w3.alloc (.cells (strC colB).toArray 9) = v := ⟨_, rfl⟩
  have X4 := Lib.hid (X3.out.call ((Below.refl w3.heap.size w3).alloc (Nat.le_refl _) (.cells (strC colB).toArray 9)))
  rw [hw4] at NW X4
  have X3L := Lib.hid X3.out.lt
  have W4 := Lib.hid hw4
  clear hw4 X3
  go_wp2_with (first | (rw [show w3.alloc (.cells #[.string ⟨#[110, 97, 109, 101]⟩, .string ⟨#[115, 116, 110]⟩, .string ⟨#[111, 98, 115, 84, 105, 109, 101]⟩, .string ⟨#[114, 97]⟩, .string ⟨#[100, 101, 99]⟩, .string ⟨#[115, 105, 103, 109, 97]⟩, .string ⟨#[109, 97, 103]⟩, .string ⟨#[98, 97, 110, 100]⟩] 9) = w4 from W4.out]; refine wpList_load_mid rfl _ (.tmp 3) rfl w.heap.size 0 rfl (obsC ⟨nm, st, tt, ra, dec, sg, mg, bd⟩) _ X4.out.row Tryz.underlying33 rfl info8 ?_) | (refine wpList_load_mid rfl _ (.tmp 3) rfl w.heap.size 0 rfl (obsC ⟨nm, st, tt, ra, dec, sg, mg, bd⟩) _ X4.out.row Tryz.underlying33 rfl info8 ?_))
  refine (FI.out _).mono ?_
  rintro e w5 ⟨T, bf, hT, rfl, lb, RF, hb⟩
  obtain ⟨sz, t1, t2⟩ := ST.out T hT
  have HTT := Lib.hid hT
  have X5 := Lib.hid (X4.out.call hb)
  have N5 := Lib.hid (NW.out.call hb)
  obtain ⟨Fd, hFd⟩ : ∃ l, fieldL ⟨nm, st, tt, ra, dec, sg, mg, bd⟩ T = l := ⟨_, rfl⟩
  have fl : Fd.length = 8 := by rw [← hFd]; exact fieldL_len _ _
  have fa8 : a < Fd.length := by omega
  have fb8 : b < Fd.length := by omega
  have HFD := Lib.hid hFd
  have LB : w3.heap.size < bf := Nat.lt_of_lt_of_le NW.out.lt lb
  have L3 : w.heap.size < w3.heap.size := by have := X3L.out; exact this
  have T1 := Lib.hid (show ∀ s : ByteArray, s.data.toList = (joinK [32, 124, 32] (swp colB a b ha hbb) 8 ++ 10 :: joinK [124] (swp Fd a b fa8 fb8) 8) ++ [10] → ParseTIs s [] [r] 0 ∧ SmallC s from by subst hFd; exact t1)
  have T2 := Lib.hid (show ∀ s : ByteArray, s.data.toList = (headF ++ 10 :: joinC 124 ((Fd.take 5).map (·.data.toList))) ++ [10] → ParseTIs s [] [{ r with sg := 1000000, mag := 9999, band := 32 }] 0 ∧ SmallC s from by subst hFd; exact t2)
  rw [hFd] at RF sz
  have F5 := Lib.hid RF
  have SZ := Lib.hid sz
  have FL := Lib.hid fl
  clear hT sz t1 t2 hb NW X4 lb hFd RF W4 ST
  obtain ⟨bn, hbn⟩ : ∃ n, w3.heap.size = n := ⟨_, rfl⟩
  rw [hbn] at N5 LB L3
  try rw [hbn]
  clear hbn
  have qa := N5.out.cell (strC_get colB a ha)
  have qb := N5.out.cell (strC_get colB b hbb)
  have fa : w5.frozen? ⟨bn, a, none⟩ = false := N5.out.free (by rw [strC_len]; exact ha)
  have fb : w5.frozen? ⟨bn, b, none⟩ = false := N5.out.free (by rw [strC_len]; exact hbb)
  obtain ⟨na, hna⟩ : ∃ x, colB[a]'ha = x := ⟨_, rfl⟩
  obtain ⟨nb, hnb⟩ : ∃ x, colB[b]'hbb = x := ⟨_, rfl⟩
  rw [hna] at qa
  rw [hnb] at qb
  have HNA := Lib.hid hna
  have HNB := Lib.hid hnb
  clear hna hnb
  have N6 := N5.out.set a (.string nb) (by rw [strC_len]; exact ha)
  have ga : ∃ y, (w5.setCell ⟨bn, a, none⟩ (.string nb)).cell? ⟨bn, b, none⟩ = some y := ⟨_, N6.cell (List.getElem?_eq_getElem (by rw [List.length_set, strC_len]; exact hbb))⟩
  obtain ⟨y, ga⟩ := ga
  have gb : (w5.setCell ⟨bn, a, none⟩ (.string nb)).frozen? ⟨bn, b, none⟩ = false := N6.free (by rw [List.length_set, strC_len]; exact hbb)
  clear N6
  go_upto_region 5 with fail
  go_region
  have R6 := (show OR3 w ⟨nm, st, tt, ra, dec, sg, mg, bd⟩ bn colB bf Fd w5 from ⟨X5.out, N5.out, F5.out⟩).swapN a b ha hbb L3 (by omega)
  rw [HNA.out, HNB.out] at R6
  obtain ⟨w6, hw6⟩ : ∃ v, ((w5.setCell ⟨bn, a, none⟩ (.string nb)).setCell ⟨bn, b, none⟩ (.string na)).drew = v := ⟨_, rfl⟩
  rw [hw6] at R6
  try rw [hw6]
  have W6 := Lib.hid hw6
  clear hw6 ga gb qa qb fa fb HNA HNB X5 N5 F5 y
  have qa := R6.f.cell (strC_get Fd a fa8)
  have qb := R6.f.cell (strC_get Fd b fb8)
  have fa : w6.frozen? ⟨bf, a, none⟩ = false := R6.f.free (by rw [strC_len]; exact fa8)
  have fb : w6.frozen? ⟨bf, b, none⟩ = false := R6.f.free (by rw [strC_len]; exact fb8)
  obtain ⟨na2, hna⟩ : ∃ x, Fd[a]'fa8 = x := ⟨_, rfl⟩
  obtain ⟨nb2, hnb⟩ : ∃ x, Fd[b]'fb8 = x := ⟨_, rfl⟩
  rw [hna] at qa
  rw [hnb] at qb
  have N6 := R6.f.set a (.string nb2) (by rw [strC_len]; exact fa8)
  have ga : ∃ y, (w6.setCell ⟨bf, a, none⟩ (.string nb2)).cell? ⟨bf, b, none⟩ = some y := ⟨_, N6.cell (List.getElem?_eq_getElem (by rw [List.length_set, strC_len]; exact fb8))⟩
  obtain ⟨y, ga⟩ := ga
  have gb : (w6.setCell ⟨bf, a, none⟩ (.string nb2)).frozen? ⟨bf, b, none⟩ = false := N6.free (by rw [List.length_set, strC_len]; exact fb8)
  have R7 := R6.swapF a b fa8 fb8 (by omega) (by omega)
  rw [hna, hnb] at R7
  have R6h := Lib.hid R7
  clear N6 hna hnb R6 R7
  go_upto_region 6 with fail
  go_region
  have R7 := R6h.out
  obtain ⟨w7, hw7⟩ : ∃ v, ((w6.setCell ⟨bf, a, none⟩ (.string nb2)).setCell ⟨bf, b, none⟩ (.string na2)).drew = v := ⟨_, rfl⟩
  rw [hw7] at R7
  try rw [hw7]
  have W7 := Lib.hid hw7
  clear hw7 ga gb qa qb fa fb R6h y
  have ZN : Hid (∀ s ∈ swp colB a b ha hbb, s.size ≤ 100) := Lib.hid (fun s hs => by
    have m := (swp_perm colB a b ha hbb).mem_iff.1 hs
    have : ∀ s ∈ colB, s.size ≤ 100 := by decide
    exact this s m)
  have ZF : Hid (∀ s ∈ swp Fd a b fa8 fb8, s.size ≤ 100) := Lib.hid (fun s hs => SZ.out s ((swp_perm Fd a b fa8 fb8).mem_iff.1 hs))
  have LN : (swp colB a b ha hbb).length = 8 := swp_len ..
  have LF : (swp Fd a b fa8 fb8).length = 8 := (swp_len ..).trans fl
  have RX := Lib.hid R7
  clear R7
  obtain ⟨N, hN⟩ : ∃ N, swp colB a b ha hbb = N := ⟨_, rfl⟩
  obtain ⟨G, hG⟩ : ∃ N, swp Fd a b fa8 fb8 = N := ⟨_, rfl⟩
  rw [hN] at ZN LN RX T1
  rw [hG] at ZF LF RX T1
  have JN := Lib.hid (joinK_len [32, 124, 32] N (by decide) ZN.out)
  have JF := Lib.hid (joinK_len [124] G (by decide) ZF.out)
  clear hN hG
  go_wp2_with fail
  go_loopw [10, 11, 12] (fun sv tv iv wr => ∃ k : Nat, k ≤ 8 ∧ iv = .int .i64 k ∧ sv = .string (stL (joinK [32, 124, 32] N k)) ∧ tv = .string (stL (joinK [124] G k)) ∧ Hid (OR3 w ⟨nm, st, tt, ra, dec, sg, mg, bd⟩ bn N bf G wr)) (fun _ _ iv _ => 8 - (intOf iv).toNat)
  case atStart => exact ⟨0, Nat.zero_le _, rfl, rfl, rfl, RX⟩
  case round =>
    obtain ⟨k, hk, rfl, rfl, rfl, X⟩ := hrel
    clear RX
    have z1 := JN.out k
    have z2 := JF.out k
    by_cases hlt : k < 8
    · have i1 : (k : Int) < 8 := by omega
      have kN : k < N.length := by omega
      have kG : k < G.length := by omega
      have c1 := X.out.n.cell (strC_get N k kN)
      have c2 := X.out.f.cell (strC_get G k kG)
      have z3 : (N[k]'kN).size ≤ 100 := ZN.out _ (List.getElem_mem kN)
      have z4 : (G[k]'kG).size ≤ 100 := ZF.out _ (List.getElem_mem kG)
      by_cases k0 : k = 0
      · have i2 : decide ((0 : Int) < (k : Int)) = false := decide_eq_false (by omega)
        have i3 : decide (0 < k) = false := decide_eq_false (by omega)
        have J1 := Lib.hid (show stL (joinK [32, 124, 32] N k) ++ (N[k]'kN) = stL (joinK [32, 124, 32] N (k + 1)) from by subst k0; exact join_first _ _ _)
        have J2 := Lib.hid (show stL (joinK [124] G k) ++ (G[k]'kG) = stL (joinK [124] G (k + 1)) from by subst k0; exact join_first _ _ _)
        clear k0
        obtain ⟨S, hS⟩ : ∃ S, stL (joinK [32, 124, 32] N k) = S := ⟨_, rfl⟩
        obtain ⟨U, hU⟩ : ∃ S, stL (joinK [124] G k) = S := ⟨_, rfl⟩
        rw [hS] at J1 z1 ⊢
        rw [hU] at J2 z2 ⊢
        generalize N[k]'kN = x1 at *
        generalize G[k]'kG = x2 at *
        clear hS hU
        have z5 : (S ++ x1).size ≤ 1000 := by rw [ByteArray.size_append]; omega
        have z6 : (U ++ x2).size ≤ 1000 := by rw [ByteArray.size_append]; omega
        go_upto_region 13 with fail
        go_quiet (fail)
        have X2 := Lib.hid (X.out.call (drewN_below2 (Below.refl _ _) nq))
        clear X c1 c2
        go_wp2_with fail
        go_roundw
        case rel => exact ⟨k + 1, by omega, by go_num, by rw [J1.out], by rw [J2.out], X2⟩
        case measure => simp [intOf] <;> omega
      · have i2 : decide ((0 : Int) < (k : Int)) = true := decide_eq_true (by omega)
        have i3 : decide (0 < k) = true := decide_eq_true (by omega)
        have J1 := Lib.hid (show (stL (joinK [32, 124, 32] N k) ++ ⟨#[32, 124, 32]⟩) ++ (N[k]'kN) = stL (joinK [32, 124, 32] N (k + 1)) from join_next _ _ _ _ (by omega))
        have J2 := Lib.hid (show (stL (joinK [124] G k) ++ ⟨#[124]⟩) ++ (G[k]'kG) = stL (joinK [124] G (k + 1)) from join_next _ _ _ _ (by omega))
        clear k0
        obtain ⟨S, hS⟩ : ∃ S, stL (joinK [32, 124, 32] N k) = S := ⟨_, rfl⟩
        obtain ⟨U, hU⟩ : ∃ S, stL (joinK [124] G k) = S := ⟨_, rfl⟩
        rw [hS] at J1 z1 ⊢
        rw [hU] at J2 z2 ⊢
        generalize N[k]'kN = x1 at *
        generalize G[k]'kG = x2 at *
        clear hS hU
        have y1 : (⟨#[32, 124, 32]⟩ : ByteArray).size = 3 := rfl
        have y2 : (⟨#[124]⟩ : ByteArray).size = 1 := rfl
        have z7 : (S ++ ⟨#[32, 124, 32]⟩).size ≤ 1000 := by rw [ByteArray.size_append]; omega
        have z8 : (U ++ ⟨#[124]⟩).size ≤ 1000 := by rw [ByteArray.size_append]; omega
        have z5 : (S ++ ⟨#[32, 124, 32]⟩ ++ x1).size ≤ 1100 := by rw [ByteArray.size_append]; omega
        have z6 : (U ++ ⟨#[124]⟩ ++ x2).size ≤ 1100 := by rw [ByteArray.size_append]; omega
        go_upto_region 13 with fail
        go_quiet (fail)
        have X2 := Lib.hid (X.out.call (drewN_below2 (Below.refl _ _) nq))
        clear X c1 c2
        go_wp2_with fail
        go_roundw
        case rel => exact ⟨k + 1, by omega, by go_num, by rw [J1.out], by rw [J2.out], X2⟩
        case measure => simp [intOf] <;> omega
    · obtain rfl : k = 8 := by omega
      have XB := Lib.hid X.out.x
      have LB2 : w.heap.size < w.heap.size + 1 := Nat.lt_succ_self _
      obtain ⟨S, hS⟩ : ∃ S, stL (joinK [32, 124, 32] N 8) = S := ⟨_, rfl⟩
      obtain ⟨U, hU⟩ : ∃ S, stL (joinK [124] G 8) = S := ⟨_, rfl⟩
      have e1 := table_str hS.symm hU.symm
      obtain ⟨p1, p2⟩ := T1.out _ e1
      rw [hS] at z1 ⊢
      rw [hU] at z2 ⊢
      have y1 : (⟨#[10]⟩ : ByteArray).size = 1 := rfl
      have z3 : (S ++ ⟨#[10]⟩).size ≤ 1000 := by rw [ByteArray.size_append]; omega
      have z4 : (S ++ ⟨#[10]⟩ ++ U).size ≤ 2000 := by rw [ByteArray.size_append]; omega
      have z5 : (S ++ ⟨#[10]⟩ ++ U ++ ⟨#[10]⟩).size ≤ 2001 := by rw [ByteArray.size_append]; omega
      have PA := Lib.hid (fun w' (h : Below w.heap.size w w') => vparse_any (S ++ (⟨#[10]⟩ : ByteArray) ++ U ++ (⟨#[10]⟩ : ByteArray)) w' (HEw.out.below h) (HMw.out.below h) (by omega) p2)
      have PS := Lib.hid p1
      clear e1 p1 p2 hS hU T1 JN JF ZN ZF X hlt hk
      go_wp2_with fail
      refine (PA.out _ XB.out.below).mono ?_
      rintro e wa ⟨v1, d1, n1, m1, c1, rfl, hP, hv, hd, hba⟩
      obtain ⟨rfl, rfl, rfl⟩ := PS.out.uniq hP
      obtain ⟨xn, cn, rfl, _⟩ := hv
      obtain ⟨xo, co, rfl, hxo⟩ := hd
      have XA := Lib.hid (XB.out.call hba)
      obtain ⟨be, oe, rfl, le, row⟩ := hxo.get (i := 0) (by simp)
      have RE := Lib.hid (show wa.rangeAt be (oe + 0) (obsC r) from row 0 (by simp))
      have LE := Lib.hid le
      clear hP hba PS PA XB hxo row le z1 z2 z3 z4 z5 y1
      go_wp2_with (refine wpList_load_mid rfl _ (.tmp 3) rfl w.heap.size 0 rfl (obsC ⟨nm, st, tt, ra, dec, sg, mg, bd⟩) _ XA.out.row Tryz.underlying33 rfl info8 ?_)
      refine (RO.out _ (HTw.out.below XA.out.below) (HEw.out.below XA.out.below) (HMw.out.below XA.out.below)).mono ?_
      rintro e wb ⟨q, c, rfl, hP, hb⟩
      obtain ⟨rfl, rfl⟩ := hP.uniq Q1.out
      have XB := Lib.hid (XA.out.call hb)
      have RE2 := Lib.hid (rangeAt_below RE.out hb LE.out)
      have LE2 := Lib.hid (Nat.lt_of_lt_of_le LE.out hb.size)
      have al := (Below.refl wb.heap.size wb).alloc (Nat.le_refl _) (.cells (obsC q).toArray 33)
      have qr := Rw.new wb (obsC q) 33
      obtain ⟨wc, hwc⟩ : ∃ v, wb.alloc (.cells (obsC q).toArray 33) = v := ⟨_, rfl⟩
      rw [hwc] at al qr
      have lq : w.heap.size < wb.heap.size := XB.out.lt
      have OC := Lib.hid (show O16 w ⟨nm, st, tt, ra, dec, sg, mg, bd⟩ wb.heap.size q be oe q wc from ⟨XB.out.call al, qr, rangeAt_below RE2.out al LE2.out, Nat.lt_of_lt_of_le LE2.out al.size⟩)
      have NO := Lib.hid (fun j (hj : 8 ≤ j) => show wc.cell? ⟨wb.heap.size, j, none⟩ = none from by rw [← hwc]; exact no_new wb q _ j hj)
      have WC := Lib.hid hwc
      clear hP hb XA RE LE XB RE2 LE2 al qr hwc RO Q1
      go_upto_region 16 with (refine wpList_store_new rfl _ (.tmp 16) (.tmp 118) rfl _ _ rfl rfl info8 rfl ?_ ?_; simp [Value.oneCell'])
      rw [show wb.alloc (.cells #[.string q.name, .string q.site, .int .i64 q.t, .int .i64 q.ra, .int .i64 q.dec, .int .i64 q.sg, .int .i64 q.mag, .int .u8 q.band] 33) = wc from WC.out]
      obtain ⟨bq, hbq⟩ : ∃ n, wb.heap.size = n := ⟨_, rfl⟩
      rw [hbq] at OC lq NO
      try rw [hbq]
      clear hbq WC
      have EQ : ∀ w', (Go.Op.equalIn 10000 33 (.agg #[.string q.name, .string q.site, .int .i64 q.t, .int .i64 q.ra, .int .i64 q.dec, .int .i64 q.sg, .int .i64 q.mag, .int .u8 q.band]) (.agg #[.string q.name, .string q.site, .int .i64 q.t, .int .i64 q.ra, .int .i64 q.dec, .int .i64 q.sg, .int .i64 q.mag, .int .u8 q.band])).run Tryz.prog w' = .ok true w' := fun w' => by
        have := obs_eql q q w'
        rw [decide_eq_true rfl] at this
        exact this
      refine wp_region_held_drew (S := fun wx => O16 w ⟨nm, st, tt, ra, dec, sg, mg, bd⟩ bq q be oe q wx) (by kernel_rfl) (OC.out.call (Below.refl _ _).drew) (fun hHeld => ?_)
      refine wpAnyH_take (i := 0) (oi := ?oi0x1) (v := ?v0x1) ?hi0x1 (by kernel_rfl) (by kernel_rfl) (by kernel_rfl) ?hq0x1 ?hy0x1 hHeld ?rest0x1
      case hi0x1 => ((try simp only [List.getElem?_toArray, List.getElem?_cons_succ, List.getElem?_cons_zero]); (try rfl))
      case hq0x1 => exact fun _ _ _ h => h
      case hy0x1 => exact Or.inl ⟨by rfl, by intro w hSw; clear hSw; go_simp; try with_reducible rfl⟩
      try simp only [Act.put, List.setIfInBounds_toArray, List.set_cons_zero, List.set_cons_succ]
      refine wpAnyH_take (i := 1) (oi := ?oi1x2) (v := ?v1x2) ?hi1x2 (by kernel_rfl) (by kernel_rfl) (by kernel_rfl) ?hq1x2 ?hy1x2 hHeld ?rest1x2
      case hi1x2 => ((try simp only [List.getElem?_toArray, List.getElem?_cons_succ, List.getElem?_cons_zero]); (try rfl))
      case hq1x2 => exact fun _ _ _ h => h
      case hy1x2 => exact Or.inl ⟨by rfl, by intro w hSw; clear hSw; go_simp; try with_reducible rfl⟩
      try simp only [Act.put, List.setIfInBounds_toArray, List.set_cons_zero, List.set_cons_succ]
      refine wpAnyH_take (i := 2) (oi := ?oi2x3) (v := ?v2x3) ?hi2x3 (by kernel_rfl) (by kernel_rfl) (by kernel_rfl) ?hq2x3 ?hy2x3 hHeld ?rest2x3
      case hi2x3 => ((try simp only [List.getElem?_toArray, List.getElem?_cons_succ, List.getElem?_cons_zero]); (try rfl))
      case hq2x3 => exact fun _ _ _ h => h
      case hy2x3 => exact Or.inl ⟨by rfl, by intro w hSw; clear hSw; go_simp; try with_reducible rfl⟩
      try simp only [Act.put, List.setIfInBounds_toArray, List.set_cons_zero, List.set_cons_succ]
      refine wpAnyH_take (i := 3) (oi := ?oi3x4) (v := ?v3x4) ?hi3x4 (by kernel_rfl) (by kernel_rfl) (by kernel_rfl) ?hq3x4 ?hy3x4 hHeld ?rest3x4
      case hi3x4 => ((try simp only [List.getElem?_toArray, List.getElem?_cons_succ, List.getElem?_cons_zero]); (try rfl))
      case hq3x4 => exact fun _ _ _ h => h
      case hy3x4 => exact Or.inl ⟨by rfl, by intro w hSw; clear hSw; go_simp; try with_reducible rfl⟩
      try simp only [Act.put, List.setIfInBounds_toArray, List.set_cons_zero, List.set_cons_succ]
      refine wpAnyH_take (i := 4) (oi := ?oi4x5) (v := ?v4x5) ?hi4x5 (by kernel_rfl) (by kernel_rfl) (by kernel_rfl) ?hq4x5 ?hy4x5 hHeld ?rest4x5
      case hi4x5 => ((try simp only [List.getElem?_toArray, List.getElem?_cons_succ, List.getElem?_cons_zero]); (try rfl))
      case hq4x5 => exact fun _ _ _ h => h
      case hy4x5 => exact Or.inl ⟨by rfl, by intro w hSw; clear hSw; go_simp; try with_reducible rfl⟩
      try simp only [Act.put, List.setIfInBounds_toArray, List.set_cons_zero, List.set_cons_succ]
      refine wpAnyH_take (i := 5) (oi := ?oi5x6) (v := ?v5x6) ?hi5x6 (by kernel_rfl) (by kernel_rfl) (by kernel_rfl) ?hq5x6 ?hy5x6 hHeld ?rest5x6
      case hi5x6 => ((try simp only [List.getElem?_toArray, List.getElem?_cons_succ, List.getElem?_cons_zero]); (try rfl))
      case hq5x6 => exact fun _ _ _ h => h
      case hy5x6 => exact Or.inl ⟨by rfl, by intro w hSw; clear hSw; go_simp; try with_reducible rfl⟩
      try simp only [Act.put, List.setIfInBounds_toArray, List.set_cons_zero, List.set_cons_succ]
      refine wpAnyH_take (i := 6) (oi := ?oi6x7) (v := ?v6x7) ?hi6x7 (by kernel_rfl) (by kernel_rfl) (by kernel_rfl) ?hq6x7 ?hy6x7 hHeld ?rest6x7
      case hi6x7 => ((try simp only [List.getElem?_toArray, List.getElem?_cons_succ, List.getElem?_cons_zero]); (try rfl))
      case hq6x7 => exact fun _ _ _ h => h
      case hy6x7 => exact Or.inl ⟨by rfl, by intro w hSw; clear hSw; go_simp; try with_reducible rfl⟩
      try simp only [Act.put, List.setIfInBounds_toArray, List.set_cons_zero, List.set_cons_succ]
      refine wpAnyH_take (i := 7) (oi := ?oi7x8) (v := ?v7x8) ?hi7x8 (by kernel_rfl) (by kernel_rfl) (by kernel_rfl) ?hq7x8 ?hy7x8 hHeld ?rest7x8
      case hi7x8 => ((try simp only [List.getElem?_toArray, List.getElem?_cons_succ, List.getElem?_cons_zero]); (try rfl))
      case hq7x8 => exact fun _ _ _ h => h
      case hy7x8 => exact Or.inl ⟨by rfl, by intro w hSw; clear hSw; go_simp; try with_reducible rfl⟩
      try simp only [Act.put, List.setIfInBounds_toArray, List.set_cons_zero, List.set_cons_succ]
      refine wpAnyH_take (i := 8) (oi := ?oi8x9) (v := ?v8x9) ?hi8x9 (by kernel_rfl) (by kernel_rfl) (by kernel_rfl) ?hq8x9 ?hy8x9 hHeld ?rest8x9
      case hi8x9 => ((try simp only [List.getElem?_toArray, List.getElem?_cons_succ, List.getElem?_cons_zero]); (try rfl))
      case hq8x9 => exact fun _ _ _ h => h
      case hy8x9 => exact Or.inl ⟨by rfl, by intro w hSw; clear hSw; go_simp; try with_reducible rfl⟩
      try simp only [Act.put, List.setIfInBounds_toArray, List.set_cons_zero, List.set_cons_succ]
      refine wpAnyH_take (i := 9) (oi := ?oi9x10) (v := ?v9x10) ?hi9x10 (by kernel_rfl) (by kernel_rfl) (by kernel_rfl) ?hq9x10 ?hy9x10 hHeld ?rest9x10
      case hi9x10 => ((try simp only [List.getElem?_toArray, List.getElem?_cons_succ, List.getElem?_cons_zero]); (try rfl))
      case hq9x10 => exact fun _ _ _ h => h
      case hy9x10 => exact Or.inl ⟨by rfl, by intro w hSw; clear hSw; go_simp; try with_reducible rfl⟩
      try simp only [Act.put, List.setIfInBounds_toArray, List.set_cons_zero, List.set_cons_succ]
      refine wpAnyH_take (i := 10) (oi := ?oi10x11) (v := ?v10x11) ?hi10x11 (by kernel_rfl) (by kernel_rfl) (by kernel_rfl) ?hq10x11 ?hy10x11 hHeld ?rest10x11
      case hi10x11 => ((try simp only [List.getElem?_toArray, List.getElem?_cons_succ, List.getElem?_cons_zero]); (try rfl))
      case hq10x11 => exact fun _ _ _ h => h
      case hy10x11 => exact Or.inl ⟨by rfl, by intro w hSw; clear hSw; go_simp; try with_reducible rfl⟩
      try simp only [Act.put, List.setIfInBounds_toArray, List.set_cons_zero, List.set_cons_succ]
      refine wpAnyH_take (i := 11) (oi := ?oi11x12) (v := ?v11x12) ?hi11x12 (by kernel_rfl) (by kernel_rfl) (by kernel_rfl) ?hq11x12 ?hy11x12 hHeld ?rest11x12
      case hi11x12 => ((try simp only [List.getElem?_toArray, List.getElem?_cons_succ, List.getElem?_cons_zero]); (try rfl))
      case hq11x12 => exact fun _ _ _ h => h
      case hy11x12 => exact Or.inl ⟨by rfl, by intro w hSw; clear hSw; go_simp; try with_reducible rfl⟩
      try simp only [Act.put, List.setIfInBounds_toArray, List.set_cons_zero, List.set_cons_succ]
      refine wpAnyH_take (i := 12) (oi := ?oi12x13) (v := ?v12x13) ?hi12x13 (by kernel_rfl) (by kernel_rfl) (by kernel_rfl) ?hq12x13 ?hy12x13 hHeld ?rest12x13
      case hi12x13 => ((try simp only [List.getElem?_toArray, List.getElem?_cons_succ, List.getElem?_cons_zero]); (try rfl))
      case hq12x13 => exact fun _ _ _ h => h
      case hy12x13 => exact Or.inl ⟨by rfl, by intro w hSw; clear hSw; go_simp; try with_reducible rfl⟩
      try simp only [Act.put, List.setIfInBounds_toArray, List.set_cons_zero, List.set_cons_succ]
      refine wpAnyH_take (i := 13) (oi := ?oi13x14) (v := ?v13x14) ?hi13x14 (by kernel_rfl) (by kernel_rfl) (by kernel_rfl) ?hq13x14 ?hy13x14 hHeld ?rest13x14
      case hi13x14 => ((try simp only [List.getElem?_toArray, List.getElem?_cons_succ, List.getElem?_cons_zero]); (try rfl))
      case hq13x14 => exact fun _ _ _ h => h
      case hy13x14 => exact Or.inl ⟨by rfl, by intro w hSw; clear hSw; go_simp; try with_reducible rfl⟩
      try simp only [Act.put, List.setIfInBounds_toArray, List.set_cons_zero, List.set_cons_succ]
      refine wpAnyH_take (i := 14) (oi := ?oi14x15) (v := ?v14x15) ?hi14x15 (by kernel_rfl) (by kernel_rfl) (by kernel_rfl) ?hq14x15 ?hy14x15 hHeld ?rest14x15
      case hi14x15 => ((try simp only [List.getElem?_toArray, List.getElem?_cons_succ, List.getElem?_cons_zero]); (try rfl))
      case hq14x15 => exact fun _ _ _ h => h
      case hy14x15 =>
        refine' yieldsIf_load_mid ?_ 33 (.tmp 133) ?_ be oe ?_ (obsC q) _ ?_ Tryz.underlying33 ?_ info8
        · rfl
        · rfl
        · rfl
        · exact fun _ h => h.re
        · rfl
      try simp only [Act.put, List.setIfInBounds_toArray, List.set_cons_zero, List.set_cons_succ]
      refine wpAnyH_take (i := 15) (oi := ?oi15x16) (v := ?v15x16) ?hi15x16 (by kernel_rfl) (by kernel_rfl) (by kernel_rfl) ?hq15x16 ?hy15x16 hHeld ?rest15x16
      case hi15x16 => ((try simp only [List.getElem?_toArray, List.getElem?_cons_succ, List.getElem?_cons_zero]); (try rfl))
      case hq15x16 => exact fun _ _ _ h => h
      case hy15x16 =>
        refine' yieldsIf_load_mid ?_ 33 (.tmp 16) ?_ bq 0 ?_ (obsC q) _ ?_ Tryz.underlying33 ?_ info8
        · rfl
        · rfl
        · rfl
        · exact fun _ h => h.q.row
        · rfl
      try simp only [Act.put, List.setIfInBounds_toArray, List.set_cons_zero, List.set_cons_succ]
      refine wpAnyH_take (i := 16) (oi := ?oi16x17) (v := ?v16x17) ?hi16x17 (by kernel_rfl) (by kernel_rfl) (by kernel_rfl) ?hq16x17 ?hy16x17 hHeld ?rest16x17
      case hi16x17 => ((try simp only [List.getElem?_toArray, List.getElem?_cons_succ, List.getElem?_cons_zero]); (try rfl))
      case hq16x17 => exact fun _ _ _ h => h
      case hy16x17 => exact Or.inl ⟨by rfl, by intro w hSw; clear hSw; go_simp; try with_reducible rfl⟩
      try simp only [Act.put, List.setIfInBounds_toArray, List.set_cons_zero, List.set_cons_succ]
      refine wpAnyH_take (i := 17) (oi := ?oi17x18) (v := ?v17x18) ?hi17x18 (by kernel_rfl) (by kernel_rfl) (by kernel_rfl) ?hq17x18 ?hy17x18 hHeld ?rest17x18
      case hi17x18 => ((try simp only [List.getElem?_toArray, List.getElem?_cons_succ, List.getElem?_cons_zero]); (try rfl))
      case hq17x18 => exact fun _ _ _ h => h
      case hy17x18 => exact Or.inl ⟨by rfl, by intro w hSw; clear hSw; go_simp; try with_reducible rfl⟩
      try simp only [Act.put, List.setIfInBounds_toArray, List.set_cons_zero, List.set_cons_succ]
      refine wpAnyH_done (by kernel_rfl) ?_ _
      clear hHeld EQ
      have OD := Lib.hid (OC.out.call (Below.refl _ _).drew)
      have ND := Lib.hid (fun j (hj : 8 ≤ j) => show wc.drew.cell? ⟨bq, j, none⟩ = none from ((Below.refl wc.heap.size wc).drew.cell (p := ⟨bq, j, none⟩) OC.out.q.lt).trans (NO.out j hj))
      have OL := Lib.hid OD.out.x.row
      clear OC NO
      obtain ⟨wd, hwd⟩ : ∃ v, wc.drew = v := ⟨_, rfl⟩
      rw [hwd] at OD OL ND
      try rw [hwd]
      clear hwd
      go_wp2_with (refine wpList_load_mid rfl _ (.tmp 3) rfl w.heap.size 0 rfl (obsC ⟨nm, st, tt, ra, dec, sg, mg, bd⟩) _ OL.out Tryz.underlying33 rfl info8 ?_)
      refine (FI.out _).mono ?_
      rintro e we ⟨T', bg, hT', rfl, lb, RF, hb⟩
      obtain ⟨rfl, _⟩ := HTT.out.uniq hT'
      rw [HFD.out] at RF
      have OE := Lib.hid (show O19 w ⟨nm, st, tt, ra, dec, sg, mg, bd⟩ bq q bg Fd we from ⟨OD.out.x.call hb, OD.out.q.call hb, RF, fun j hj => (hb.cell (p := ⟨bq, j, none⟩) OD.out.q.lt).trans (ND.out j hj)⟩)
      have bgq : bg ≠ bq := by have := OD.out.q.lt; omega
      clear hT' lb RF hb OD OL FI ND
      match Fd, fl, HFD, SZ, T2, OE with
      | [x0, x1, x2, x3, x4, x5, x6, x7], fl, HFD, SZ, T2, OE =>
      have s0 : x0.size ≤ 100 := SZ.out _ (by simp)
      have s1 : x1.size ≤ 100 := SZ.out _ (by simp)
      have s2 : x2.size ≤ 100 := SZ.out _ (by simp)
      have s3 : x3.size ≤ 100 := SZ.out _ (by simp)
      have s4 : x4.size ≤ 100 := SZ.out _ (by simp)
      have yh : (⟨#[110, 97, 109, 101, 124, 115, 116, 110, 124, 111, 98, 115, 84, 105, 109, 101, 124, 114, 97, 124, 100, 101, 99, 10]⟩ : ByteArray).size = 24 := rfl
      have yb : (⟨#[124]⟩ : ByteArray).size = 1 := rfl
      have yn : (⟨#[10]⟩ : ByteArray).size = 1 := rfl
      have y0 : ((⟨#[110, 97, 109, 101, 124, 115, 116, 110, 124, 111, 98, 115, 84, 105, 109, 101, 124, 114, 97, 124, 100, 101, 99, 10]⟩ : ByteArray) ++ x0).size ≤ 130 := by rw [ByteArray.size_append]; omega
      have y1 : (((⟨#[110, 97, 109, 101, 124, 115, 116, 110, 124, 111, 98, 115, 84, 105, 109, 101, 124, 114, 97, 124, 100, 101, 99, 10]⟩ : ByteArray) ++ x0) ++ (⟨#[124]⟩ : ByteArray)).size ≤ 240 := by rw [ByteArray.size_append]; omega
      have y2 : ((((⟨#[110, 97, 109, 101, 124, 115, 116, 110, 124, 111, 98, 115, 84, 105, 109, 101, 124, 114, 97, 124, 100, 101, 99, 10]⟩ : ByteArray) ++ x0) ++ (⟨#[124]⟩ : ByteArray)) ++ x1).size ≤ 350 := by rw [ByteArray.size_append]; omega
      have y3 : (((((⟨#[110, 97, 109, 101, 124, 115, 116, 110, 124, 111, 98, 115, 84, 105, 109, 101, 124, 114, 97, 124, 100, 101, 99, 10]⟩ : ByteArray) ++ x0) ++ (⟨#[124]⟩ : ByteArray)) ++ x1) ++ (⟨#[124]⟩ : ByteArray)).size ≤ 460 := by rw [ByteArray.size_append]; omega
      have y4 : ((((((⟨#[110, 97, 109, 101, 124, 115, 116, 110, 124, 111, 98, 115, 84, 105, 109, 101, 124, 114, 97, 124, 100, 101, 99, 10]⟩ : ByteArray) ++ x0) ++ (⟨#[124]⟩ : ByteArray)) ++ x1) ++ (⟨#[124]⟩ : ByteArray)) ++ x2).size ≤ 570 := by rw [ByteArray.size_append]; omega
      have y5 : (((((((⟨#[110, 97, 109, 101, 124, 115, 116, 110, 124, 111, 98, 115, 84, 105, 109, 101, 124, 114, 97, 124, 100, 101, 99, 10]⟩ : ByteArray) ++ x0) ++ (⟨#[124]⟩ : ByteArray)) ++ x1) ++ (⟨#[124]⟩ : ByteArray)) ++ x2) ++ (⟨#[124]⟩ : ByteArray)).size ≤ 680 := by rw [ByteArray.size_append]; omega
      have y6 : ((((((((⟨#[110, 97, 109, 101, 124, 115, 116, 110, 124, 111, 98, 115, 84, 105, 109, 101, 124, 114, 97, 124, 100, 101, 99, 10]⟩ : ByteArray) ++ x0) ++ (⟨#[124]⟩ : ByteArray)) ++ x1) ++ (⟨#[124]⟩ : ByteArray)) ++ x2) ++ (⟨#[124]⟩ : ByteArray)) ++ x3).size ≤ 790 := by rw [ByteArray.size_append]; omega
      have y7 : (((((((((⟨#[110, 97, 109, 101, 124, 115, 116, 110, 124, 111, 98, 115, 84, 105, 109, 101, 124, 114, 97, 124, 100, 101, 99, 10]⟩ : ByteArray) ++ x0) ++ (⟨#[124]⟩ : ByteArray)) ++ x1) ++ (⟨#[124]⟩ : ByteArray)) ++ x2) ++ (⟨#[124]⟩ : ByteArray)) ++ x3) ++ (⟨#[124]⟩ : ByteArray)).size ≤ 900 := by rw [ByteArray.size_append]; omega
      have y8 : ((((((((((⟨#[110, 97, 109, 101, 124, 115, 116, 110, 124, 111, 98, 115, 84, 105, 109, 101, 124, 114, 97, 124, 100, 101, 99, 10]⟩ : ByteArray) ++ x0) ++ (⟨#[124]⟩ : ByteArray)) ++ x1) ++ (⟨#[124]⟩ : ByteArray)) ++ x2) ++ (⟨#[124]⟩ : ByteArray)) ++ x3) ++ (⟨#[124]⟩ : ByteArray)) ++ x4).size ≤ 1010 := by rw [ByteArray.size_append]; omega
      have y9 : (((((((((((⟨#[110, 97, 109, 101, 124, 115, 116, 110, 124, 111, 98, 115, 84, 105, 109, 101, 124, 114, 97, 124, 100, 101, 99, 10]⟩ : ByteArray) ++ x0) ++ (⟨#[124]⟩ : ByteArray)) ++ x1) ++ (⟨#[124]⟩ : ByteArray)) ++ x2) ++ (⟨#[124]⟩ : ByteArray)) ++ x3) ++ (⟨#[124]⟩ : ByteArray)) ++ x4) ++ (⟨#[10]⟩ : ByteArray)).size ≤ 1120 := by rw [ByteArray.size_append]; omega
      obtain ⟨p1, p2⟩ := T2.out _ (five_str x0 x1 x2 x3 x4)
      have PA := Lib.hid (fun w' (h : Below w.heap.size w w') => vparse_any (((((((((((⟨#[110, 97, 109, 101, 124, 115, 116, 110, 124, 111, 98, 115, 84, 105, 109, 101, 124, 114, 97, 124, 100, 101, 99, 10]⟩ : ByteArray) ++ x0) ++ (⟨#[124]⟩ : ByteArray)) ++ x1) ++ (⟨#[124]⟩ : ByteArray)) ++ x2) ++ (⟨#[124]⟩ : ByteArray)) ++ x3) ++ (⟨#[124]⟩ : ByteArray)) ++ x4) ++ (⟨#[10]⟩ : ByteArray)) w' (HEw.out.below h) (HMw.out.below h) (by omega) p2)
      have PS := Lib.hid p1
      have X := Lib.hid (OE.out.call (Below.refl _ _).drew)
      clear p1 p2 T2 SZ OE HFD
      go_upto_region 19 with fail
      refine wp_region_held_drew (S := fun wx => O19 w ⟨nm, st, tt, ra, dec, sg, mg, bd⟩ bq q bg [x0, x1, x2, x3, x4, x5, x6, x7] wx) (by kernel_rfl) X.out (fun hHeld => ?_)
      refine wpAnyH_take (i := 0) (oi := ?oi0x19) (v := ?v0x19) ?hi0x19 (by kernel_rfl) (by kernel_rfl) (by kernel_rfl) ?hq0x19 ?hy0x19 hHeld ?rest0x19
      case hi0x19 => ((try simp only [List.getElem?_toArray, List.getElem?_cons_succ, List.getElem?_cons_zero]); (try rfl))
      case hq0x19 => exact fun _ _ _ h => h
      case hy0x19 => exact Or.inl ⟨by rfl, by intro w hSw; clear hSw; go_simp; try with_reducible rfl⟩
      try simp only [Act.put, List.setIfInBounds_toArray, List.set_cons_zero, List.set_cons_succ]
      refine wpAnyH_take (i := 1) (oi := ?oi1x20) (v := ?v1x20) ?hi1x20 (by kernel_rfl) (by kernel_rfl) (by kernel_rfl) ?hq1x20 ?hy1x20 hHeld ?rest1x20
      case hi1x20 => ((try simp only [List.getElem?_toArray, List.getElem?_cons_succ, List.getElem?_cons_zero]); (try rfl))
      case hq1x20 => exact fun _ _ _ h => h
      case hy1x20 => exact Or.inl ⟨by rfl, by intro w hSw; clear hSw; go_simp; try with_reducible rfl⟩
      try simp only [Act.put, List.setIfInBounds_toArray, List.set_cons_zero, List.set_cons_succ]
      refine wpAnyH_take (i := 2) (oi := ?oi2x21) (v := ?v2x21) ?hi2x21 (by kernel_rfl) (by kernel_rfl) (by kernel_rfl) ?hq2x21 ?hy2x21 hHeld ?rest2x21
      case hi2x21 => ((try simp only [List.getElem?_toArray, List.getElem?_cons_succ, List.getElem?_cons_zero]); (try rfl))
      case hq2x21 => exact fun _ _ _ h => h
      case hy2x21 => exact Or.inl ⟨by rfl, by intro w hSw; have q := hSw.f.cell (j := 0) (v := _) rfl; clear hSw; go_simp; try with_reducible rfl⟩
      try simp only [Act.put, List.setIfInBounds_toArray, List.set_cons_zero, List.set_cons_succ]
      refine wpAnyH_take (i := 3) (oi := ?oi3x22) (v := ?v3x22) ?hi3x22 (by kernel_rfl) (by kernel_rfl) (by kernel_rfl) ?hq3x22 ?hy3x22 hHeld ?rest3x22
      case hi3x22 => ((try simp only [List.getElem?_toArray, List.getElem?_cons_succ, List.getElem?_cons_zero]); (try rfl))
      case hq3x22 => exact fun _ _ _ h => h
      case hy3x22 => exact Or.inl ⟨by rfl, by intro w hSw; clear hSw; go_simp; rw [if_neg (by omega)]; try with_reducible rfl⟩
      try simp only [Act.put, List.setIfInBounds_toArray, List.set_cons_zero, List.set_cons_succ]
      refine wpAnyH_take (i := 4) (oi := ?oi4x23) (v := ?v4x23) ?hi4x23 (by kernel_rfl) (by kernel_rfl) (by kernel_rfl) ?hq4x23 ?hy4x23 hHeld ?rest4x23
      case hi4x23 => ((try simp only [List.getElem?_toArray, List.getElem?_cons_succ, List.getElem?_cons_zero]); (try rfl))
      case hq4x23 => exact fun _ _ _ h => h
      case hy4x23 => exact Or.inl ⟨by rfl, by intro w hSw; clear hSw; go_simp; rw [if_neg (by omega)]; try with_reducible rfl⟩
      try simp only [Act.put, List.setIfInBounds_toArray, List.set_cons_zero, List.set_cons_succ]
      refine wpAnyH_take (i := 5) (oi := ?oi5x24) (v := ?v5x24) ?hi5x24 (by kernel_rfl) (by kernel_rfl) (by kernel_rfl) ?hq5x24 ?hy5x24 hHeld ?rest5x24
      case hi5x24 => ((try simp only [List.getElem?_toArray, List.getElem?_cons_succ, List.getElem?_cons_zero]); (try rfl))
      case hq5x24 => exact fun _ _ _ h => h
      case hy5x24 => exact Or.inl ⟨by rfl, by intro w hSw; clear hSw; go_simp; try with_reducible rfl⟩
      try simp only [Act.put, List.setIfInBounds_toArray, List.set_cons_zero, List.set_cons_succ]
      refine wpAnyH_take (i := 6) (oi := ?oi6x25) (v := ?v6x25) ?hi6x25 (by kernel_rfl) (by kernel_rfl) (by kernel_rfl) ?hq6x25 ?hy6x25 hHeld ?rest6x25
      case hi6x25 => ((try simp only [List.getElem?_toArray, List.getElem?_cons_succ, List.getElem?_cons_zero]); (try rfl))
      case hq6x25 => exact fun _ _ _ h => h
      case hy6x25 => exact Or.inl ⟨by rfl, by intro w hSw; clear hSw; go_simp; try with_reducible rfl⟩
      try simp only [Act.put, List.setIfInBounds_toArray, List.set_cons_zero, List.set_cons_succ]
      refine wpAnyH_take (i := 7) (oi := ?oi7x26) (v := ?v7x26) ?hi7x26 (by kernel_rfl) (by kernel_rfl) (by kernel_rfl) ?hq7x26 ?hy7x26 hHeld ?rest7x26
      case hi7x26 => ((try simp only [List.getElem?_toArray, List.getElem?_cons_succ, List.getElem?_cons_zero]); (try rfl))
      case hq7x26 => exact fun _ _ _ h => h
      case hy7x26 => exact Or.inl ⟨by rfl, by intro w hSw; have q := hSw.f.cell (j := 1) (v := _) rfl; clear hSw; go_simp; try with_reducible rfl⟩
      try simp only [Act.put, List.setIfInBounds_toArray, List.set_cons_zero, List.set_cons_succ]
      refine wpAnyH_take (i := 8) (oi := ?oi8x27) (v := ?v8x27) ?hi8x27 (by kernel_rfl) (by kernel_rfl) (by kernel_rfl) ?hq8x27 ?hy8x27 hHeld ?rest8x27
      case hi8x27 => ((try simp only [List.getElem?_toArray, List.getElem?_cons_succ, List.getElem?_cons_zero]); (try rfl))
      case hq8x27 => exact fun _ _ _ h => h
      case hy8x27 => exact Or.inl ⟨by rfl, by intro w hSw; clear hSw; go_simp; rw [if_neg (by omega)]; try with_reducible rfl⟩
      try simp only [Act.put, List.setIfInBounds_toArray, List.set_cons_zero, List.set_cons_succ]
      refine wpAnyH_take (i := 9) (oi := ?oi9x28) (v := ?v9x28) ?hi9x28 (by kernel_rfl) (by kernel_rfl) (by kernel_rfl) ?hq9x28 ?hy9x28 hHeld ?rest9x28
      case hi9x28 => ((try simp only [List.getElem?_toArray, List.getElem?_cons_succ, List.getElem?_cons_zero]); (try rfl))
      case hq9x28 => exact fun _ _ _ h => h
      case hy9x28 => exact Or.inl ⟨by rfl, by intro w hSw; clear hSw; go_simp; rw [if_neg (by omega)]; try with_reducible rfl⟩
      try simp only [Act.put, List.setIfInBounds_toArray, List.set_cons_zero, List.set_cons_succ]
      refine wpAnyH_take (i := 10) (oi := ?oi10x29) (v := ?v10x29) ?hi10x29 (by kernel_rfl) (by kernel_rfl) (by kernel_rfl) ?hq10x29 ?hy10x29 hHeld ?rest10x29
      case hi10x29 => ((try simp only [List.getElem?_toArray, List.getElem?_cons_succ, List.getElem?_cons_zero]); (try rfl))
      case hq10x29 => exact fun _ _ _ h => h
      case hy10x29 => exact Or.inl ⟨by rfl, by intro w hSw; clear hSw; go_simp; try with_reducible rfl⟩
      try simp only [Act.put, List.setIfInBounds_toArray, List.set_cons_zero, List.set_cons_succ]
      refine wpAnyH_take (i := 11) (oi := ?oi11x30) (v := ?v11x30) ?hi11x30 (by kernel_rfl) (by kernel_rfl) (by kernel_rfl) ?hq11x30 ?hy11x30 hHeld ?rest11x30
      case hi11x30 => ((try simp only [List.getElem?_toArray, List.getElem?_cons_succ, List.getElem?_cons_zero]); (try rfl))
      case hq11x30 => exact fun _ _ _ h => h
      case hy11x30 => exact Or.inl ⟨by rfl, by intro w hSw; clear hSw; go_simp; try with_reducible rfl⟩
      try simp only [Act.put, List.setIfInBounds_toArray, List.set_cons_zero, List.set_cons_succ]
      refine wpAnyH_take (i := 12) (oi := ?oi12x31) (v := ?v12x31) ?hi12x31 (by kernel_rfl) (by kernel_rfl) (by kernel_rfl) ?hq12x31 ?hy12x31 hHeld ?rest12x31
      case hi12x31 => ((try simp only [List.getElem?_toArray, List.getElem?_cons_succ, List.getElem?_cons_zero]); (try rfl))
      case hq12x31 => exact fun _ _ _ h => h
      case hy12x31 => exact Or.inl ⟨by rfl, by intro w hSw; have q := hSw.f.cell (j := 2) (v := _) rfl; clear hSw; go_simp; try with_reducible rfl⟩
      try simp only [Act.put, List.setIfInBounds_toArray, List.set_cons_zero, List.set_cons_succ]
      refine wpAnyH_take (i := 13) (oi := ?oi13x32) (v := ?v13x32) ?hi13x32 (by kernel_rfl) (by kernel_rfl) (by kernel_rfl) ?hq13x32 ?hy13x32 hHeld ?rest13x32
      case hi13x32 => ((try simp only [List.getElem?_toArray, List.getElem?_cons_succ, List.getElem?_cons_zero]); (try rfl))
      case hq13x32 => exact fun _ _ _ h => h
      case hy13x32 => exact Or.inl ⟨by rfl, by intro w hSw; clear hSw; go_simp; rw [if_neg (by omega)]; try with_reducible rfl⟩
      try simp only [Act.put, List.setIfInBounds_toArray, List.set_cons_zero, List.set_cons_succ]
      refine wpAnyH_take (i := 14) (oi := ?oi14x33) (v := ?v14x33) ?hi14x33 (by kernel_rfl) (by kernel_rfl) (by kernel_rfl) ?hq14x33 ?hy14x33 hHeld ?rest14x33
      case hi14x33 => ((try simp only [List.getElem?_toArray, List.getElem?_cons_succ, List.getElem?_cons_zero]); (try rfl))
      case hq14x33 => exact fun _ _ _ h => h
      case hy14x33 => exact Or.inl ⟨by rfl, by intro w hSw; clear hSw; go_simp; rw [if_neg (by omega)]; try with_reducible rfl⟩
      try simp only [Act.put, List.setIfInBounds_toArray, List.set_cons_zero, List.set_cons_succ]
      refine wpAnyH_take (i := 15) (oi := ?oi15x34) (v := ?v15x34) ?hi15x34 (by kernel_rfl) (by kernel_rfl) (by kernel_rfl) ?hq15x34 ?hy15x34 hHeld ?rest15x34
      case hi15x34 => ((try simp only [List.getElem?_toArray, List.getElem?_cons_succ, List.getElem?_cons_zero]); (try rfl))
      case hq15x34 => exact fun _ _ _ h => h
      case hy15x34 => exact Or.inl ⟨by rfl, by intro w hSw; clear hSw; go_simp; try with_reducible rfl⟩
      try simp only [Act.put, List.setIfInBounds_toArray, List.set_cons_zero, List.set_cons_succ]
      refine wpAnyH_take (i := 16) (oi := ?oi16x35) (v := ?v16x35) ?hi16x35 (by kernel_rfl) (by kernel_rfl) (by kernel_rfl) ?hq16x35 ?hy16x35 hHeld ?rest16x35
      case hi16x35 => ((try simp only [List.getElem?_toArray, List.getElem?_cons_succ, List.getElem?_cons_zero]); (try rfl))
      case hq16x35 => exact fun _ _ _ h => h
      case hy16x35 => exact Or.inl ⟨by rfl, by intro w hSw; clear hSw; go_simp; try with_reducible rfl⟩
      try simp only [Act.put, List.setIfInBounds_toArray, List.set_cons_zero, List.set_cons_succ]
      refine wpAnyH_take (i := 17) (oi := ?oi17x36) (v := ?v17x36) ?hi17x36 (by kernel_rfl) (by kernel_rfl) (by kernel_rfl) ?hq17x36 ?hy17x36 hHeld ?rest17x36
      case hi17x36 => ((try simp only [List.getElem?_toArray, List.getElem?_cons_succ, List.getElem?_cons_zero]); (try rfl))
      case hq17x36 => exact fun _ _ _ h => h
      case hy17x36 => exact Or.inl ⟨by rfl, by intro w hSw; have q := hSw.f.cell (j := 3) (v := _) rfl; clear hSw; go_simp; try with_reducible rfl⟩
      try simp only [Act.put, List.setIfInBounds_toArray, List.set_cons_zero, List.set_cons_succ]
      refine wpAnyH_take (i := 18) (oi := ?oi18x37) (v := ?v18x37) ?hi18x37 (by kernel_rfl) (by kernel_rfl) (by kernel_rfl) ?hq18x37 ?hy18x37 hHeld ?rest18x37
      case hi18x37 => ((try simp only [List.getElem?_toArray, List.getElem?_cons_succ, List.getElem?_cons_zero]); (try rfl))
      case hq18x37 => exact fun _ _ _ h => h
      case hy18x37 => exact Or.inl ⟨by rfl, by intro w hSw; clear hSw; go_simp; rw [if_neg (by omega)]; try with_reducible rfl⟩
      try simp only [Act.put, List.setIfInBounds_toArray, List.set_cons_zero, List.set_cons_succ]
      refine wpAnyH_take (i := 19) (oi := ?oi19x38) (v := ?v19x38) ?hi19x38 (by kernel_rfl) (by kernel_rfl) (by kernel_rfl) ?hq19x38 ?hy19x38 hHeld ?rest19x38
      case hi19x38 => ((try simp only [List.getElem?_toArray, List.getElem?_cons_succ, List.getElem?_cons_zero]); (try rfl))
      case hq19x38 => exact fun _ _ _ h => h
      case hy19x38 => exact Or.inl ⟨by rfl, by intro w hSw; clear hSw; go_simp; rw [if_neg (by omega)]; try with_reducible rfl⟩
      try simp only [Act.put, List.setIfInBounds_toArray, List.set_cons_zero, List.set_cons_succ]
      refine wpAnyH_take (i := 20) (oi := ?oi20x39) (v := ?v20x39) ?hi20x39 (by kernel_rfl) (by kernel_rfl) (by kernel_rfl) ?hq20x39 ?hy20x39 hHeld ?rest20x39
      case hi20x39 => ((try simp only [List.getElem?_toArray, List.getElem?_cons_succ, List.getElem?_cons_zero]); (try rfl))
      case hq20x39 => exact fun _ _ _ h => h
      case hy20x39 => exact Or.inl ⟨by rfl, by intro w hSw; clear hSw; go_simp; try with_reducible rfl⟩
      try simp only [Act.put, List.setIfInBounds_toArray, List.set_cons_zero, List.set_cons_succ]
      refine wpAnyH_take (i := 21) (oi := ?oi21x40) (v := ?v21x40) ?hi21x40 (by kernel_rfl) (by kernel_rfl) (by kernel_rfl) ?hq21x40 ?hy21x40 hHeld ?rest21x40
      case hi21x40 => ((try simp only [List.getElem?_toArray, List.getElem?_cons_succ, List.getElem?_cons_zero]); (try rfl))
      case hq21x40 => exact fun _ _ _ h => h
      case hy21x40 => exact Or.inl ⟨by rfl, by intro w hSw; clear hSw; go_simp; try with_reducible rfl⟩
      try simp only [Act.put, List.setIfInBounds_toArray, List.set_cons_zero, List.set_cons_succ]
      refine wpAnyH_take (i := 22) (oi := ?oi22x41) (v := ?v22x41) ?hi22x41 (by kernel_rfl) (by kernel_rfl) (by kernel_rfl) ?hq22x41 ?hy22x41 hHeld ?rest22x41
      case hi22x41 => ((try simp only [List.getElem?_toArray, List.getElem?_cons_succ, List.getElem?_cons_zero]); (try rfl))
      case hq22x41 => exact fun _ _ _ h => h
      case hy22x41 => exact Or.inl ⟨by rfl, by intro w hSw; have q := hSw.f.cell (j := 4) (v := _) rfl; clear hSw; go_simp; try with_reducible rfl⟩
      try simp only [Act.put, List.setIfInBounds_toArray, List.set_cons_zero, List.set_cons_succ]
      refine wpAnyH_take (i := 23) (oi := ?oi23x42) (v := ?v23x42) ?hi23x42 (by kernel_rfl) (by kernel_rfl) (by kernel_rfl) ?hq23x42 ?hy23x42 hHeld ?rest23x42
      case hi23x42 => ((try simp only [List.getElem?_toArray, List.getElem?_cons_succ, List.getElem?_cons_zero]); (try rfl))
      case hq23x42 => exact fun _ _ _ h => h
      case hy23x42 => exact Or.inl ⟨by rfl, by intro w hSw; clear hSw; go_simp; rw [if_neg (by omega)]; try with_reducible rfl⟩
      try simp only [Act.put, List.setIfInBounds_toArray, List.set_cons_zero, List.set_cons_succ]
      refine wpAnyH_take (i := 24) (oi := ?oi24x43) (v := ?v24x43) ?hi24x43 (by kernel_rfl) (by kernel_rfl) (by kernel_rfl) ?hq24x43 ?hy24x43 hHeld ?rest24x43
      case hi24x43 => ((try simp only [List.getElem?_toArray, List.getElem?_cons_succ, List.getElem?_cons_zero]); (try rfl))
      case hq24x43 => exact fun _ _ _ h => h
      case hy24x43 => exact Or.inl ⟨by rfl, by intro w hSw; clear hSw; go_simp; rw [if_neg (by omega)]; try with_reducible rfl⟩
      try simp only [Act.put, List.setIfInBounds_toArray, List.set_cons_zero, List.set_cons_succ]
      refine wpAnyH_ready (rs := [25]) (by kernel_rfl) (by simp) ?_
      refine AllReadyH.cons rfl (fun K' hK => ?_) AllReadyH.nil
      clear hHeld
      go_simp
      refine (PA.out _ X.out.x.below).mono ?_
      rintro e wx ⟨v1, d1, n1, m1, c1, rfl, hP, hv, hd, hb⟩
      obtain ⟨rfl, rfl, rfl⟩ := PS.out.uniq hP
      obtain ⟨yn1, cn1, rfl, _⟩ := hv
      obtain ⟨yo, co1, rfl, hyo⟩ := hd
      replace X := Lib.hid (X.out.call hb)
      obtain ⟨be2, oe2, rfl, le2, row2⟩ := hyo.get (i := 0) (by simp)
      have RE2 := Lib.hid (show wx.rangeAt be2 (oe2 + 0) (obsC (bareO q)) from row2 0 (by simp))
      have LE2 := Lib.hid le2
      clear hP hb PS PA hyo row2 le2
      refine hK.out _ _ X.out (fun hHeld => ?_)
      clear hK
      try simp only [Act.put, List.setIfInBounds_toArray, List.set_cons_zero, List.set_cons_succ]
      refine wpAnyH_take (i := 26) (oi := ?oi26x44) (v := ?v26x44) ?hi26x44 (by kernel_rfl) (by kernel_rfl) (by kernel_rfl) ?hq26x44 ?hy26x44 hHeld ?rest26x44
      case hi26x44 => ((try simp only [List.getElem?_toArray, List.getElem?_cons_succ, List.getElem?_cons_zero]); (try rfl))
      case hq26x44 => exact fun _ _ _ h => h
      case hy26x44 => exact Or.inl ⟨by rfl, by intro w hSw; clear hSw; go_simp; try with_reducible rfl⟩
      try simp only [Act.put, List.setIfInBounds_toArray, List.set_cons_zero, List.set_cons_succ]
      refine wpAnyH_take (i := 27) (oi := ?oi27x45) (v := ?v27x45) ?hi27x45 (by kernel_rfl) (by kernel_rfl) (by kernel_rfl) ?hq27x45 ?hy27x45 hHeld ?rest27x45
      case hi27x45 => ((try simp only [List.getElem?_toArray, List.getElem?_cons_succ, List.getElem?_cons_zero]); (try rfl))
      case hq27x45 => exact fun _ _ _ h => h
      case hy27x45 => exact Or.inl ⟨by rfl, by intro w hSw; clear hSw; go_simp; try with_reducible rfl⟩
      try simp only [Act.put, List.setIfInBounds_toArray, List.set_cons_zero, List.set_cons_succ]
      refine wpAnyH_take (i := 28) (oi := ?oi28x46) (v := ?v28x46) ?hi28x46 (by kernel_rfl) (by kernel_rfl) (by kernel_rfl) ?hq28x46 ?hy28x46 hHeld ?rest28x46
      case hi28x46 => ((try simp only [List.getElem?_toArray, List.getElem?_cons_succ, List.getElem?_cons_zero]); (try rfl))
      case hq28x46 => exact fun _ _ _ h => h
      case hy28x46 => exact Or.inl ⟨by rfl, by intro w hSw; clear hSw; go_simp; try with_reducible rfl⟩
      try simp only [Act.put, List.setIfInBounds_toArray, List.set_cons_zero, List.set_cons_succ]
      refine wpAnyH_take (i := 29) (oi := ?oi29x47) (v := ?v29x47) ?hi29x47 (by kernel_rfl) (by kernel_rfl) (by kernel_rfl) ?hq29x47 ?hy29x47 hHeld ?rest29x47
      case hi29x47 => ((try simp only [List.getElem?_toArray, List.getElem?_cons_succ, List.getElem?_cons_zero]); (try rfl))
      case hq29x47 => exact fun _ _ _ h => h
      case hy29x47 => exact Or.inl ⟨by rfl, by intro w hSw; clear hSw; go_simp; try with_reducible rfl⟩
      try simp only [Act.put, List.setIfInBounds_toArray, List.set_cons_zero, List.set_cons_succ]
      refine wpAnyH_take (i := 30) (oi := ?oi30x48) (v := ?v30x48) ?hi30x48 (by kernel_rfl) (by kernel_rfl) (by kernel_rfl) ?hq30x48 ?hy30x48 hHeld ?rest30x48
      case hi30x48 => ((try simp only [List.getElem?_toArray, List.getElem?_cons_succ, List.getElem?_cons_zero]); (try rfl))
      case hq30x48 => exact fun _ _ _ h => h
      case hy30x48 => exact Or.inl ⟨by rfl, by intro w hSw; clear hSw; go_simp; try with_reducible rfl⟩
      try simp only [Act.put, List.setIfInBounds_toArray, List.set_cons_zero, List.set_cons_succ]
      refine wpAnyH_take (i := 31) (oi := ?oi31x49) (v := ?v31x49) ?hi31x49 (by kernel_rfl) (by kernel_rfl) (by kernel_rfl) ?hq31x49 ?hy31x49 hHeld ?rest31x49
      case hi31x49 => ((try simp only [List.getElem?_toArray, List.getElem?_cons_succ, List.getElem?_cons_zero]); (try rfl))
      case hq31x49 => exact fun _ _ _ h => h
      case hy31x49 => exact Or.inl ⟨by rfl, by intro w hSw; clear hSw; go_simp; try with_reducible rfl⟩
      try simp only [Act.put, List.setIfInBounds_toArray, List.set_cons_zero, List.set_cons_succ]
      refine wpAnyH_take (i := 32) (oi := ?oi32x50) (v := ?v32x50) ?hi32x50 (by kernel_rfl) (by kernel_rfl) (by kernel_rfl) ?hq32x50 ?hy32x50 hHeld ?rest32x50
      case hi32x50 => ((try simp only [List.getElem?_toArray, List.getElem?_cons_succ, List.getElem?_cons_zero]); (try rfl))
      case hq32x50 => exact fun _ _ _ h => h
      case hy32x50 => exact Or.inl ⟨by rfl, by intro w hSw; clear hSw; go_simp; try with_reducible rfl⟩
      try simp only [Act.put, List.setIfInBounds_toArray, List.set_cons_zero, List.set_cons_succ]
      refine wpAnyH_done (by kernel_rfl) ?_ _
      clear hHeld
      have q5 := X.out.q.cell (j := 5) (v := _) rfl
      have q6 := X.out.q.cell (j := 6) (v := _) rfl
      have q7 := X.out.q.cell (j := 7) (v := _) rfl
      have f5 : wx.frozen? ⟨bq, 5, none⟩ = false := X.out.q.free (by show 5 < 8; omega)
      have f6 : wx.frozen? ⟨bq, 6, none⟩ = false := X.out.q.free (by show 6 < 8; omega)
      have f7 : wx.frozen? ⟨bq, 7, none⟩ = false := X.out.q.free (by show 7 < 8; omega)
      have OB := Lib.hid (X.out.bare lq (show wx.rangeAt be2 oe2 (obsC (bareO q)) from RE2.out) LE2.out)
      clear X RE2 LE2
      go_upto_region 21 with fail
      obtain ⟨z, hz⟩ : ∃ z, bareO q = z := ⟨_, rfl⟩
      obtain ⟨wf, hwf⟩ : ∃ v, ((wx.setCell ⟨bq, 5, none⟩ (.int .i64 1000000)).setCell ⟨bq, 6, none⟩ (.int .i64 9999)).setCell ⟨bq, 7, none⟩ (.int .u8 32) = v := ⟨_, rfl⟩
      rw [hz, hwf] at OB
      try rw [hwf]
      clear hz hwf q5 q6 q7 f5 f6 f7
      have EQ : ∀ w', (Go.Op.equalIn 10000 33 (.agg #[.string z.name, .string z.site, .int .i64 z.t, .int .i64 z.ra, .int .i64 z.dec, .int .i64 z.sg, .int .i64 z.mag, .int .u8 z.band]) (.agg #[.string z.name, .string z.site, .int .i64 z.t, .int .i64 z.ra, .int .i64 z.dec, .int .i64 z.sg, .int .i64 z.mag, .int .u8 z.band])).run Tryz.prog w' = .ok true w' := fun w' => by
        have := obs_eql z z w'
        rw [decide_eq_true rfl] at this
        exact this
      refine wp_region_held_drew (S := fun wx => O16 w ⟨nm, st, tt, ra, dec, sg, mg, bd⟩ bq z be2 oe2 z wx) (by kernel_rfl) (OB.out.call (Below.refl _ _).drew) (fun hHeld => ?_)
      refine wpAnyH_take (i := 0) (oi := ?oi0x51) (v := ?v0x51) ?hi0x51 (by kernel_rfl) (by kernel_rfl) (by kernel_rfl) ?hq0x51 ?hy0x51 hHeld ?rest0x51
      case hi0x51 => ((try simp only [List.getElem?_toArray, List.getElem?_cons_succ, List.getElem?_cons_zero]); (try rfl))
      case hq0x51 => exact fun _ _ _ h => h
      case hy0x51 => exact Or.inl ⟨by rfl, by intro w hSw; clear hSw; go_simp; try with_reducible rfl⟩
      try simp only [Act.put, List.setIfInBounds_toArray, List.set_cons_zero, List.set_cons_succ]
      refine wpAnyH_take (i := 1) (oi := ?oi1x52) (v := ?v1x52) ?hi1x52 (by kernel_rfl) (by kernel_rfl) (by kernel_rfl) ?hq1x52 ?hy1x52 hHeld ?rest1x52
      case hi1x52 => ((try simp only [List.getElem?_toArray, List.getElem?_cons_succ, List.getElem?_cons_zero]); (try rfl))
      case hq1x52 => exact fun _ _ _ h => h
      case hy1x52 => exact Or.inl ⟨by rfl, by intro w hSw; clear hSw; go_simp; try with_reducible rfl⟩
      try simp only [Act.put, List.setIfInBounds_toArray, List.set_cons_zero, List.set_cons_succ]
      refine wpAnyH_take (i := 2) (oi := ?oi2x53) (v := ?v2x53) ?hi2x53 (by kernel_rfl) (by kernel_rfl) (by kernel_rfl) ?hq2x53 ?hy2x53 hHeld ?rest2x53
      case hi2x53 => ((try simp only [List.getElem?_toArray, List.getElem?_cons_succ, List.getElem?_cons_zero]); (try rfl))
      case hq2x53 => exact fun _ _ _ h => h
      case hy2x53 => exact Or.inl ⟨by rfl, by intro w hSw; clear hSw; go_simp; try with_reducible rfl⟩
      try simp only [Act.put, List.setIfInBounds_toArray, List.set_cons_zero, List.set_cons_succ]
      refine wpAnyH_take (i := 3) (oi := ?oi3x54) (v := ?v3x54) ?hi3x54 (by kernel_rfl) (by kernel_rfl) (by kernel_rfl) ?hq3x54 ?hy3x54 hHeld ?rest3x54
      case hi3x54 => ((try simp only [List.getElem?_toArray, List.getElem?_cons_succ, List.getElem?_cons_zero]); (try rfl))
      case hq3x54 => exact fun _ _ _ h => h
      case hy3x54 => exact Or.inl ⟨by rfl, by intro w hSw; clear hSw; go_simp; try with_reducible rfl⟩
      try simp only [Act.put, List.setIfInBounds_toArray, List.set_cons_zero, List.set_cons_succ]
      refine wpAnyH_take (i := 4) (oi := ?oi4x55) (v := ?v4x55) ?hi4x55 (by kernel_rfl) (by kernel_rfl) (by kernel_rfl) ?hq4x55 ?hy4x55 hHeld ?rest4x55
      case hi4x55 => ((try simp only [List.getElem?_toArray, List.getElem?_cons_succ, List.getElem?_cons_zero]); (try rfl))
      case hq4x55 => exact fun _ _ _ h => h
      case hy4x55 => exact Or.inl ⟨by rfl, by intro w hSw; clear hSw; go_simp; try with_reducible rfl⟩
      try simp only [Act.put, List.setIfInBounds_toArray, List.set_cons_zero, List.set_cons_succ]
      refine wpAnyH_take (i := 5) (oi := ?oi5x56) (v := ?v5x56) ?hi5x56 (by kernel_rfl) (by kernel_rfl) (by kernel_rfl) ?hq5x56 ?hy5x56 hHeld ?rest5x56
      case hi5x56 => ((try simp only [List.getElem?_toArray, List.getElem?_cons_succ, List.getElem?_cons_zero]); (try rfl))
      case hq5x56 => exact fun _ _ _ h => h
      case hy5x56 => exact Or.inl ⟨by rfl, by intro w hSw; clear hSw; go_simp; try with_reducible rfl⟩
      try simp only [Act.put, List.setIfInBounds_toArray, List.set_cons_zero, List.set_cons_succ]
      refine wpAnyH_take (i := 6) (oi := ?oi6x57) (v := ?v6x57) ?hi6x57 (by kernel_rfl) (by kernel_rfl) (by kernel_rfl) ?hq6x57 ?hy6x57 hHeld ?rest6x57
      case hi6x57 => ((try simp only [List.getElem?_toArray, List.getElem?_cons_succ, List.getElem?_cons_zero]); (try rfl))
      case hq6x57 => exact fun _ _ _ h => h
      case hy6x57 => exact Or.inl ⟨by rfl, by intro w hSw; clear hSw; go_simp; try with_reducible rfl⟩
      try simp only [Act.put, List.setIfInBounds_toArray, List.set_cons_zero, List.set_cons_succ]
      refine wpAnyH_take (i := 7) (oi := ?oi7x58) (v := ?v7x58) ?hi7x58 (by kernel_rfl) (by kernel_rfl) (by kernel_rfl) ?hq7x58 ?hy7x58 hHeld ?rest7x58
      case hi7x58 => ((try simp only [List.getElem?_toArray, List.getElem?_cons_succ, List.getElem?_cons_zero]); (try rfl))
      case hq7x58 => exact fun _ _ _ h => h
      case hy7x58 => exact Or.inl ⟨by rfl, by intro w hSw; clear hSw; go_simp; try with_reducible rfl⟩
      try simp only [Act.put, List.setIfInBounds_toArray, List.set_cons_zero, List.set_cons_succ]
      refine wpAnyH_take (i := 8) (oi := ?oi8x59) (v := ?v8x59) ?hi8x59 (by kernel_rfl) (by kernel_rfl) (by kernel_rfl) ?hq8x59 ?hy8x59 hHeld ?rest8x59
      case hi8x59 => ((try simp only [List.getElem?_toArray, List.getElem?_cons_succ, List.getElem?_cons_zero]); (try rfl))
      case hq8x59 => exact fun _ _ _ h => h
      case hy8x59 => exact Or.inl ⟨by rfl, by intro w hSw; clear hSw; go_simp; try with_reducible rfl⟩
      try simp only [Act.put, List.setIfInBounds_toArray, List.set_cons_zero, List.set_cons_succ]
      refine wpAnyH_take (i := 9) (oi := ?oi9x60) (v := ?v9x60) ?hi9x60 (by kernel_rfl) (by kernel_rfl) (by kernel_rfl) ?hq9x60 ?hy9x60 hHeld ?rest9x60
      case hi9x60 => ((try simp only [List.getElem?_toArray, List.getElem?_cons_succ, List.getElem?_cons_zero]); (try rfl))
      case hq9x60 => exact fun _ _ _ h => h
      case hy9x60 => exact Or.inl ⟨by rfl, by intro w hSw; clear hSw; go_simp; try with_reducible rfl⟩
      try simp only [Act.put, List.setIfInBounds_toArray, List.set_cons_zero, List.set_cons_succ]
      refine wpAnyH_take (i := 10) (oi := ?oi10x61) (v := ?v10x61) ?hi10x61 (by kernel_rfl) (by kernel_rfl) (by kernel_rfl) ?hq10x61 ?hy10x61 hHeld ?rest10x61
      case hi10x61 => ((try simp only [List.getElem?_toArray, List.getElem?_cons_succ, List.getElem?_cons_zero]); (try rfl))
      case hq10x61 => exact fun _ _ _ h => h
      case hy10x61 => exact Or.inl ⟨by rfl, by intro w hSw; clear hSw; go_simp; try with_reducible rfl⟩
      try simp only [Act.put, List.setIfInBounds_toArray, List.set_cons_zero, List.set_cons_succ]
      refine wpAnyH_take (i := 11) (oi := ?oi11x62) (v := ?v11x62) ?hi11x62 (by kernel_rfl) (by kernel_rfl) (by kernel_rfl) ?hq11x62 ?hy11x62 hHeld ?rest11x62
      case hi11x62 => ((try simp only [List.getElem?_toArray, List.getElem?_cons_succ, List.getElem?_cons_zero]); (try rfl))
      case hq11x62 => exact fun _ _ _ h => h
      case hy11x62 => exact Or.inl ⟨by rfl, by intro w hSw; clear hSw; go_simp; try with_reducible rfl⟩
      try simp only [Act.put, List.setIfInBounds_toArray, List.set_cons_zero, List.set_cons_succ]
      refine wpAnyH_take (i := 12) (oi := ?oi12x63) (v := ?v12x63) ?hi12x63 (by kernel_rfl) (by kernel_rfl) (by kernel_rfl) ?hq12x63 ?hy12x63 hHeld ?rest12x63
      case hi12x63 => ((try simp only [List.getElem?_toArray, List.getElem?_cons_succ, List.getElem?_cons_zero]); (try rfl))
      case hq12x63 => exact fun _ _ _ h => h
      case hy12x63 => exact Or.inl ⟨by rfl, by intro w hSw; clear hSw; go_simp; try with_reducible rfl⟩
      try simp only [Act.put, List.setIfInBounds_toArray, List.set_cons_zero, List.set_cons_succ]
      refine wpAnyH_take (i := 13) (oi := ?oi13x64) (v := ?v13x64) ?hi13x64 (by kernel_rfl) (by kernel_rfl) (by kernel_rfl) ?hq13x64 ?hy13x64 hHeld ?rest13x64
      case hi13x64 => ((try simp only [List.getElem?_toArray, List.getElem?_cons_succ, List.getElem?_cons_zero]); (try rfl))
      case hq13x64 => exact fun _ _ _ h => h
      case hy13x64 =>
        refine' yieldsIf_load_mid ?_ 33 (.tmp 185) ?_ be2 oe2 ?_ (obsC z) _ ?_ Tryz.underlying33 ?_ info8
        · rfl
        · rfl
        · rfl
        · exact fun _ h => h.re
        · rfl
      try simp only [Act.put, List.setIfInBounds_toArray, List.set_cons_zero, List.set_cons_succ]
      refine wpAnyH_take (i := 14) (oi := ?oi14x65) (v := ?v14x65) ?hi14x65 (by kernel_rfl) (by kernel_rfl) (by kernel_rfl) ?hq14x65 ?hy14x65 hHeld ?rest14x65
      case hi14x65 => ((try simp only [List.getElem?_toArray, List.getElem?_cons_succ, List.getElem?_cons_zero]); (try rfl))
      case hq14x65 => exact fun _ _ _ h => h
      case hy14x65 =>
        refine' yieldsIf_load_mid ?_ 33 (.tmp 16) ?_ bq 0 ?_ (obsC z) _ ?_ Tryz.underlying33 ?_ info8
        · rfl
        · rfl
        · rfl
        · exact fun _ h => h.q.row
        · rfl
      try simp only [Act.put, List.setIfInBounds_toArray, List.set_cons_zero, List.set_cons_succ]
      refine wpAnyH_take (i := 15) (oi := ?oi15x66) (v := ?v15x66) ?hi15x66 (by kernel_rfl) (by kernel_rfl) (by kernel_rfl) ?hq15x66 ?hy15x66 hHeld ?rest15x66
      case hi15x66 => ((try simp only [List.getElem?_toArray, List.getElem?_cons_succ, List.getElem?_cons_zero]); (try rfl))
      case hq15x66 => exact fun _ _ _ h => h
      case hy15x66 => exact Or.inl ⟨by rfl, by intro w hSw; clear hSw; go_simp; try with_reducible rfl⟩
      try simp only [Act.put, List.setIfInBounds_toArray, List.set_cons_zero, List.set_cons_succ]
      refine wpAnyH_take (i := 16) (oi := ?oi16x67) (v := ?v16x67) ?hi16x67 (by kernel_rfl) (by kernel_rfl) (by kernel_rfl) ?hq16x67 ?hy16x67 hHeld ?rest16x67
      case hi16x67 => ((try simp only [List.getElem?_toArray, List.getElem?_cons_succ, List.getElem?_cons_zero]); (try rfl))
      case hq16x67 => exact fun _ _ _ h => h
      case hy16x67 => exact Or.inl ⟨by rfl, by intro w hSw; clear hSw; go_simp; try with_reducible rfl⟩
      try simp only [Act.put, List.setIfInBounds_toArray, List.set_cons_zero, List.set_cons_succ]
      refine wpAnyH_take (i := 17) (oi := ?oi17x68) (v := ?v17x68) ?hi17x68 (by kernel_rfl) (by kernel_rfl) (by kernel_rfl) ?hq17x68 ?hy17x68 hHeld ?rest17x68
      case hi17x68 => ((try simp only [List.getElem?_toArray, List.getElem?_cons_succ, List.getElem?_cons_zero]); (try rfl))
      case hq17x68 => exact fun _ _ _ h => h
      case hy17x68 => exact Or.inl ⟨by rfl, by intro w hSw; clear hSw; go_simp; try with_reducible rfl⟩
      try simp only [Act.put, List.setIfInBounds_toArray, List.set_cons_zero, List.set_cons_succ]
      refine wpAnyH_done (by kernel_rfl) ?_ _
      clear hHeld EQ
      have OF := Lib.hid (OB.out.call (Below.refl _ _).drew)
      clear OB
      go_wp2_with fail
      go_ret
      exact ⟨rfl, OF.out.x.below⟩
theorem psvorder_any (o : Ob) (a b : Int) (w : World) (hT : Gt.Tab w) (hE : ES w) (hM : MX w) (hb : OB o) : Calls Tryz.prog 5 #[obsV o, .int .i64 a, .int .i64 b] w fun e w' => e = .returned (.bool true) ∧ Below w.heap.size w w' := by
  by_cases h : longP o ∨ ¬ okO o
  · exact vord_bad o a b w hT hE hM hb h
  have ok : okO o := Classical.byContradiction fun g => h (Or.inr g)
  have nl : ¬ longP o := fun g => h (Or.inl g)
  by_cases hab : 0 ≤ a ∧ a ≤ 7 ∧ 0 ≤ b ∧ b ≤ 7
  · obtain ⟨h1, h2, h3, h4⟩ := hab
    obtain ⟨a', rfl⟩ := Int.eq_ofNat_of_zero_le h1
    obtain ⟨b', rfl⟩ := Int.eq_ofNat_of_zero_le h3
    exact vord_main o a' b' w hT hE hM hb ok nl (by omega) (by omega)
  · exact vord_out o a b w hT hE hM hb ok nl hab
end Vw
end Go.Proofs.YtaghilgfldaaiaaGreatDoor
