/-
  Lemmas and walks, texts joined: MRdPl, MFld, MFld2, MParse, MDayA, MRdPl2, MPDay, MNmPl, PNum, PTen, PRnd, PCom, PParts, PParts2, PSpec, OPl, PRead, PRead2, OWord, ONumb.
-/
import Derived.OneCell
import Derived.OwnWalk
import Derived.Deep.AppendLies
import Derived.StillTailTactics
import Derived.Deep.RegionHeld3
import Derived.LoopTactic
import Derived.Lib.AtoiErrMem
import Derived.ProofKit
import Derived.Lib.Hide
import Derived.Laws.RangeAny
import Derived.Deep.QuietTactic
import Derived.BigQuiet
import Derived.WalkLawsBesides
import Derived.WalkSpells
import Derived.Laws.BitsAllLaws
import Derived.Laws.IdiomStrings
import Derived.Deep.DeepCutAuto
import Derived.Test.YtaghilgfldaaiaaGreatDoorVa02
import Derived.Test.YtaghilgfldaaiaaGreatDoorVa01
import Derived.Test.YtaghilgfldaaiaaGreatDoorRows
set_option linter.unusedSimpArgs false
set_option linter.unusedVariables false
/-
  Plain laws of MomentRounds: texts and times correspond; no walk here.
-/
namespace Go.Proofs.YtaghilgfldaaiaaGreatDoor
namespace At
open Go.RowKit Lw Ap Go.Proofs.YtaghilgfldaaiaaGreatDoor.Mp Go.Proofs.YtaghilgfldaaiaaGreatDoor.Mw

/-! ### Strings as lists -/
theorem toL_inj {s t : ByteArray} (h : s.data.toList = t.data.toList) : s = t := by
  cases s; cases t
  simp only at h
  rw [Array.toList_inj.1 h]
theorem ext_L (s : ByteArray) (i j : Nat) (hj : j ≤ s.size) : (s.extract i j).data.toList = (s.data.toList.drop i).take (j - i) := by
  simp
theorem bt_L (s : ByteArray) (k : Nat) (hk : k < s.size) : bt s k = ((s.data.toList.getD k 0).toNat : Int) := by
  rw [bt_of s k hk]
  have h : k < s.data.toList.length := by simpa using hk
  rw [List.getD_eq_getElem?_getD, List.getElem?_eq_getElem h]
  rfl
theorem app_L (a b : ByteArray) : (a ++ b).data.toList = a.data.toList ++ b.data.toList := by simp
theorem dS_L (n k : Nat) : (dS n k).data.toList = decL n k := rfl
/-- A digit. -/
abbrev isD (c : UInt8) : Prop := 48 ≤ (c.toNat : Int) ∧ (c.toNat : Int) ≤ 57
theorem dec_all (n k : Nat) : allD (decL n k) := (decL_num k n).2
theorem dec_val {n k : Nat} (h : n < 10 ^ k) : numV (decL n k) = n := by
  rw [numV_yes (dec_all n k), (decL_num k n).1, Nat.mod_eq_of_lt h]
theorem dec2 (n : Nat) : ∃ a b, decL n 2 = [a, b] ∧ isD a ∧ isD b := by
  refine ⟨_, _, rfl, ?_, ?_⟩
  · exact dec_all n 2 _ (by simp [decL])
  · exact dec_all n 2 _ (by simp [decL])
theorem dec4 (n : Nat) : ∃ a b c d, decL n 4 = [a, b, c, d] ∧ isD a ∧ isD b ∧ isD c ∧ isD d := by
  refine ⟨_, _, _, _, rfl, ?_, ?_, ?_, ?_⟩
  · exact dec_all n 4 _ (by simp [decL])
  · exact dec_all n 4 _ (by simp [decL])
  · exact dec_all n 4 _ (by simp [decL])
  · exact dec_all n 4 _ (by simp [decL])
/-- The first nineteen bytes, and the rest. -/
abbrev l19 (a b c d e f g h i j k l m n : UInt8) (r : List UInt8) : List UInt8 := a :: b :: c :: d :: 45 :: e :: f :: 45 :: g :: h :: 84 :: i :: j :: 58 :: k :: l :: 58 :: m :: n :: r
abbrev l10 (a b c d e f g h : UInt8) (r : List UInt8) : List UInt8 := a :: b :: c :: d :: 32 :: e :: f :: 32 :: g :: h :: r
theorem lt_19 {k : Nat} (h : k < 19) : k = 0 ∨ k = 1 ∨ k = 2 ∨ k = 3 ∨ k = 4 ∨ k = 5 ∨ k = 6 ∨ k = 7 ∨ k = 8 ∨ k = 9 ∨ k = 10 ∨ k = 11 ∨ k = 12 ∨ k = 13 ∨ k = 14 ∨ k = 15 ∨ k = 16 ∨ k = 17 ∨ k = 18 := by omega
theorem okD {s p : ByteArray} {k : Nat} (hk : k < s.size) (hp : bt p k = 48) (h : isD (s.data.toList.getD k 0)) : okAt s p k :=
  ⟨fun _ => by rw [bt_L s k hk]; exact h, fun g => absurd hp g⟩
theorem okC {s p : ByteArray} {k : Nat} (hk : k < s.size) (hp : ¬ bt p k = 48) (h : ((s.data.toList.getD k 0).toNat : Int) = bt p k) : okAt s p k :=
  ⟨fun g => absurd g hp, fun _ => by rw [bt_L s k hk]; exact h⟩
theorem like19 {s : ByteArray} {a b c d e f g h i j k l m n : UInt8} (hs : s.data.toList = l19 a b c d e f g h i j k l m n [])
    (ha : isD a) (hb : isD b) (hc : isD c) (hd : isD d) (he : isD e) (hf : isD f) (hg : isD g) (hh : isD h) (hi : isD i) (hj : isD j) (hk : isD k) (hl : isD l) (hm : isD m) (hn : isD n) : likeP s P19 := by
  have sz : s.size = 19 := by have := congrArg List.length hs; simpa using this
  refine ⟨sz, fun q hq => ?_⟩
  rw [sz] at hq
  rcases lt_19 hq with rfl | rfl | rfl | rfl | rfl | rfl | rfl | rfl | rfl | rfl | rfl | rfl | rfl | rfl | rfl | rfl | rfl | rfl | rfl
  all_goals first
    | (refine okD (by omega) (by decide) ?_; rw [hs]; assumption)
    | (refine okC (by omega) (by decide) ?_; rw [hs]; rfl)
/-! ### The parts of such a string -/
theorem nm_L {s : ByteArray} {l : List UInt8} (hs : s.data.toList = l) (i j : Nat) (hj : j ≤ s.size) : nm s i j = numV ((l.drop i).take (j - i)) := by
  unfold nm
  rw [ext_L s i j hj, hs]
/-- The numbers of a text of a time. -/
theorem text_nums {s : ByteArray} {a b c d e f g h i j k l m n : UInt8} {r : List UInt8} (hs : s.data.toList = l19 a b c d e f g h i j k l m n r) :
    nm s 0 4 = numV [a, b, c, d] ∧ nm s 5 7 = numV [e, f] ∧ nm s 8 10 = numV [g, h] ∧ nm s 11 13 = numV [i, j] ∧ nm s 14 16 = numV [k, l] ∧ nm s 17 19 = numV [m, n] := by
  have sz : 19 ≤ s.size := by have := congrArg List.length hs; simp at this; omega
  refine ⟨?_, ?_, ?_, ?_, ?_, ?_⟩ <;> rw [nm_L hs _ _ (by omega)] <;> rfl
theorem base_L (Y M D H I S : Nat) : (baseS Y M D H I S).data.toList = decL Y 4 ++ (45 :: (decL M 2 ++ (45 :: (decL D 2 ++ (84 :: (decL H 2 ++ (58 :: (decL I 2 ++ (58 :: decL S 2))))))))) := by
  unfold baseS
  simp only [app_L, dS_L, List.append_assoc]
  rfl
theorem text_L (Y M D H I S U d : Nat) : (textS Y M D H I S U d).data.toList = decL Y 4 ++ (45 :: (decL M 2 ++ (45 :: (decL D 2 ++ (84 :: (decL H 2 ++ (58 :: (decL I 2 ++ (58 :: (decL S 2 ++ ((if 0 < d then 46 :: (decL U 6).take d else []) ++ [90]))))))))))) := by
  unfold textS
  by_cases h : 0 < d
  · rw [if_pos h, if_pos h]
    simp only [app_L, base_L, List.append_assoc, List.cons_append]
    have e : ((dS U 6).extract 0 d).data.toList = (decL U 6).take d := by
      by_cases h6 : d ≤ 6
      · rw [ext_L _ _ _ (by rw [dS_size]; exact h6)]; rfl
      · simp [dS_L]
    rw [e]
    rfl
  · rw [if_neg h, if_neg h]
    simp only [app_L, base_L, List.append_assoc, List.cons_append]
    rfl
end At
end Go.Proofs.YtaghilgfldaaiaaGreatDoor
/-
  Reading numbers between separators: fields of package moment and its function literal.
-/
namespace Go.Proofs.YtaghilgfldaaiaaGreatDoor
namespace Ap
open Go.RowKit Lw

/-- What the literal captures: the two strings, the numbers, and whether the byte before was one of a number. -/
structure FS (s p : ByteArray) (w0 : World) (B : Nat) (L : List Int) (b : Bool) (wr : World) : Prop where
  cs : wr.heap[B]? = some (.cells #[.string s] 9 (0, 0))
  cp : wr.heap[B + 1]? = some (.cells #[.string p] 9 (0, 0))
  co : ∃ v, wr.heap[B + 2]? = some (.cells #[v] 24 (0, 0)) ∧ wr.ownsRow (B + 4) 3 1 v L.length (L.map (Value.int .i64))
  ci : wr.heap[B + 3]? = some (.cells #[.bool b] 4 (0, 0))
  below : Below B w0 wr
theorem owns_set {w : World} {base : Nat} {e : TypeId} {g n cap : Nat} {xs : List Value} {u : Value} (h : w.ownsRow base e 1 (.slice (some ⟨g, 0, none⟩) n cap) n (xs ++ [u])) (u' : Value) :
    (w.setCell ⟨g, xs.length, none⟩ u').ownsRow base e 1 (.slice (some ⟨g, 0, none⟩) n cap) n (xs ++ [u']) := by
  obtain ⟨h1, h2⟩ := h
  refine ⟨by simpa using h1, ?_⟩
  rcases h2 with ⟨h2, _⟩ | ⟨g', cap', cur, hv, hg, hh, hc1, hc2, hsz, ht⟩
  · cases h2
  · cases hv
    refine Or.inr ⟨g, cap, cur.set! xs.length u', rfl, hg, ?_, hc1, hc2, by simpa using hsz, ?_⟩
    · have hlt := lt_of_block hh
      have h' : w.heap[g] = .cells cur e (0, 0) := by simpa [Array.getElem?_eq_getElem hlt] using hh
      show (w.heap.modify g _)[g]? = _
      rw [Array.getElem?_eq_getElem (by simpa using hlt), Array.getElem_modify_self, h']
      rfl
    · have hn : n = xs.length + 1 := by simpa using h1.symm
      subst hn
      simp only [Nat.mul_one] at ht ⊢
      rw [Array.set!_eq_setIfInBounds, Array.toList_setIfInBounds]
      have hl : xs.length < cur.toList.length := by simp at hsz ⊢; omega
      rw [List.take_set, ht]
      simp
theorem FS.flag {s p : ByteArray} {w0 : World} {B : Nat} {L : List Int} {b : Bool} {wr : World} (h : FS s p w0 B L b wr) (b' : Bool) : FS s p w0 B L b' (wr.setCell ⟨B + 3, 0, none⟩ (.bool b')) := by
  obtain ⟨h1, h2, ⟨v, h3, h4⟩, h5, h6⟩ := h
  exact ⟨by rw [Below.heap_setCell _ _ _ _ (by simp <;> omega)]; exact h1, by rw [Below.heap_setCell _ _ _ _ (by simp <;> omega)]; exact h2,
    ⟨v, by rw [Below.heap_setCell _ _ _ _ (by simp)]; exact h3, ownsRow_setCell_below h4 (by simp) _⟩, one_setCell h5, h6.setCell (by simp <;> omega) _⟩
theorem FS.drewN {s p : ByteArray} {w0 : World} {B : Nat} {L : List Int} {b : Bool} {wr : World} (h : FS s p w0 B L b wr) (n : Nat) : FS s p w0 B L b (wr.drewN n) := by
  obtain ⟨h1, h2, ⟨v, h3, h4⟩, h5, h6⟩ := h
  exact ⟨h1, h2, ⟨v, h3, h4⟩, h5, ⟨h6.os, h6.tape, h6.output, h6.size, h6.block⟩⟩
theorem FS.drew {s p : ByteArray} {w0 : World} {B : Nat} {L : List Int} {b : Bool} {wr : World} (h : FS s p w0 B L b wr) : FS s p w0 B L b wr.drew := by
  obtain ⟨h1, h2, ⟨v, h3, h4⟩, h5, h6⟩ := h
  exact ⟨h1, h2, ⟨v, h3, h4⟩, h5, h6.drew⟩
theorem FS.app {s p : ByteArray} {w0 : World} {B : Nat} {L : List Int} {b : Bool} {wr w1 : World} {v v' : Value} {o : Obj} {z : Int} (h : FS s p w0 B L b wr) (hv : wr.heap[B + 2]? = some (.cells #[v] 24 (0, 0))) (hown : wr.ownsRow (B + 4) 3 1 v L.length (L.map (Value.int .i64)))
    (h1 : w1.ownsRow (B + 4) 3 1 v' (L.length + 1) (L.map (Value.int .i64) ++ [.int .i64 z])) (hg : (wr.alloc o).grownBy w1 v.ownBlock) : FS s p w0 B (L ++ [z]) b (w1.setCell ⟨B + 2, 0, none⟩ v') := by
  obtain ⟨a1, a2, _, a5, a6⟩ := h
  have lt3 := lt_of_block a5
  have hne : ∀ k, k < B + 4 → some k ≠ v.ownBlock := fun k hk e => by have := (hown.lt k e.symm).1; omega
  have hk : ∀ k, k < B + 4 → w1.heap[k]? = wr.heap[k]? := fun k hk => by
    rw [hg.block k (by simp <;> omega) (hne k hk)]
    exact heap_alloc_old wr o (by omega)
  refine ⟨by rw [Below.heap_setCell _ _ _ _ (by simp <;> omega), hk _ (by omega)]; exact a1, by rw [Below.heap_setCell _ _ _ _ (by simp), hk _ (by omega)]; exact a2,
    ⟨v', one_setCell (by rw [hk _ (by omega)]; exact hv), ?_⟩, by rw [Below.heap_setCell _ _ _ _ (by simp), hk _ (by omega)]; exact a5, ?_⟩
  · have := ownsRow_setCell_below h1 (a := ⟨B + 2, 0, none⟩) (by simp) v'
    simpa using this
  · exact ((a6.alloc (by omega) o).grown hg (by simp <;> omega) (fun k e => by have := (hown.lt k e).1; omega)).setCell (by simp <;> omega) _
theorem FS.app_cells {s p : ByteArray} {w0 : World} {B : Nat} {L : List Int} {b : Bool} {wr w1 : World} {v v' : Value} {o : Obj} (h : FS s p w0 B L b wr) (hv : wr.heap[B + 2]? = some (.cells #[v] 24 (0, 0))) (hown : wr.ownsRow (B + 4) 3 1 v L.length (L.map (Value.int .i64)))
    (hg : (wr.alloc o).grownBy w1 v.ownBlock) : w1.cell? ⟨B + 2, 0, none⟩ = some v ∧ w1.frozen? ⟨B + 2, 0, none⟩ = false ∧ (w1.setCell ⟨B + 2, 0, none⟩ v').cell? ⟨B + 3, 0, none⟩ = some (.bool b) ∧ (w1.setCell ⟨B + 2, 0, none⟩ v').frozen? ⟨B + 3, 0, none⟩ = false ∧
      ((w1.setCell ⟨B + 2, 0, none⟩ v').setCell ⟨B + 3, 0, none⟩ (.bool true)).heap[B + 2]? = some (.cells #[v'] 24 (0, 0)) := by
  obtain ⟨a1, a2, _, a5, a6⟩ := h
  have lt3 := lt_of_block a5
  have hne : ∀ k, k < B + 4 → some k ≠ v.ownBlock := fun k hk e => by have := (hown.lt k e.symm).1; omega
  have hk : ∀ k, k < B + 4 → w1.heap[k]? = wr.heap[k]? := fun k hk => by
    rw [hg.block k (by simp; omega) (hne k hk)]
    exact heap_alloc_old wr o (by omega)
  have h2 : w1.heap[B + 2]? = some (.cells #[v] 24 (0, 0)) := by rw [hk _ (by omega)]; exact hv
  have h3 : (w1.setCell ⟨B + 2, 0, none⟩ v').heap[B + 3]? = some (.cells #[.bool b] 4 (0, 0)) := by
    rw [Below.heap_setCell _ _ _ _ (by simp), hk _ (by omega)]; exact a5
  exact ⟨cell_of_one h2, free_of_one h2, cell_of_one h3, free_of_one h3, by rw [Below.heap_setCell _ _ _ _ (by simp)]; exact one_setCell h2⟩
theorem FS.put {s p : ByteArray} {w0 : World} {B : Nat} {X : List Int} {u : Int} {b : Bool} {wr : World} {g n cap : Nat} (h : FS s p w0 B (X ++ [u]) b wr) (hv : wr.heap[B + 2]? = some (.cells #[.slice (some ⟨g, 0, none⟩) n cap] 24 (0, 0))) (u' : Int) :
    n = X.length + 1 ∧ wr.cell? ⟨g, X.length, none⟩ = some (.int .i64 u) ∧ wr.frozen? ⟨g, X.length, none⟩ = false ∧ B + 4 ≤ g ∧ FS s p w0 B (X ++ [u']) b (wr.setCell ⟨g, X.length, none⟩ (.int .i64 u')) := by
  obtain ⟨a1, a2, ⟨v, a3, a4⟩, a5, a6⟩ := h
  rw [hv] at a3
  have a3' : v = .slice (some ⟨g, 0, none⟩) n cap := by simpa using a3.symm
  subst a3'
  have hn : n = X.length + 1 := by
    rcases a4.2 with ⟨e, _⟩ | ⟨g', cap', cur, e, _⟩
    · cases e
    · cases e; simp
  have ml : (X ++ [u]).map (Value.int .i64) = X.map (Value.int .i64) ++ [.int .i64 u] := by simp
  have ll : (X ++ [u]).length = n := by simp; omega
  rw [ml, ll] at a4
  have ce := a4.cells (g := g) rfl X.length (.int .i64 u) (by simp)
  have ae : (⟨g, 0, none⟩ : Addr).add X.length = ⟨g, X.length, none⟩ := by
    unfold Addr.add
    split
    · simp [*]
    · simp
  rw [ae] at ce
  have hgb := (a4.lt g rfl).1
  have hfz : wr.frozen? ⟨g, X.length, none⟩ = false := by
    rcases a4.2 with ⟨e, _⟩ | ⟨g', cap', cur, e, _, hh, _, _, hs, _⟩
    · cases e
    · cases e
      simp [World.frozen?, hh]
  have st := owns_set a4 (.int .i64 u')
  rw [List.length_map] at st
  refine ⟨hn, ce, hfz, hgb, by rw [Below.heap_setCell _ _ _ _ (by simp; omega)]; exact a1, by rw [Below.heap_setCell _ _ _ _ (by simp; omega)]; exact a2,
    ⟨.slice (some ⟨g, 0, none⟩) n cap, by rw [Below.heap_setCell _ _ _ _ (by simp; omega)]; exact hv, ?_⟩, by rw [Below.heap_setCell _ _ _ _ (by simp; omega)]; exact a5, a6.setCell (by simp; omega) _⟩
  have e1 : (X ++ [u']).map (Value.int .i64) = X.map (Value.int .i64) ++ [.int .i64 u'] := by simp
  have e2 : (X ++ [u']).length = n := by simp; omega
  rw [e1, e2]
  exact st
set_option maxRecDepth 100000 in
set_option maxHeartbeats 1000000 in
theorem read_sep (s p : ByteArray) (w0 w : World) (B : Nat) (L : List Int) (b : Bool) (k : Nat) (hs : k < s.size) (hp : k < p.size) (hS : FS s p w0 B L b w) (hb : ¬ bt p k = 48) :
    Calls Tryz.prog 154 #[.int .i64 k, .pointer (some ⟨B, 0, none⟩), .pointer (some ⟨B + 1, 0, none⟩), .pointer (some ⟨B + 3, 0, none⟩), .pointer (some ⟨B + 2, 0, none⟩)] w fun e w' => e = .returned (.bool (decide (okAt s p k))) ∧ FS s p w0 B L false w' := by
  have c0 := cell_of_one hS.cs
  have c1 := cell_of_one hS.cp
  have c3 := cell_of_one hS.ci
  have g3 := free_of_one hS.ci
  have S1 := Lib.hid (hS.flag false)
  have O := Lib.hid (show okAt s p k ↔ (s[k].toNat : Int) = (p[k].toNat : Int) by unfold okAt; rw [bt_of s k hs, bt_of p k hp]; rw [bt_of p k hp] at hb; exact ⟨fun g => g.2 hb, fun g => ⟨fun h => absurd h hb, fun _ => g⟩⟩)
  rw [bt_of p k hp] at hb
  have i0 : (k : Int) < (s.size : Int) := by omega
  have i1 : (k : Int) < (p.size : Int) := by omega
  have bb := byte_bd s[k]
  clear hS
  have D := Lib.hid (show ∀ v : Bool, v = ((s[k].toNat : Int) == (p[k].toNat : Int)) → v = decide (okAt s p k) from fun v h => by rw [h, Bool.eq_iff_iff, beq_iff_eq, decide_eq_true_iff]; exact O.out.symm)
  go_enter Tryz.func154, Tryz.ntmps154
  go_wp2
  all_goals
    go_quiet (fail)
    go_wp2
    go_ret
    exact ⟨ret_b (D.out _ rfl), S1.out.drewN _⟩
theorem info_int : (Tryz.prog.info? 3).map (fun i => (i.zero, i.size, i.bytes)) = some (some (.int .i64 0), 1, 8) := by kernel_rfl
set_option maxRecDepth 100000 in
set_option maxHeartbeats 2000000 in
theorem read_on (s p : ByteArray) (w0 w : World) (B : Nat) (X : List Int) (v : Int) (k : Nat) (hs : k < s.size) (hp : k < p.size) (hS : FS s p w0 B (X ++ [v]) true w) (hb : bt p k = 48) (v0 : 0 ≤ v) (v1 : v < 1000000000) (hX : X.length ≤ 1000) :
    Calls Tryz.prog 154 #[.int .i64 k, .pointer (some ⟨B, 0, none⟩), .pointer (some ⟨B + 1, 0, none⟩), .pointer (some ⟨B + 3, 0, none⟩), .pointer (some ⟨B + 2, 0, none⟩)] w fun e w' => e = .returned (.bool (decide (okAt s p k))) ∧ FS s p w0 B (X ++ [10 * v + (bt s k - 48)]) true w' := by
  have c0 := cell_of_one hS.cs
  have c1 := cell_of_one hS.cp
  have c3 := cell_of_one hS.ci
  obtain ⟨vo, hv, hown⟩ := hS.co
  obtain ⟨g, cap, rfl, hg1, hg2⟩ := hown.form (by simp)
  have c2 := cell_of_one hv
  obtain ⟨hn, ce, hf, hgb, hput⟩ := hS.drew.put hv (10 * v + (s[k].toNat : Int) - 48)
  replace ce : w.cell? ⟨g, X.length, none⟩ = some (.int .i64 v) := ce
  replace hf : w.frozen? ⟨g, X.length, none⟩ = false := hf
  have O := Lib.hid (show okAt s p k ↔ 48 ≤ (s[k].toNat : Int) ∧ (s[k].toNat : Int) ≤ 57 by unfold okAt; rw [bt_of s k hs]; exact ⟨fun g => g.1 hb, fun g => ⟨fun _ => g, fun h => absurd hb h⟩⟩)
  rw [bt_of p k hp] at hb
  have ev : 10 * v + (bt s k - 48) = 10 * v + (s[k].toNat : Int) - 48 := by rw [bt_of s k hs]; omega
  rw [ev]
  rw [hn] at c2
  have Hput := Lib.hid hput
  have bb := byte_bd s[k]
  have i0 : (k : Int) < (s.size : Int) := by omega
  have i1 : (k : Int) < (p.size : Int) := by omega
  clear hS hv hown hn hput hg1 hgb ev
  have D := Lib.hid (show ∀ b : Bool, (b = true ↔ 48 ≤ (s[k].toNat : Int) ∧ (s[k].toNat : Int) ≤ 57) → b = decide (okAt s p k) from fun b h => by rw [Bool.eq_iff_iff, h, decide_eq_true_iff]; exact O.out.symm)
  have i2 : (X.length : Int) < (X.length : Int) + 1 := by omega
  have i3 : 0 ≤ (X.length : Int) := by omega
  by_cases d1 : 48 ≤ (s[k].toNat : Int)
  · have E := Lib.hid (D.out (decide ((s[k].toNat : Int) ≤ 57)) (by rw [decide_eq_true_iff]; exact ⟨fun h => ⟨d1, h⟩, fun h => h.2⟩))
    clear D O
    go_enter Tryz.func154, Tryz.ntmps154
    go_wp2
    go_still_tail 13, (by kernel_rfl)
    repeat still_step
    try refine wpStill_nil ?_
    change wpList _ _ _ _ _ w.drew
    go_wp2_with fail
    go_ret
    exact ⟨ret_b E.out, Hput.out⟩
  · have E := Lib.hid (D.out false (by simp; omega))
    clear D O
    go_enter Tryz.func154, Tryz.ntmps154
    go_wp2
    go_still_tail 13, (by kernel_rfl)
    repeat still_step
    try refine wpStill_nil ?_
    change wpList _ _ _ _ _ w.drew
    go_wp2_with fail
    go_ret
    exact ⟨ret_b E.out, Hput.out⟩
set_option maxRecDepth 100000 in
set_option maxHeartbeats 2000000 in
theorem read_new (s p : ByteArray) (w0 w : World) (B : Nat) (L : List Int) (k : Nat) (hs : k < s.size) (hp : k < p.size) (hS : FS s p w0 B L false w) (hb : bt p k = 48) (hX : L.length ≤ 1000) :
    Calls Tryz.prog 154 #[.int .i64 k, .pointer (some ⟨B, 0, none⟩), .pointer (some ⟨B + 1, 0, none⟩), .pointer (some ⟨B + 3, 0, none⟩), .pointer (some ⟨B + 2, 0, none⟩)] w fun e w' => e = .returned (.bool (decide (okAt s p k))) ∧ FS s p w0 B (L ++ [bt s k - 48]) true w' := by
  obtain ⟨i0', hi, hz0, hz1, hz2⟩ := info_parts info_int
  have c0 := cell_of_one hS.cs
  have c1 := cell_of_one hS.cp
  have c3 := cell_of_one hS.ci
  obtain ⟨v, hv, hown⟩ := hS.co
  have c2 := cell_of_one hv
  have O := Lib.hid (show okAt s p k ↔ 48 ≤ (s[k].toNat : Int) ∧ (s[k].toNat : Int) ≤ 57 by unfold okAt; rw [bt_of s k hs]; exact ⟨fun g => g.1 hb, fun g => ⟨fun _ => g, fun h => absurd hb h⟩⟩)
  have ev : bt s k - 48 = (s[k].toNat : Int) - 48 := by rw [bt_of s k hs]
  rw [ev]
  rw [bt_of p k hp] at hb
  have bb := byte_bd s[k]
  have i0 : (k : Int) < (s.size : Int) := by omega
  have i1 : (k : Int) < (p.size : Int) := by omega
  have D := Lib.hid (show ∀ b : Bool, (b = true ↔ 48 ≤ (s[k].toNat : Int) ∧ (s[k].toNat : Int) ≤ 57) → b = decide (okAt s p k) from fun b h => by rw [Bool.eq_iff_iff, h, decide_eq_true_iff]; exact O.out.symm)
  have i2 : (L.length : Int) < (L.length : Int) + 1 := by omega
  have i3 : 0 ≤ (L.length : Int) := by omega
  have HS := Lib.hid hS
  have HV := Lib.hid hv
  have HO := Lib.hid hown
  have hsz := lt_of_block hS.ci
  clear hS hv hown ev
  by_cases d1 : 48 ≤ (s[k].toNat : Int)
  all_goals
    have E : Hid (∃ r : Bool, r = (decide (48 ≤ (s[k].toNat : Int)) && decide ((s[k].toNat : Int) ≤ 57)) ∧ r = decide (okAt s p k)) := Lib.hid ⟨_, rfl, D.out _ (by simp)⟩
    clear D O
    go_enter Tryz.func154, Tryz.ntmps154
    go_wp2_with (at_builtin; refine wpList_append_own _ rfl (.tmp 32) (.tmp 33) 24 rfl (B + 4) 3 i0' (.int .i64 0) 1 8 Tryz.underlying24 hi hz0 hz1 hz2 rfl (by decide) _ _ _ rfl (HO.out.alloc _) ⟨w.heap.size, 0, none⟩ 1 1 [.int .i64 0] rfl rfl (by intro j u hj; match j, hj with | 0, hj => (simp at hj; subst hj; simp [Addr.add])) (by intro u hu; simp at hu; subst hu; rfl) (by unfold maxLen; omega) (by omega) (by simp; omega) ?_)
    intro v' w1 hown' hgrow _
    obtain ⟨g, cap, rfl, hg1, hg2⟩ := hown'.form (by omega)
    obtain ⟨e1, e2, e3, e4, e5⟩ := HS.out.app_cells (v' := .slice (some ⟨g, 0, none⟩) (L.length + 1) cap) HV.out HO.out hgrow
    have S2 := (HS.out.app HV.out HO.out hown' hgrow).flag true
    have e6 := cell_of_one e5
    have e7 := cell_of_one S2.cs
    have z0 : IntKind.i64.wrap 0 = 0 := rfl
    obtain ⟨hn, ce, hf, hgb, hput⟩ := S2.drew.put e5 ((s[k].toNat : Int) - 48)
    have ce : (((w1.setCell ⟨B + 2, 0, none⟩ (.slice (some ⟨g, 0, none⟩) (L.length + 1) cap)).setCell ⟨B + 3, 0, none⟩ (.bool true))).cell? ⟨g, L.length, none⟩ = some (.int .i64 0) := ce
    have hf : (((w1.setCell ⟨B + 2, 0, none⟩ (.slice (some ⟨g, 0, none⟩) (L.length + 1) cap)).setCell ⟨B + 3, 0, none⟩ (.bool true))).frozen? ⟨g, L.length, none⟩ = false := hf
    have Hput := Lib.hid hput
    clear hown' hgrow hg1 hg2 S2 hput hn hgb e5
    go_wp2
    generalize ((w1.setCell ⟨B + 2, 0, none⟩ (.slice (some ⟨g, 0, none⟩) (L.length + 1) cap)).setCell ⟨B + 3, 0, none⟩ (.bool true)) = W at *
    go_still_tail 13, (by kernel_rfl)
    repeat still_step
    try refine wpStill_nil ?_
    change wpList _ _ _ _ _ W.drew
    go_wp2_with fail
    go_ret
    obtain ⟨r, hr1, hr2⟩ := E.out
    exact ⟨ret_b (by rw [← hr2, hr1]; simp [d1]; try omega), Hput.out⟩
end Ap
end Go.Proofs.YtaghilgfldaaiaaGreatDoor
/-
  The walk of fields of package moment.
-/
namespace Go.Proofs.YtaghilgfldaaiaaGreatDoor
namespace Ap
open Go.RowKit Lw

/-- What fields returns: the numbers, or that the string does not follow the pattern. -/
def FldPost (s p : ByteArray) (w : World) (e : Ending) (w' : World) : Prop := Below w.heap.size w w' ∧
  ((likeP s p ∧ ∃ v, e = .returned (.tuple #[v, .bool true]) ∧ w'.ownsRow (w.heap.size + 4) 3 1 v (grpL s p s.size).length ((grpL s p s.size).map (Value.int .i64))) ∨
   (¬ likeP s p ∧ e = .returned (.tuple #[.slice none 0 0, .bool false])))
theorem read_any (s p : ByteArray) (w0 w : World) (B : Nat) (k : Nat) (hs : k < s.size) (hp : k < p.size) (hS : FS s p w0 B (grpL s p k) (ins p k) w) (hl : likeTo s p k) (hr : runAt p k ≤ 8) (hk : k ≤ 900) :
    Calls Tryz.prog 154 #[.int .i64 k, .pointer (some ⟨B, 0, none⟩), .pointer (some ⟨B + 1, 0, none⟩), .pointer (some ⟨B + 3, 0, none⟩), .pointer (some ⟨B + 2, 0, none⟩)] w fun e w' => e = .returned (.bool (decide (okAt s p k))) ∧ FS s p w0 B (grpL s p (k + 1)) (ins p (k + 1)) w' := by
  have gl := grp_len s p k
  by_cases hb : bt p k = 48
  · have hi : ins p (k + 1) = true := decide_eq_true hb
    rw [hi]
    cases hc : ins p k with
    | false =>
      rw [hc] at hS
      rw [grp_new hb hc]
      exact read_new s p w0 w B (grpL s p k) k hs hp hS hb (by omega)
    | true =>
      rw [hc] at hS
      obtain ⟨X, v, e, h0, h1, _⟩ := grp_last s p k hl hc
      rw [grp_on hb hc e]
      rw [e] at hS gl
      have h8 : (10 : Int) ^ runAt p k ≤ 100000000 := by
        have : ∀ r : Nat, r ≤ 8 → (10 : Int) ^ r ≤ 100000000 := by decide
        exact this _ hr
      exact read_on s p w0 w B X v k hs hp hS hb h0 (by omega) (by simp at gl; omega)
  · have hi : ins p (k + 1) = false := decide_eq_false hb
    rw [hi, grp_skip hb]
    exact read_sep s p w0 w B (grpL s p k) (ins p k) k hs hp hS hb
set_option maxRecDepth 100000 in
set_option maxHeartbeats 2000000 in
theorem fields_any (s p : ByteArray) (w : World) (hs : p.size ≤ 100) (hz : s.size ≤ maxLen) (hr : ∀ k, k < p.size → runAt p k ≤ 8) :
    Calls Tryz.prog 109 #[.string s, .string p] w (FldPost s p w) := by
  by_cases hn : s.size = p.size
  · have i0 : ((s.size : Int) != (p.size : Int)) = false := by simp; omega
    have S0 : FS s p w w.heap.size [] false ((((w.alloc (.cells #[.string s] 9)).alloc (.cells #[.string p] 9)).alloc (.cells #[.slice none 0 0] 24)).alloc (.cells #[.bool false] 4)) := by
      have z1 : (w.alloc (.cells #[.string s] 9)).heap.size = w.heap.size + 1 := by simp
      have z2 : ((w.alloc (.cells #[.string s] 9)).alloc (.cells #[.string p] 9)).heap.size = w.heap.size + 2 := by simp
      have z3 : (((w.alloc (.cells #[.string s] 9)).alloc (.cells #[.string p] 9)).alloc (.cells #[.slice none 0 0] 24)).heap.size = w.heap.size + 3 := by simp
      have n0 := heap_alloc_new w (.cells #[.string s] 9)
      have n1 := heap_alloc_new (w.alloc (.cells #[.string s] 9)) (.cells #[.string p] 9)
      have n2 := heap_alloc_new ((w.alloc (.cells #[.string s] 9)).alloc (.cells #[.string p] 9)) (.cells #[.slice none 0 0] 24)
      have n3 := heap_alloc_new (((w.alloc (.cells #[.string s] 9)).alloc (.cells #[.string p] 9)).alloc (.cells #[.slice none 0 0] 24)) (.cells #[.bool false] 4)
      rw [z1] at n1
      rw [z2] at n2
      rw [z3] at n3
      refine ⟨?_, ?_, ⟨.slice none 0 0, ?_, World.ownsRow_nil _ _ _ _⟩, n3, ?_⟩
      · rw [heap_alloc_old _ _ (by omega), heap_alloc_old _ _ (by omega), heap_alloc_old _ _ (by omega)]; exact n0
      · rw [heap_alloc_old _ _ (by omega), heap_alloc_old _ _ (by omega)]; exact n1
      · rw [heap_alloc_old _ _ (by omega)]; exact n2
      · exact ((((Below.refl _ _).alloc (Nat.le_refl _) _).alloc (by omega) _).alloc (by omega) _).alloc (by omega) _
    have H0 := Lib.hid S0
    clear S0
    go_enter Tryz.func109, Tryz.ntmps109
    go_wp2_with fail
    go_loopw [18] (fun i wr => ∃ k : Nat, k ≤ s.size ∧ i = .int .i64 k ∧ FS s p w w.heap.size (grpL s p k) (ins p k) wr ∧ Hid (likeTo s p k)) (fun i _ => s.size - (intOf i).toNat)
    case atStart => exact ⟨0, Nat.zero_le _, rfl, H0.out, Lib.hid fun k hk => absurd hk (by omega)⟩
    case round =>
      obtain ⟨k, hk, rfl, S1, D⟩ := hrel
      by_cases hlt : k < s.size
      · have i1 : (k : Int) < (s.size : Int) := by omega
        have S2 := Lib.hid S1
        clear S1
        go_wp2_with fail
        refine (read_any s p w _ w.heap.size k hlt (by omega) S2.out D.out (hr k (by omega)) (by omega)).mono ?_
        rintro e w2 ⟨rfl, S3⟩
        have S4 := Lib.hid S3
        clear S3
        by_cases ho : okAt s p k
        · have D2 := Lib.hid (likeTo_s D.out ho)
          rw [decide_eq_true ho]
          go_wp2_with fail
          go_roundw
          case rel => exact ⟨k + 1, by omega, by go_num, S4.out, D2⟩
          case measure => simp [intOf]; omega
        · have N := Lib.hid (show ¬ likeP s p from fun g => ho (g.2 k hlt))
          rw [decide_eq_false ho]
          clear ho
          go_wp2_with fail
          go_ret2
          exact ⟨S4.out.below, Or.inr ⟨N.out, rfl⟩⟩
      · obtain rfl : k = s.size := by omega
        obtain ⟨v, hv, hown⟩ := S1.co
        have c2 := cell_of_one hv
        have Z := Lib.hid (And.intro S1.below hown)
        clear S1 hv hown
        go_wp2_with fail
        go_ret2
        exact ⟨Z.out.1, Or.inl ⟨⟨hn, D.out⟩, v, rfl, Z.out.2⟩⟩
  · have i0 : ((s.size : Int) != (p.size : Int)) = true := by simp; omega
    have hno : ¬ likeP s p := fun g => hn g.1
    go_enter Tryz.func109, Tryz.ntmps109
    go_wp2_with fail
    go_ret2
    exact ⟨((Below.refl _ _).alloc (Nat.le_refl _) _).alloc (by simp) _, Or.inr ⟨hno, rfl⟩⟩
end Ap
end Go.Proofs.YtaghilgfldaaiaaGreatDoor
/-
  The walk of Parse of package moment.
-/
namespace Go.Proofs.YtaghilgfldaaiaaGreatDoor
namespace Ap
open Go.RowKit Lw Go.Proofs.YtaghilgfldaaiaaGreatDoor.Mp

theorem digs {h p : ByteArray} {i j : Nat} (hl : likeP h p) (hj : j ≤ h.size) (hp : ∀ k, i ≤ k → k < j → bt p k = 48) : allD (h.extract i j).data.toList := by
  rw [allD_bt]
  intro k hk
  rw [size_ext h i j hj] at hk
  rw [bt_ext h i j k hj (by omega)]
  exact (hl.2 (i + k) (by omega)).1 (hp (i + k) (by omega) (by omega))
theorem P19_d : ∀ k, k < 19 → (bt P19 k = 48 ↔ ¬ (k = 4 ∨ k = 7 ∨ k = 10 ∨ k = 13 ∨ k = 16)) := by decide
theorem grp19 (h : ByteArray) (hs : h.size = 19) : grpL h P19 19 = [numL (h.extract 0 4).data.toList, numL (h.extract 5 7).data.toList, numL (h.extract 8 10).data.toList, numL (h.extract 11 13).data.toList, numL (h.extract 14 16).data.toList, numL (h.extract 17 19).data.toList] := by
  have d : ∀ i n, i + n ≤ 19 → (¬ (i ≤ 4 ∧ 4 < i + n) ∧ ¬ (i ≤ 7 ∧ 7 < i + n) ∧ ¬ (i ≤ 10 ∧ 10 < i + n) ∧ ¬ (i ≤ 13 ∧ 13 < i + n) ∧ ¬ (i ≤ 16 ∧ 16 < i + n)) → ∀ j, i ≤ j → j < i + n → bt P19 j = 48 := fun i n h1 h2 j a b => (P19_d j (by omega)).2 (by omega)
  have n : ∀ k, k < 19 → (k = 4 ∨ k = 7 ∨ k = 10 ∨ k = 13 ∨ k = 16) → ¬ bt P19 k = 48 := fun k hk h e => (P19_d k hk).1 e h
  have r0 := grp_run h P19 0 rfl 4 (by omega) (by omega) (d 0 4 (by omega) (by omega))
  have r1 := grp_run h P19 5 (decide_eq_false (n 4 (by omega) (by omega))) 2 (by omega) (by omega) (d 5 2 (by omega) (by omega))
  have r2 := grp_run h P19 8 (decide_eq_false (n 7 (by omega) (by omega))) 2 (by omega) (by omega) (d 8 2 (by omega) (by omega))
  have r3 := grp_run h P19 11 (decide_eq_false (n 10 (by omega) (by omega))) 2 (by omega) (by omega) (d 11 2 (by omega) (by omega))
  have r4 := grp_run h P19 14 (decide_eq_false (n 13 (by omega) (by omega))) 2 (by omega) (by omega) (d 14 2 (by omega) (by omega))
  have r5 := grp_run h P19 17 (decide_eq_false (n 16 (by omega) (by omega))) 2 (by omega) (by omega) (d 17 2 (by omega) (by omega))
  have s4 := grp_skip (s := h) (n 4 (by omega) (by omega))
  have s7 := grp_skip (s := h) (n 7 (by omega) (by omega))
  have s10 := grp_skip (s := h) (n 10 (by omega) (by omega))
  have s13 := grp_skip (s := h) (n 13 (by omega) (by omega))
  have s16 := grp_skip (s := h) (n 16 (by omega) (by omega))
  simp only [Nat.reduceAdd] at r0 r1 r2 r3 r4 r5 s4 s7 s10 s13 s16
  rw [r5, s16, r4, s13, r3, s10, r2, s7, r1, s4, r0]
  rfl
theorem nm_of {s p : ByteArray} {m i j : Nat} (hl : likeP (s.extract 0 m) p) (hm : m ≤ s.size) (hj : j ≤ m) (hp : ∀ k, i ≤ k → k < j → bt p k = 48) : numL ((s.extract 0 m).extract i j).data.toList = nm s i j := by
  have hs : (s.extract 0 m).size = m := by rw [size_ext s _ _ hm]; omega
  have d := digs hl (by omega) hp
  have e : (s.extract 0 m).extract i j = s.extract i j := by rw [ByteArray.extract_extract]; congr 1 <;> omega
  rw [e] at d ⊢
  exact (numV_yes d).symm
theorem vals19 {s : ByteArray} (hl : likeP (s.extract 0 19) P19) (hs : 19 ≤ s.size) : grpL (s.extract 0 19) P19 (s.extract 0 19).size = [nm s 0 4, nm s 5 7, nm s 8 10, nm s 11 13, nm s 14 16, nm s 17 19] := by
  have h19 : (s.extract 0 19).size = 19 := by rw [size_ext s _ _ hs]
  have d : ∀ i j, j ≤ 19 → (¬ (i ≤ 4 ∧ 4 < j) ∧ ¬ (i ≤ 7 ∧ 7 < j) ∧ ¬ (i ≤ 10 ∧ 10 < j) ∧ ¬ (i ≤ 13 ∧ 13 < j) ∧ ¬ (i ≤ 16 ∧ 16 < j)) → ∀ k, i ≤ k → k < j → bt P19 k = 48 := fun i j h1 h2 k a b => (P19_d k (by omega)).2 (by omega)
  rw [h19, grp19 _ h19]
  rw [nm_of hl hs (by omega) (d 0 4 (by omega) (by omega)), nm_of hl hs (by omega) (d 5 7 (by omega) (by omega)), nm_of hl hs (by omega) (d 8 10 (by omega) (by omega)), nm_of hl hs (by omega) (d 11 13 (by omega) (by omega)), nm_of hl hs (by omega) (d 14 16 (by omega) (by omega)), nm_of hl hs (by omega) (d 17 19 (by omega) (by omega))]
theorem run19 : ∀ k, k < P19.size → runAt P19 k ≤ 8 := by decide
theorem run6 : ∀ k, k < P6.size → runAt P6 k ≤ 8 := by decide
theorem row_cells {w : World} {base : Nat} {e : TypeId} {v : Value} {n : Nat} {xs : List Value} (h : w.ownsRow base e 1 v n xs) (hn : 0 < n) :
    ∃ g cap, v = .slice (some ⟨g, 0, none⟩) n cap ∧ g < w.heap.size ∧ ∀ j u, xs[j]? = some u → w.cell? ⟨g, j, none⟩ = some u := by
  obtain ⟨g, cap, rfl, _, hg⟩ := h.form hn
  refine ⟨g, cap, rfl, hg, fun j u hu => ?_⟩
  have ce := h.cells (g := g) rfl j u hu
  have ae : (⟨g, 0, none⟩ : Addr).add j = ⟨g, j, none⟩ := by
    unfold Addr.add
    split
    · simp [*]
    · simp
  rwa [ae] at ce
theorem empty_yes {t : ByteArray} (h : t.size = 0) : t.toList.isEmpty = true := by
  rw [Lib.toList_data, List.isEmpty_iff_length_eq_zero]; simpa using h
theorem empty_no {t : ByteArray} (h : t.size ≠ 0) : t.toList.isEmpty = false := by
  rw [Lib.toList_data, Bool.eq_false_iff, ne_eq, List.isEmpty_iff_length_eq_zero]; simpa using h
def ParsePost (s : ByteArray) (w : World) (e : Ending) (w' : World) : Prop := ∃ t c : Int, e = .returned (.tuple #[.int .i64 t, .int .i64 c]) ∧ ParseIs s t c ∧ Below w.heap.size w w'
theorem parse_not {s : ByteArray} (h : ¬ progT s) : ParseIs s 0 12 := Or.inr ⟨fun g => h (text_prog g.1), rfl, rfl⟩
set_option maxRecDepth 100000 in
set_option maxHeartbeats 4000000 in
theorem parse_any (s : ByteArray) (w : World) (hs : s.size ≤ 100) :
    Calls Tryz.prog 64 #[.string s] w (ParsePost s w) := by
  have M : maxLen = 9223372036854775807 := rfl
  have SU := suf_any s w (by omega)
  have rs : (noZ s).size ≤ 100 := by
    unfold noZ
    split
    · rw [size_ext s _ _ (by omega)]; omega
    · exact hs
  obtain ⟨r, er⟩ : ∃ r, noZ s = r := ⟨_, rfl⟩
  have ER := Lib.hid er
  rw [er] at SU rs
  clear er
  have CU := Lib.hid (fun w' => cut_any r w' (by omega))
  generalize hz : decide (zP s) = zb at SU
  generalize hp : decide (ptS r < r.size) = pb at CU
  replace hz := Lib.hid hz
  replace hp := Lib.hid hp
  go_enter Tryz.func64, Tryz.ntmps64
  go_wp2_with fail
  refine SU.mono ?_
  rintro e w1 ⟨rfl, rfl⟩
  go_wp2_with fail
  refine (CU.out _).mono ?_
  rintro e w1 ⟨rfl, hb1⟩
  have B1 := Lib.hid hb1
  clear hb1 SU CU
  have hsz : (hdP r).size ≤ 100 := by unfold hdP; rw [size_ext r _ _ (ptS_le r)]; have := ptS_le r; omega
  obtain ⟨h, eh⟩ : ∃ h, hdP r = h := ⟨_, rfl⟩
  obtain ⟨t, et⟩ : ∃ t, tlP r = t := ⟨_, rfl⟩
  rw [eh, et]
  rw [eh] at hsz
  have FH := Lib.hid (fun w' => fields_any h P19 w' (by decide) (by omega) run19)
  have EH := Lib.hid eh
  have ET := Lib.hid et
  clear eh et
  go_wp2_with fail
  refine (FH.out _).mono ?_
  rintro e w2 ⟨hb2, hf⟩
  have B2 := Lib.hid (below_then B1.out hb2)
  clear hb2 FH
  rcases hf with ⟨lk, v, rfl, hown⟩ | ⟨lk, rfl⟩
  · cases zb with
    | false =>
      have N := Lib.hid (parse_not (s := s) fun g => absurd g.1 (of_decide_eq_false hz.out))
      clear lk hown
      go_wp2_with fail
      go_ret2
      exact ⟨0, 12, rfl, N.out, B2.out⟩
    | true =>
      by_cases ht : pb = true ∧ (t.size = 0 ∨ 6 < t.size)
      · obtain ⟨rfl, ht⟩ := ht
        have N := Lib.hid (parse_not (s := s) fun g => by
          have := g.2.2.1
          rw [ER.out, ET.out] at this
          have := this (of_decide_eq_true hp.out)
          omega)
        rcases ht with ht | ht
        · have em := empty_yes ht
          clear hown lk ht
          go_wp2_with fail
          go_ret2
          exact ⟨0, 12, rfl, N.out, B2.out⟩
        · have em := empty_no (t := t) (by omega)
          have ht' : (6 : Int) < (t.size : Int) := by omega
          clear hown lk ht
          go_wp2_with fail
          go_ret2
          exact ⟨0, 12, rfl, N.out, B2.out⟩
      · have ht6 : t.size ≤ 6 ∧ (pb = true → 1 ≤ t.size) := by
          cases pb with
          | true => exact ⟨Nat.le_of_not_lt fun h => ht ⟨rfl, Or.inr h⟩, fun _ => Nat.pos_of_ne_zero fun h => ht ⟨rfl, Or.inl h⟩⟩
          | false =>
            have e : tlP r = ⟨#[]⟩ := if_neg (of_decide_eq_false hp.out)
            rw [ET.out] at e
            rw [e]
            exact ⟨by decide, fun g => by cases g⟩
        obtain ⟨ht6, ht1⟩ := ht6
        have GT : Hid (allD t.data.toList → progT s) := Lib.hid fun ad => ⟨of_decide_eq_true hz.out, by rw [ER.out, EH.out]; exact lk, by
          rw [ER.out, ET.out]
          intro hlt
          have := ht1 (hp.out.symm.trans (decide_eq_true hlt))
          omega, by rw [ER.out, ET.out]; exact ad⟩
        have T6 := Lib.hid ht6
        have HO := Lib.hid (And.intro lk hown)
        have hcase : pb = false ∨ (pb = true ∧ t.toList.isEmpty = false) := by
          cases pb with
          | true => exact Or.inr ⟨rfl, empty_no (by have := ht1 rfl; omega)⟩
          | false => exact Or.inl rfl
        have i0 : 0 ≤ (t.size : Int) := by omega
        have i6 : (t.size : Int) ≤ 6 := by omega
        have i7 : ¬ (6 : Int) < (t.size : Int) := by omega
        clear ht ht1 ht6 lk hown hz hp
        rcases hcase with rfl | ⟨rfl, em⟩
        all_goals
          go_wp2_with fail
          refine (fields_any (pad6 t) P6 w2 (by decide) (by rw [pad6_size t T6.out]; omega) run6).mono ?_
          rintro e w3 ⟨hb3, hf2⟩
          have B3 := Lib.hid (below_then B2.out hb3)
          have b3 := Lib.hid hb3
          clear hb3
          rcases hf2 with ⟨lk2, v2, rfl, hown2⟩ | ⟨lk2, rfl⟩
          · have g := GT.out ((like6 t T6.out).1 lk2)
            obtain ⟨tp, hh, mv⟩ := prog_text g
            rw [ER.out, EH.out] at hh
            rw [ER.out, ET.out] at mv
            rw [grp6 t T6.out] at hown2
            obtain ⟨lk, hown⟩ := HO.out
            rw [hh] at lk hown
            rw [vals19 lk (by have := tp.1; omega)] at hown
            obtain ⟨g1, cap1, rfl, hg1, hc1⟩ := row_cells hown (by simp)
            obtain ⟨g2, cap2, rfl, hg2, hc2⟩ := row_cells hown2 (by simp)
            have q0 := (b3.out.cell (p := ⟨g1, 0, none⟩) hg1).trans (hc1 0 _ rfl)
            have q1 := (b3.out.cell (p := ⟨g1, 1, none⟩) hg1).trans (hc1 1 _ rfl)
            have q2 := (b3.out.cell (p := ⟨g1, 2, none⟩) hg1).trans (hc1 2 _ rfl)
            have q3 := (b3.out.cell (p := ⟨g1, 3, none⟩) hg1).trans (hc1 3 _ rfl)
            have q4 := (b3.out.cell (p := ⟨g1, 4, none⟩) hg1).trans (hc1 4 _ rfl)
            have q5 := (b3.out.cell (p := ⟨g1, 5, none⟩) hg1).trans (hc1 5 _ rfl)
            have q6 := hc2 0 _ rfl
            rw [← mv] at q6
            have lg1 : g1 < w3.heap.size := Nat.lt_of_lt_of_le hg1 b3.out.size
            have TP := Lib.hid tp
            clear lk2 hown2 hown hc1 hc2 hg1 mv tp g lk hh HO GT b3
            have FU := Lib.hid (fun w' => Mw.from_any (nm s 0 4) (nm s 5 7) (nm s 8 10) (nm s 11 13) (nm s 14 16) (nm s 17 19) (microV s) w')
            have PI : Hid (∀ a c, FromIs (nm s 0 4) (nm s 5 7) (nm s 8 10) (nm s 11 13) (nm s 14 16) (nm s 17 19) (microV s) a c → (c = 0 ∧ ParseIs s a 0) ∨ (c = 2 ∧ ParseIs s 0 12)) := Lib.hid fun a c hf => by
              rcases hf with ⟨f1, f2, f3⟩ | ⟨f1, f2, f3⟩
              · exact Or.inl ⟨f3, Or.inl ⟨⟨TP.out, f1⟩, f2, rfl⟩⟩
              · exact Or.inr ⟨f3, Or.inr ⟨fun k => f1 k.2, rfl, rfl⟩⟩
            clear TP
            generalize nm s 0 4 = a0 at *
            generalize nm s 5 7 = a1 at *
            generalize nm s 8 10 = a2 at *
            generalize nm s 11 13 = a3 at *
            generalize nm s 14 16 = a4 at *
            generalize nm s 17 19 = a5 at *
            generalize microV s = a6 at *
            go_wp2_with fail
            go_region_held3 (fun w' => w'.cell? ⟨g1, 0, none⟩ = some (.int .i64 a0) ∧ w'.cell? ⟨g1, 1, none⟩ = some (.int .i64 a1) ∧ w'.cell? ⟨g1, 2, none⟩ = some (.int .i64 a2) ∧ w'.cell? ⟨g1, 3, none⟩ = some (.int .i64 a3) ∧ w'.cell? ⟨g1, 4, none⟩ = some (.int .i64 a4) ∧ w'.cell? ⟨g1, 5, none⟩ = some (.int .i64 a5) ∧ w'.cell? ⟨g2, 0, none⟩ = some (.int .i64 a6)) (go_keep) (first | (go_at_call 110; refine (FU.out _).mono ?_; rintro e w4 ⟨ti, c, rfl, hfi, hb4⟩; have m0 := (hb4.cell (p := ⟨g1, 0, none⟩) lg1).trans q0; have m1 := (hb4.cell (p := ⟨g1, 1, none⟩) lg1).trans q1; have m2 := (hb4.cell (p := ⟨g1, 2, none⟩) lg1).trans q2; have m3 := (hb4.cell (p := ⟨g1, 3, none⟩) lg1).trans q3; have m4 := (hb4.cell (p := ⟨g1, 4, none⟩) lg1).trans q4; have m5 := (hb4.cell (p := ⟨g1, 5, none⟩) lg1).trans q5; have m6 := (hb4.cell (p := ⟨g2, 0, none⟩) hg2).trans q6))
            have B4 := Lib.hid (below_then B3.out.drew hb4)
            rcases PI.out ti c hfi with ⟨rfl, hpi⟩ | ⟨rfl, hpi⟩
            · go_wp2_with fail
              go_ret2
              exact ⟨ti, 0, rfl, hpi, B4.out⟩
            · go_wp2_with fail
              go_ret2
              exact ⟨0, 12, rfl, hpi, B4.out⟩
          · have N := Lib.hid (parse_not (s := s) fun g => lk2 ((like6 t T6.out).2 (by have := g.2.2.2; rwa [ER.out, ET.out] at this)))
            go_wp2_with fail
            go_ret2
            exact ⟨0, 12, rfl, N.out, B3.out⟩
  · have N := Lib.hid (parse_not (s := s) fun g => lk (by have := g.2.1; rwa [ER.out, EH.out] at this))
    cases zb
    all_goals
      go_wp2_with fail
      go_ret2
      exact ⟨0, 12, rfl, N.out, B2.out⟩
end Ap
end Go.Proofs.YtaghilgfldaaiaaGreatDoor
/-
  What ParseDay calls: slices.ContainsFunc at bytes, strconv.ParseUint at digits; and what its text says.
-/
namespace Go.Proofs.YtaghilgfldaaiaaGreatDoor
namespace Ap
open Go.RowKit Lw Go.Proofs.YtaghilgfldaaiaaGreatDoor.Mp

/-! ### What the program finds of a day text -/
end Ap
end Go.Proofs.YtaghilgfldaaiaaGreatDoor
/-
  Plain laws of MomentRounds, second part: the time of a text, and the text of that time; no walk here.
-/
namespace Go.Proofs.YtaghilgfldaaiaaGreatDoor
namespace At
open Go.RowKit Lw Ap Go.Proofs.YtaghilgfldaaiaaGreatDoor.Mp Go.Proofs.YtaghilgfldaaiaaGreatDoor.Mw

theorem take_dec (d : Nat) : ∀ j u, (decL u (d + j)).take d = decL (u / 10 ^ j) d
  | 0, u => by
    rw [Nat.add_zero, Nat.pow_zero, Nat.div_one]
    exact List.take_of_length_le (by rw [decL_len]; omega)
  | j + 1, u => by
    rw [← Nat.add_assoc, decL, List.take_append_of_le_length (by rw [decL_len]; omega), take_dec d j (u / 10), Nat.div_div_eq_div_mul, Nat.pow_succ, Nat.mul_comm (10 ^ j) 10]
theorem last_of {s : ByteArray} {x : List UInt8} {c : UInt8} (hs : s.data.toList = x ++ [c]) : bt s (s.size - 1) = (c.toNat : Int) := by
  have sz : s.size = x.length + 1 := by have := congrArg List.length hs; simpa using this
  rw [bt_L s _ (by omega), hs, sz, Nat.add_sub_cancel, List.getD_eq_getElem?_getD, List.getElem?_append_right (Nat.le_refl _), Nat.sub_self]
  rfl
theorem micro_le {u j : Nat} : u / 10 ^ j * 10 ^ j ≤ u ∧ u < u / 10 ^ j * 10 ^ j + 10 ^ j := by
  have e := Nat.div_add_mod u (10 ^ j)
  have l := Nat.mod_lt u (show 0 < 10 ^ j from Nat.pow_pos (by omega))
  rw [Nat.mul_comm] at e
  omega
theorem dec1 {u k : Nat} {l : List UInt8} (h : u < 10 ^ k) (e : decL u k = l) : numV l = u := by rw [← e, dec_val h]
theorem micro_of {s : ByteArray} {d U : Nat} (d6 : d ≤ 6) (z7 : U < 10 ^ 6) (sz : s.size = 20 + (if 0 < d then d + 1 else 0)) (hn : 0 < d → nm s 20 (s.size - 1) = numV ((decL U 6).take d)) :
    (0 < d → 0 ≤ nm s 20 (s.size - 1)) ∧ ∃ V : Nat, microV s = V ∧ V ≤ U ∧ U < V + 10 ^ (6 - d) := by
  by_cases c : 0 < d
  · have tk : (decL U 6).take d = decL (U / 10 ^ (6 - d)) d := by
      have := take_dec d (6 - d) U
      rwa [show d + (6 - d) = 6 by omega] at this
    have eN : nm s 20 (s.size - 1) = (U / 10 ^ (6 - d) : Nat) := by
      rw [hn c, tk]
      refine dec_val ?_
      refine Nat.div_lt_of_lt_mul ?_
      rw [← Nat.pow_add]
      rwa [show 6 - d + d = 6 by omega]
    rw [if_pos c] at sz
    refine ⟨fun _ => by rw [eN]; exact Int.natCast_nonneg _, U / 10 ^ (6 - d) * 10 ^ (6 - d), ?_, micro_le.1, micro_le.2⟩
    unfold microV tenI
    rw [if_neg (by omega), eN, show 27 - s.size = 6 - d by omega]
    exact (Int.natCast_mul _ _).symm
  · obtain rfl : d = 0 := by omega
    rw [if_neg (by omega)] at sz
    refine ⟨fun h => absurd h c, 0, ?_, by omega, by omega⟩
    unfold microV
    rw [if_pos (by omega)]
    rfl
/-- The time of a text is the time, with the digits left out. -/
theorem text_parse {t d : Int} {s : ByteArray} (a : TextIs t d s 0) : ∃ v, ParseIs s v 0 ∧ v ≤ t ∧ t - v < tenI (6 - d.toNat) ∧ s.size ≤ 27 := by
  rcases a with ⟨_, _, c⟩ | ⟨_, _, _, _, c⟩ | ⟨d0, d6, b1, b2, n, y, m, z, k, hd, hs, _⟩
  · omega
  · omega
  obtain ⟨d, rfl⟩ : ∃ e : Nat, d = e := ⟨d.toNat, by omega⟩
  rw [Int.toNat_natCast] at *
  obtain ⟨f1, f2⟩ := to_from hd
  obtain ⟨Y, M, D, H, I, S, U, e1, e2, e3, e4, e5, e6, e7, z1, z2, z3, z4, z5, z6, z7⟩ := date_nat hd
  rw [e3, e4, e5, e6, e7, e1, e2] at hs
  simp only [Int.toNat_natCast] at hs
  rw [e3, e4, e5, e6, e7] at f1 f2
  have hL := text_L Y M D H I S U d
  rw [← hs] at hL
  obtain ⟨c0, c1, c2, c3, x0, i0, i1, i2, i3⟩ := dec4 Y
  obtain ⟨c4, c5, x1, i4, i5⟩ := dec2 M
  obtain ⟨c6, c7, x2, i6, i7⟩ := dec2 D
  obtain ⟨c8, c9, x3, i8, i9⟩ := dec2 H
  obtain ⟨c10, c11, x4, i10, i11⟩ := dec2 I
  obtain ⟨c12, c13, x5, i12, i13⟩ := dec2 S
  rw [x0, x1, x2, x3, x4, x5] at hL
  obtain ⟨r, hr⟩ : ∃ r, (if 0 < d then 46 :: (decL U 6).take d else []) ++ [(90 : UInt8)] = r := ⟨_, rfl⟩
  rw [hr] at hL
  have hL : s.data.toList = l19 c0 c1 c2 c3 c4 c5 c6 c7 c8 c9 c10 c11 c12 c13 r := hL
  have rl : r.length = (if 0 < d then d + 1 else 0) + 1 := by
    rw [← hr]
    by_cases c : 0 < d
    · simp [c, decL_len]; omega
    · simp [c]
  have sz : s.size = 20 + (if 0 < d then d + 1 else 0) := by
    have := congrArg List.length hL
    simp [rl] at this
    omega
  have dd : d ≤ 6 := by omega
  have sz27 : s.size ≤ 27 := by rw [sz]; split <;> omega
  have sz20 : 20 ≤ s.size := by rw [sz]; omega
  obtain ⟨n1, n2, n3, n4, n5, n6⟩ := text_nums hL
  rw [dec1 z1 x0] at n1
  rw [dec1 z2 x1] at n2
  rw [dec1 z3 x2] at n3
  rw [dec1 z4 x3] at n4
  rw [dec1 z5 x4] at n5
  rw [dec1 z6 x5] at n6
  have hn : 0 < d → nm s 20 (s.size - 1) = numV ((decL U 6).take d) := fun c => by
    rw [nm_L hL _ _ (by omega)]
    have : s.size - 1 - 20 = d := by rw [sz, if_pos c]; omega
    rw [this]
    rw [if_pos c] at hr
    rw [← hr]
    have e : (List.drop 20 (l19 c0 c1 c2 c3 c4 c5 c6 c7 c8 c9 c10 c11 c12 c13 (46 :: List.take d (decL U 6) ++ [90]))) = List.take d (decL U 6) ++ [90] := rfl
    rw [e, List.take_append_of_le_length (by rw [List.length_take, decL_len]; omega), List.take_take]
    congr 2; omega
  obtain ⟨hp, V, mV, v1, v2⟩ := micro_of dd z7 sz hn
  have tp : textP s := by
    refine ⟨sz20, by rw [sz]; split <;> omega, sz27, ?_, ?_, fun h => ?_⟩
    · have : s.data.toList = l19 c0 c1 c2 c3 c4 c5 c6 c7 c8 c9 c10 c11 c12 c13 (if 0 < d then 46 :: (decL U 6).take d else []) ++ [90] := by rw [hL, ← hr]; rfl
      exact last_of this
    · refine like19 (a := c0) (b := c1) (c := c2) (d := c3) (e := c4) (f := c5) (g := c6) (h := c7) (i := c8) (j := c9) (k := c10) (l := c11) (m := c12) (n := c13) ?_ i0 i1 i2 i3 i4 i5 i6 i7 i8 i9 i10 i11 i12 i13
      rw [ext_L _ _ _ (by omega), hL]
      rfl
    · have c : 0 < d := by rw [sz] at h; split at h <;> omega
      refine ⟨?_, hp c⟩
      rw [bt_L s 19 (by omega), hL, ← hr, if_pos c]
      rfl
  obtain ⟨w1, w2, w3, w4, w5, w6, w7, w8, w9⟩ := f1
  refine ⟨textV s, Or.inl ⟨⟨tp, ?_⟩, rfl, rfl⟩, ?_, ?_, sz27⟩
  · rw [n1, n2, n3, n4, n5, n6, mV, ← e1, ← e2]
    exact ⟨w1, w2, w3, w4, w5, w6, by omega, by omega, w9⟩
  · unfold textV
    rw [n1, n2, n3, n4, n5, n6, mV, ← e1, ← e2, ← f2]
    unfold timeOf
    omega
  · unfold textV
    rw [n1, n2, n3, n4, n5, n6, mV, ← e1, ← e2]
    rw [← f2]
    unfold timeOf tenI
    omega
/-! ### Texts of days -/
end At
end Go.Proofs.YtaghilgfldaaiaaGreatDoor
/-
  The walk of ParseDay of package moment.
-/
namespace Go.Proofs.YtaghilgfldaaiaaGreatDoor
namespace Ap
open Go.RowKit Lw Go.Proofs.YtaghilgfldaaiaaGreatDoor.Mp

end Ap
end Go.Proofs.YtaghilgfldaaiaaGreatDoor
/-
  Plain facts of MomentNames: what the calls return at its constants; no walk here.
-/
namespace Go.Proofs.YtaghilgfldaaiaaGreatDoor
namespace At
open Go.RowKit Lw Ap Go.Proofs.YtaghilgfldaaiaaGreatDoor.Mp Go.Proofs.YtaghilgfldaaiaaGreatDoor.Mw

instance (y m d h i s u : Int) : Decidable (fromOk y m d h i s u) := by unfold fromOk wholeP leapday; infer_instance
instance (s : ByteArray) : Decidable (textP s) := by unfold textP; infer_instance
instance (s : ByteArray) : Decidable (okText s) := by unfold okText; infer_instance
instance (s : ByteArray) : Decidable (dayP s) := by unfold dayP; infer_instance
instance (s : ByteArray) : Decidable (okDay s) := by unfold okDay; infer_instance
theorem from_k {y m d h i s u : Int} (t : Int) (a : fromOk y m d h i s u) (b : timeOf y m d h i s u = t) : FromIs y m d h i s u t 0 := Or.inl ⟨a, b.symm, rfl⟩
/-! ### The constants of alive -/
end At
end Go.Proofs.YtaghilgfldaaiaaGreatDoor
/-
  Reading digits: number of the reference, value of package angle.
-/
namespace Go.Proofs.YtaghilgfldaaiaaGreatDoor
namespace Gp
open Go.RowKit Lw

def numL (l : List UInt8) : Int := l.foldl (fun n c => 10 * n + ((c.toNat : Int) - 48)) 0
def allD (l : List UInt8) : Prop := ∀ c ∈ l, 48 ≤ (c.toNat : Int) ∧ (c.toNat : Int) ≤ 57
instance (l : List UInt8) : Decidable (allD l) := by unfold allD; infer_instance
/-- The number that a string of digits is, or -1. -/
def numV (l : List UInt8) : Int := if allD l then numL l else -1
theorem numL_snoc (l : List UInt8) (c : UInt8) : numL (l ++ [c]) = 10 * numL l + ((c.toNat : Int) - 48) := by simp [numL]
theorem allD_snoc {l : List UInt8} {c : UInt8} (h : allD l) (h1 : 48 ≤ (c.toNat : Int)) (h2 : (c.toNat : Int) ≤ 57) : allD (l ++ [c]) := fun x hx => by
  rcases List.mem_append.1 hx with g | g
  · exact h x g
  · have := List.mem_singleton.1 g; subst this; exact ⟨h1, h2⟩
theorem take_snoc (s : ByteArray) (k : Nat) (h : k < s.size) : s.data.toList.take (k + 1) = s.data.toList.take k ++ [s[k]] := by
  rw [List.take_succ_eq_append_getElem (by simpa using h)]; rfl
theorem take_all (s : ByteArray) (k : Nat) (h : ¬ k < s.size) : s.data.toList.take k = s.data.toList := List.take_of_length_le (by simp; omega)
theorem numL_bd (l : List UInt8) : ∀ k, k ≤ l.length → allD (l.take k) → 0 ≤ numL (l.take k) ∧ numL (l.take k) < 10 ^ k
  | 0, _, _ => by simp [numL]
  | k + 1, hk, h => by
    have e : l.take (k + 1) = l.take k ++ [l[k]] := List.take_succ_eq_append_getElem (by omega)
    rw [e] at h ⊢
    have ih := numL_bd l k (by omega) (fun x hx => h x (List.mem_append_left _ hx))
    have hc := h l[k] (List.mem_append_right _ (List.mem_singleton.2 rfl))
    rw [numL_snoc, Int.pow_succ]
    omega
theorem pow_17 : ∀ k : Nat, k < 18 → (10 : Int) ^ k ≤ 100000000000000000 := by decide
theorem numL_17 (s : ByteArray) (k : Nat) (hk : k ≤ s.size) (h18 : k < 18) (h : allD (s.data.toList.take k)) : 0 ≤ numL (s.data.toList.take k) ∧ numL (s.data.toList.take k) < 100000000000000000 := by
  have := numL_bd s.data.toList k (by simpa using hk) h
  have := pow_17 k h18
  omega
theorem numV_not (s : ByteArray) (k : Nat) (hk : k < s.size) (h : ¬ (48 ≤ (s[k].toNat : Int) ∧ (s[k].toNat : Int) ≤ 57)) : numV s.data.toList = -1 := by
  unfold numV
  rw [if_neg]
  intro g
  exact h (g s[k] (by
    have : s[k] = s.data.toList[k]'(by simpa using hk) := rfl
    rw [this]; exact List.getElem_mem _))
theorem numV_all (s : ByteArray) (k : Nat) (hk : ¬ k < s.size) (h : allD (s.data.toList.take k)) : numL (s.data.toList.take k) = numV s.data.toList := by
  rw [take_all s k hk] at h ⊢
  unfold numV
  rw [if_pos h]
theorem byte_bd (b : UInt8) : 0 ≤ (b.toNat : Int) ∧ (b.toNat : Int) < 256 := by have := b.toNat_lt; omega
theorem ret_i {a b : Int} (h : a = b) : Ending.returned (.int .i64 a) = .returned (.int .i64 b) := by rw [h]
theorem val_i {a b : Int} (h : a = b) : Value.int .i64 a = .int .i64 b := by rw [h]

set_option maxHeartbeats 1000000 in
theorem number_any (s : ByteArray) (w : World) (hs : s.size ≤ 18) :
    Calls Tryz.prog 137 #[.string s] w fun e w' => e = .returned (.int .i64 (numV s.data.toList)) ∧ w = w' := by
  go_enter Tryz.func137, Tryz.ntmps137
  go_wp2
  go_loop [3, 4] (fun n i => ∃ k : Nat, k ≤ s.size ∧ i = .int .i64 k ∧ n = .int .i64 (numL (s.data.toList.take k)) ∧ Hid (allD (s.data.toList.take k))) (fun _ i => s.size - (intOf i).toNat)
  case atStart => exact ⟨0, Nat.zero_le _, rfl, rfl, Lib.hid (by intro c hc; simp at hc)⟩
  case round =>
    obtain ⟨k, hk, rfl, rfl, D⟩ := hrel
    by_cases hlt : k < s.size
    · have nb := numL_17 s k hk (by omega) D.out
      have bb := byte_bd s[k]
      by_cases d : 48 ≤ (s[k].toNat : Int) ∧ (s[k].toNat : Int) ≤ 57
      · have HS := Lib.hid (show numL (s.data.toList.take (k + 1)) = 10 * numL (s.data.toList.take k) + ((s[k].toNat : Int) - 48) by rw [take_snoc s k hlt, numL_snoc])
        have D2 := Lib.hid (show allD (s.data.toList.take (k + 1)) by rw [take_snoc s k hlt]; exact allD_snoc D.out d.1 d.2)
        obtain ⟨d1, d2⟩ := d
        go_wp2
        go_round
        case rel => exact ⟨k + 1, by omega, by go_num, val_i HS.out.symm, D2⟩
        case measure => simp [intOf]; omega
      · have N := Lib.hid (numV_not s k hlt d)
        have d' : (s[k].toNat : Int) < 48 ∨ 57 < (s[k].toNat : Int) := by omega
        clear d
        go_wp2
        all_goals first | (exfalso; omega) | (go_ret; exact ⟨ret_i N.out.symm, rfl⟩)
    · have N := Lib.hid (numV_all s k hlt D.out)
      go_wp2
      go_ret
      exact ⟨ret_i N.out, rfl⟩

theorem rune_not {s : ByteArray} {k : Nat} (hlt : k < s.size) : (Utf8.decode s k = ((s[k]'hlt).toNat, 1)) ∨ (¬ (48 ≤ (s[k].toNat : Int) ∧ (s[k].toNat : Int) ≤ 57) ∧ 128 ≤ ((Utf8.decode s k).1 : Int) ∧ ((Utf8.decode s k).1 : Int) ≤ 2147483647) := by
  by_cases ha : (s[k]'hlt).toNat < 128
  · exact Or.inl (decode_ascii s k hlt ha)
  · have := (decode_high s k hlt (by omega)).1
    have := decode_le s k
    exact Or.inr ⟨by omega, by omega, by omega⟩

set_option maxHeartbeats 1000000 in
theorem value_any (s : ByteArray) (w : World) (hs : s.size ≤ 18) :
    Calls Tryz.prog 182 #[.string s] w fun e w' => e = .returned (.int .i64 (numV s.data.toList)) ∧ ∃ k, w' = w.iter s k := by
  go_enter Tryz.func182, Tryz.ntmps182
  go_wp2
  go_loopw [3] (fun n w' => ∃ k : Nat, k ≤ s.size ∧ w' = w.iter s k ∧ n = .int .i64 (numL (s.data.toList.take k)) ∧ Hid (allD (s.data.toList.take k))) (fun _ w' => s.size - w'.iterPos w.heap.size)
  case atStart => exact ⟨0, Nat.zero_le _, rfl, rfl, Lib.hid (by intro c hc; simp at hc)⟩
  case round =>
    obtain ⟨k, hk, rfl, rfl, D⟩ := hrel
    by_cases hlt : k < s.size
    · have hnx : ∀ ty, (Instr.next (.pointer (some ⟨w.heap.size, 0, none⟩)) true ty).run Tryz.prog (w.iter s k) = _ := fun ty => run_next_any w s k ty hlt
      have nb := numL_17 s k hk (by omega) D.out
      have bb := byte_bd s[k]
      rcases rune_not hlt with hr | ⟨d, r1, r2⟩
      · rw [hr] at hnx
        by_cases d : 48 ≤ (s[k].toNat : Int) ∧ (s[k].toNat : Int) ≤ 57
        · have HS := Lib.hid (show numL (s.data.toList.take (k + 1)) = 10 * numL (s.data.toList.take k) + ((s[k].toNat : Int) - 48) by rw [take_snoc s k hlt, numL_snoc])
          have D2 := Lib.hid (show allD (s.data.toList.take (k + 1)) by rw [take_snoc s k hlt]; exact allD_snoc D.out d.1 d.2)
          obtain ⟨d1, d2⟩ := d
          go_wp2
          go_roundw
          case rel => exact ⟨k + 1, by omega, rfl, val_i HS.out.symm, D2⟩
          case measure => simp; omega
        · have N := Lib.hid (numV_not s k hlt d)
          have d' : (s[k].toNat : Int) < 48 ∨ 57 < (s[k].toNat : Int) := by omega
          clear d
          go_wp2
          all_goals first | (exfalso; omega) | (go_ret; exact ⟨ret_i N.out.symm, _, rfl⟩)
      · have N := Lib.hid (numV_not s k hlt d)
        clear d
        generalize (Utf8.decode s k).1 = r at *
        go_wp2
        all_goals first | (exfalso; omega) | (go_ret; exact ⟨ret_i N.out.symm, _, rfl⟩)
    · have hnx : ∀ ty, (Instr.next (.pointer (some ⟨w.heap.size, 0, none⟩)) true ty).run Tryz.prog (w.iter s k) = _ := fun ty => run_next_end w s k ty hlt
      have N := Lib.hid (numV_all s k hlt D.out)
      go_wp2
      go_ret
      exact ⟨ret_i N.out, _, rfl⟩
end Gp
end Go.Proofs.YtaghilgfldaaiaaGreatDoor
/-
  Powers of ten, rounding, the common divisor: package angle and the reference.
-/
namespace Go.Proofs.YtaghilgfldaaiaaGreatDoor
namespace Gp
open Go.RowKit Lw

/-- A power of ten. -/
def tenI (k : Nat) : Int := (10 ^ k : Nat)
theorem tenI_s (k : Nat) : tenI (k + 1) = tenI k * 10 := by unfold tenI; rw [Nat.pow_succ]; omega
theorem tenI_bd : ∀ k : Nat, k ≤ 18 → 1 ≤ tenI k ∧ tenI k ≤ 1000000000000000000 := by decide
theorem tenI_17 : ∀ k : Nat, k < 18 → 1 ≤ tenI k ∧ tenI k ≤ 100000000000000000 := by decide

set_option maxHeartbeats 400000 in
theorem ten_any (n : Nat) (w : World) (hn : n ≤ 18) :
    Calls Tryz.prog 124 #[.int .i64 n] w fun e w' => e = .returned (.int .i64 (tenI n)) ∧ w = w' := by
  go_enter Tryz.func124, Tryz.ntmps124
  go_wp2
  go_loop [3, 5] (fun p i => ∃ k : Nat, k ≤ n ∧ i = .int .i64 k ∧ p = .int .i64 (tenI k)) (fun _ i => n - (intOf i).toNat)
  case atStart => exact ⟨0, Nat.zero_le _, rfl, rfl⟩
  case round =>
    obtain ⟨k, hk, rfl, rfl⟩ := hrel
    by_cases hlt : k < n
    · have nb := tenI_17 k (by omega)
      have HS := Lib.hid (tenI_s k)
      go_wp2
      go_round
      case rel => exact ⟨k + 1, by omega, by go_num, val_i HS.out.symm⟩
      case measure => simp [intOf]; omega
    · obtain rfl : k = n := by omega
      go_wp2
      go_ret
      exact ⟨rfl, rfl⟩

set_option maxHeartbeats 400000 in
theorem rten_any (n : Nat) (w : World) (hn : n ≤ 18) :
    Calls Tryz.prog 90 #[.int .i64 n] w fun e w' => e = .returned (.int .i64 (tenI n)) ∧ w = w' := by
  go_enter Tryz.func90, Tryz.ntmps90
  go_wp2
  go_loop [3, 4] (fun p i => ∃ k : Nat, k ≤ n ∧ i = .int .i64 k ∧ p = .int .i64 (tenI k)) (fun _ i => n - (intOf i).toNat)
  case atStart => exact ⟨0, Nat.zero_le _, rfl, rfl⟩
  case round =>
    obtain ⟨k, hk, rfl, rfl⟩ := hrel
    by_cases hlt : k < n
    · have nb := tenI_17 k (by omega)
      have HS := Lib.hid (show tenI (k + 1) = 10 * tenI k by rw [tenI_s]; omega)
      go_wp2
      go_round
      case rel => exact ⟨k + 1, by omega, by go_num, val_i HS.out.symm⟩
      case measure => simp [intOf]; omega
    · obtain rfl : k = n := by omega
      go_wp2
      go_ret
      exact ⟨rfl, rfl⟩

/-- Half to even. -/
def rndI (a u : Int) : Int := a / u + (if u < 2 * (a % u) ∨ (2 * (a % u) = u ∧ (a / u) % 2 = 1) then 1 else 0)
end Gp
end Go.Proofs.YtaghilgfldaaiaaGreatDoor
/-
  Rounding: package angle and the reference.
-/
namespace Go.Proofs.YtaghilgfldaaiaaGreatDoor
namespace Gp
open Go.RowKit Lw

theorem and_one (q : Nat) (hq : q ≤ 1000000000000000000) : bits .and .i64 (q : Int) 1 = (q : Int) % 2 := by
  show IntKind.i64.wrap ((BitVec.ofInt 64 (q : Int) &&& BitVec.ofInt 64 1).toNat : Int) = _
  have e : (BitVec.ofInt 64 (q : Int)).toNat = q := ofInt_u64 q (by omega)
  have e1 : (BitVec.ofInt 64 1).toNat = 1 := by decide
  rw [BitVec.toNat_and, e, e1, nat_mask1, IntWalk.i64_in _ (by omega)]
  omega
set_option maxRecDepth 100000 in
set_option maxHeartbeats 1000000 in
theorem round_any (a u : Nat) (w : World) (hu : 0 < u) (ha : a ≤ 1000000000000000000) (hu2 : u ≤ 1000000000000000000) :
    Calls Tryz.prog 125 #[.int .i64 a, .int .i64 u] w fun e w' => e = .returned (.int .i64 (rndI a u)) ∧ ∃ m, w' = w.drewN m := by
  have t1 : (a : Int).tdiv (u : Int) = ((a / u : Nat) : Int) := rfl
  have t2 : (a : Int).tmod (u : Int) = ((a % u : Nat) : Int) := rfl
  have m1 : a % u < u := Nat.mod_lt _ hu
  have m2 : a / u ≤ a := Nat.div_le_self _ _
  have hu0 : (u : Int) ≠ 0 := by omega
  have R := Lib.hid (show rndI a u = ((a / u : Nat) : Int) + (if (u : Int) < 2 * ((a % u : Nat) : Int) ∨ (2 * ((a % u : Nat) : Int) = u ∧ ((a / u : Nat) : Int) % 2 = 1) then 1 else 0) from rfl)
  generalize hq : a / u = q at *
  generalize hr : a % u = r at *
  clear hq hr
  have t3 := and_one q (by omega)
  by_cases h2 : 2 * r = u
  · have hs : (u : Int) - (r : Int) = r := by omega
    go_enter Tryz.func125, Tryz.ntmps125
    go_wp2
    go_quiet (fail)
    go_wp2
    all_goals
      go_ret
      refine ⟨ret_i ?_, _, rfl⟩
      rw [R.out]
      simp only [beq_iff_eq, beq_eq_false_iff_ne, ne_eq] at *
      split <;> omega
  · have hs : ((r : Int) == (u : Int) - (r : Int)) = false := beq_eq_false_iff_ne.2 (by omega)
    go_enter Tryz.func125, Tryz.ntmps125
    go_wp2
    go_quiet (fail)
    go_wp2
    all_goals
      go_ret
      refine ⟨ret_i ?_, _, rfl⟩
      rw [R.out]
      simp only [beq_iff_eq, beq_eq_false_iff_ne, ne_eq] at *
      split <;> omega

set_option maxHeartbeats 1000000 in
theorem rrounded_any (a u : Nat) (w : World) (hu : 0 < u) (ha : a ≤ 1000000000000000000) (hu2 : u ≤ 1000000000000000000) :
    Calls Tryz.prog 89 #[.int .i64 a, .int .i64 u] w fun e w' => e = .returned (.int .i64 (rndI a u)) ∧ ∃ m, w' = w.drewN m := by
  have t1 : (a : Int).tdiv (u : Int) = ((a / u : Nat) : Int) := rfl
  have t2 : (a : Int).tmod (u : Int) = ((a % u : Nat) : Int) := rfl
  have m1 : a % u < u := Nat.mod_lt _ hu
  have m2 : a / u ≤ a := Nat.div_le_self _ _
  have hu0 : (u : Int) ≠ 0 := by omega
  have R := Lib.hid (show rndI a u = ((a / u : Nat) : Int) + (if (u : Int) < 2 * ((a % u : Nat) : Int) ∨ (2 * ((a % u : Nat) : Int) = u ∧ ((a / u : Nat) : Int) % 2 = 1) then 1 else 0) from rfl)
  generalize hq : a / u = q at *
  generalize hr : a % u = r at *
  clear hq hr
  have t3 : (q : Int).tmod 2 = (q : Int) % 2 := Int.tmod_eq_emod_of_nonneg (by omega)
  go_enter Tryz.func89, Tryz.ntmps89
  go_wp2
  go_quiet (fail)
  go_wp2
  all_goals
    go_ret
    refine ⟨ret_i ?_, _, rfl⟩
    rw [R.out]
    simp only [beq_iff_eq, beq_eq_false_iff_ne, ne_eq] at *
    split <;> omega
end Gp
end Go.Proofs.YtaghilgfldaaiaaGreatDoor
/-
  The reference's common divisor with 3,600,000,000.
-/
namespace Go.Proofs.YtaghilgfldaaiaaGreatDoor
namespace Gp
open Go.RowKit Lw

set_option maxHeartbeats 1000000 in
theorem common_any (a0 : Nat) (w : World) (h : 0 < a0) (ha : a0 ≤ 1000000000000000000) :
    Calls Tryz.prog 91 #[.int .i64 a0] w fun e w' => e = .returned (.int .i64 (Nat.gcd a0 3600000000 : Nat)) ∧ Below w.heap.size w w' := by
  go_enter Tryz.func91, Tryz.ntmps91
  go_wp2
  go_loopw [0, 3] (fun x y wr => ∃ a b : Nat, x = .int .i64 a ∧ y = .int .i64 b ∧ Hid (Nat.gcd a b = Nat.gcd a0 3600000000) ∧ a ≤ 1000000000000000000 ∧ b ≤ 1000000000000000000 ∧ Below w.heap.size w wr) (fun _ y _ => (intOf y).toNat)
  case atStart => exact ⟨a0, 3600000000, rfl, rfl, Lib.hid rfl, ha, by omega, Below.refl _ _⟩
  case round =>
    obtain ⟨a, b, rfl, rfl, G, ba, bb, hB⟩ := hrel
    by_cases hb : 0 < b
    · have t2 : (a : Int).tmod (b : Int) = ((a % b : Nat) : Int) := rfl
      have m1 : a % b < b := Nat.mod_lt _ hb
      have hb0 : (b : Int) ≠ 0 := by omega
      have G2 := Lib.hid (show Nat.gcd b (a % b) = Nat.gcd a0 3600000000 by rw [← G.out, Nat.gcd_comm b (a % b), ← Nat.gcd_rec, Nat.gcd_comm])
      generalize hr : a % b = r at *
      clear hr
      go_wp2
      go_quiet (fail)
      go_wp2
      go_roundw
      case rel => exact ⟨b, r, rfl, rfl, G2, bb, by omega, drewN_below2 hB _⟩
      case measure => simp [intOf]; omega
    · obtain rfl : b = 0 := by omega
      have G2 := Lib.hid (show (a : Int) = (Nat.gcd a0 3600000000 : Nat) by rw [← G.out, Nat.gcd_zero_right])
      go_wp2
      go_ret
      exact ⟨ret_i G2.out, hB⟩
end Gp
end Go.Proofs.YtaghilgfldaaiaaGreatDoor
/-
  The parts of a text of hours or degrees: the reference.
-/
namespace Go.Proofs.YtaghilgfldaaiaaGreatDoor
namespace Gp
open Go.RowKit Lw

/-- The number of two digits at a place, or -1. -/
def two (s : ByteArray) (i : Nat) : Int := numV (s.extract i (i + 2)).data.toList
theorem at_of (s : ByteArray) (i : Nat) (h : i < s.size) : ((s.get! i).toNat : Int) = (s[i].toNat : Int) := by simp [ByteArray.get!, getElem!_pos, h]; rfl
/-- Where the spaces and the point stand. -/
def shapeP (s : ByteArray) : Prop := 8 ≤ s.size ∧ ((s.get! 2).toNat : Int) = 32 ∧ ((s.get! 5).toNat : Int) = 32 ∧ s.size ≠ 9 ∧ s.size ≤ 15 ∧ (8 < s.size → ((s.get! 8).toNat : Int) = 46)
def restOf (s : ByteArray) : ByteArray := if s.size = 8 then ByteArray.empty else s.extract 9 s.size
def validP (s : ByteArray) : Prop := shapeP s ∧ 0 ≤ two s 0 ∧ (0 ≤ two s 3 ∧ two s 3 ≤ 59) ∧ (0 ≤ two s 6 ∧ two s 6 ≤ 59) ∧ 0 ≤ numV (restOf s).data.toList
end Gp
end Go.Proofs.YtaghilgfldaaiaaGreatDoor
/-
  The parts of a text of hours or degrees: the reference, where spaces and point stand right.
-/
namespace Go.Proofs.YtaghilgfldaaiaaGreatDoor
namespace Gp
open Go.RowKit Lw

theorem range_set {w : World} {b : Nat} {cs : List Value} (h : w.rangeAt b 0 cs) (j : Nat) (hj : j < cs.length) (v : Value) : (w.setCell ⟨b, j, none⟩ v).rangeAt b 0 (cs.set j v) := fun i x hx => by
  have hu : w.cell? ⟨b, j, none⟩ = some cs[j] := by have := h j cs[j] (List.getElem?_eq_getElem hj); simpa using this
  have hi : i < cs.length := by have := (List.getElem?_eq_some_iff.1 hx).1; simpa using this
  rw [Nat.zero_add]
  by_cases e : j = i
  · subst e
    rw [World.cell?_setCell_same _ _ _ hu]
    rw [List.getElem?_set_self hj] at hx
    exact hx
  · rw [World.cell?_setCell_other _ _ _ _ (by intro g; injection g with _ g2 _; exact e g2)]
    rw [List.getElem?_set_ne e] at hx
    have := h i x hx
    rwa [Nat.zero_add] at this
end Gp
end Go.Proofs.YtaghilgfldaaiaaGreatDoor
/-
  What the angle of a text is: hours and degrees with parts.
-/
namespace Go.Proofs.YtaghilgfldaaiaaGreatDoor
namespace Gp
open Go.RowKit Lw

theorem numV_bd (l : List UInt8) : -1 ≤ numV l ∧ numV l < 10 ^ l.length := by
  unfold numV
  have p : (0 : Int) < 10 ^ l.length := Int.pow_pos (by omega)
  split
  · rename_i h
    have := numL_bd l l.length (Nat.le_refl _) (by rw [List.take_length]; exact h)
    rw [List.take_length] at this
    omega
  · omega
/-- A whole number of seconds. -/
def secs (s : ByteArray) : Int := two s 0 * 3600 + two s 3 * 60 + two s 6
/-- The angle of a text whose second is so many micro-arcseconds. -/
def angV (s : ByteArray) (u : Int) : Int := secs s * u + numV (restOf s).data.toList * (u / tenI (restOf s).size)
theorem div_bd {u t : Int} (hu : 0 ≤ u) (ht : 1 ≤ t) : 0 ≤ u / t ∧ u / t ≤ u := ⟨Int.ediv_nonneg hu (by omega), Int.ediv_le_self _ hu⟩
theorem mul_bd {a b m n : Int} (h0 : 0 ≤ a) (h1 : a ≤ m) (g0 : 0 ≤ b) (g1 : b ≤ n) : 0 ≤ a * b ∧ a * b ≤ m * n :=
  ⟨Int.mul_nonneg h0 g0, Int.le_trans (Int.mul_le_mul_of_nonneg_right h1 g0) (Int.mul_le_mul_of_nonneg_left g1 (by omega))⟩
def RaIs (s : ByteArray) (v e : Int) : Prop := (validP s ∧ two s 0 ≤ 23 ∧ v = angV s 15000000 ∧ e = 0) ∨ (¬ (validP s ∧ two s 0 ≤ 23) ∧ v = 0 ∧ e = 12)
theorem RaIs.det {s : ByteArray} {v e v' e' : Int} (h : RaIs s v e) (g : RaIs s v' e') : v = v' ∧ e = e' := by
  rcases h with ⟨h1, h2, h3, h4⟩ | ⟨h1, h2, h3⟩ <;> rcases g with ⟨g1, g2, g3, g4⟩ | ⟨g1, g2, g3⟩
  · exact ⟨by rw [h3, g3], by rw [h4, g4]⟩
  · exact absurd ⟨h1, h2⟩ g1
  · exact absurd ⟨g1, g2⟩ h1
  · exact ⟨by rw [h2, g2], by rw [h3, g3]⟩
/-- The text of a declination: a sign, and the rest. -/
def signP (s : ByteArray) : Prop := 0 < s.size ∧ (((s.get! 0).toNat : Int) = 43 ∨ ((s.get! 0).toNat : Int) = 45)
def tailOf (s : ByteArray) : ByteArray := s.extract 1 s.size
def decOk (s : ByteArray) : Prop := signP s ∧ validP (tailOf s) ∧ two (tailOf s) 0 ≤ 90 ∧ angV (tailOf s) 1000000 ≤ 324000000000
def DecIs (s : ByteArray) (v e : Int) : Prop := (decOk s ∧ v = (if ((s.get! 0).toNat : Int) = 45 then -angV (tailOf s) 1000000 else angV (tailOf s) 1000000) ∧ e = 0) ∨ (¬ decOk s ∧ v = 0 ∧ e = 12)
theorem DecIs.det {s : ByteArray} {v e v' e' : Int} (h : DecIs s v e) (g : DecIs s v' e') : v = v' ∧ e = e' := by
  rcases h with ⟨h1, h3, h4⟩ | ⟨h1, h2, h3⟩ <;> rcases g with ⟨g1, g3, g4⟩ | ⟨g1, g2, g3⟩
  · exact ⟨by rw [h3, g3], by rw [h4, g4]⟩
  · exact absurd h1 g1
  · exact absurd g1 h1
  · exact ⟨by rw [h2, g2], by rw [h3, g3]⟩
end Gp
end Go.Proofs.YtaghilgfldaaiaaGreatDoor
/-
  Plain law of observations: names, checks, and what the columns of a line say; no walk here.
-/
namespace Go.Proofs.YtaghilgfldaaiaaGreatDoor
namespace Op
open Go.RowKit Lw Go.Proofs.YtaghilgfldaaiaaGreatDoor.Ap Go.Proofs.YtaghilgfldaaiaaGreatDoor.Mp

/-! ### Words -/
def dgP (c : Int) : Prop := 48 ≤ c ∧ c ≤ 57
def ltP (c : Int) : Prop := (65 ≤ c ∧ c ≤ 90) ∨ (97 ≤ c ∧ c ≤ 122)
instance (c : Int) : Decidable (dgP c) := by unfold dgP; infer_instance
instance (c : Int) : Decidable (ltP c) := by unfold ltP; infer_instance
def dgB (c : Int) : Bool := decide (dgP c)
def ltB (c : Int) : Bool := decide (ltP c)
/-- Digits and letters alone. -/
def wordP (l : List UInt8) : Prop := ∀ c ∈ l, dgP (c.toNat : Int) ∨ ltP (c.toNat : Int)
instance (l : List UInt8) : Decidable (wordP l) := by unfold wordP; infer_instance
def wordB (l : List UInt8) : Bool := decide (wordP l)
theorem wordP_snoc {l : List UInt8} {c : UInt8} (h : wordP l) (g : dgP (c.toNat : Int) ∨ ltP (c.toNat : Int)) : wordP (l ++ [c]) := fun x hx => by
  rcases List.mem_append.1 hx with hx | hx
  · exact h x hx
  · rw [List.mem_singleton.1 hx]; exact g
theorem word_not (s : ByteArray) (k : Nat) (hk : k < s.size) (h : ¬ (dgP (s[k].toNat : Int) ∨ ltP (s[k].toNat : Int))) : wordB s.data.toList = false := by
  refine decide_eq_false fun g => h (g _ ?_)
  have : s[k] = s.data.toList[k]'(by simpa using hk) := rfl
  rw [this]; exact List.getElem_mem _
theorem word_all (s : ByteArray) (k : Nat) (hk : ¬ k < s.size) (h : wordP (s.data.toList.take k)) : wordB s.data.toList = true := by
  rw [take_all s k hk] at h
  exact decide_eq_true h
/-- Digits alone, and at least one. -/
def digsP (l : List UInt8) : Prop := 0 < l.length ∧ allD l
instance (l : List UInt8) : Decidable (allD l) := by unfold allD; infer_instance
instance (l : List UInt8) : Decidable (digsP l) := by unfold digsP; infer_instance
def digsB (l : List UInt8) : Bool := decide (digsP l)
/-- The name of a numbered object. -/
def numbP (s : ByteArray) : Prop := s.size = 5 ∧ ((bt s 0 = 126 ∧ wordP (s.extract 1 5).data.toList) ∨ (wordP (s.extract 0 1).data.toList ∧ digsP (s.extract 1 5).data.toList))
instance (s : ByteArray) : Decidable (numbP s) := by unfold numbP; infer_instance
def numbB (s : ByteArray) : Bool := decide (numbP s)
def nameP (s : ByteArray) : Prop := numbP s ∨ (1 ≤ s.size ∧ s.size ≤ 7 ∧ wordP s.data.toList)
instance (s : ByteArray) : Decidable (nameP s) := by unfold nameP; infer_instance
def nameB (s : ByteArray) : Bool := decide (nameP s)
/-! ### Observations -/
structure Ob where
  name : ByteArray
  site : ByteArray
  t : Int
  ra : Int
  dec : Int
  sg : Int
  mag : Int
  band : Int
abbrev obsC (o : Ob) : List Value := [.string o.name, .string o.site, .int .i64 o.t, .int .i64 o.ra, .int .i64 o.dec, .int .i64 o.sg, .int .i64 o.mag, .int .u8 o.band]
abbrev obsV (o : Ob) : Value := .agg #[.string o.name, .string o.site, .int .i64 o.t, .int .i64 o.ra, .int .i64 o.dec, .int .i64 o.sg, .int .i64 o.mag, .int .u8 o.band]
def zeroO : Ob := ⟨ByteArray.empty, ByteArray.empty, 0, 0, 0, 0, 0, 0⟩
/-- A time of which a date can be told. -/
def timeP (t : Int) : Prop := bgv (-10227) 1972 1 ≤ t ∧ t < bgv 36525 2100 1
def magP (m b : Int) : Prop := (m = 9999 ∧ b = 32) ∨ (-500 ≤ m ∧ m ≤ 3000 ∧ (b = 32 ∨ ltP b))
def okO (o : Ob) : Prop := timeP o.t ∧ nameP o.name ∧ o.site.size = 3 ∧ wordP o.site.data.toList ∧ 0 ≤ o.ra ∧ o.ra < 1296000000000 ∧ -324000000000 ≤ o.dec ∧ o.dec ≤ 324000000000 ∧ 1 ≤ o.sg ∧ o.sg ≤ 10000000000 ∧ magP o.mag o.band
instance (m b : Int) : Decidable (magP m b) := by unfold magP; infer_instance
instance (t : Int) : Decidable (timeP t) := by unfold timeP; infer_instance
instance (o : Ob) : Decidable (okO o) := by unfold okO; infer_instance
def checkC (o : Ob) : Int := if okO o then 0 else 8
/-! ### Columns -/
/-- Without spaces at the end. -/
def cutL (l : List UInt8) : List UInt8 := (l.reverse.dropWhile (fun c => c == 32)).reverse
def cutS (s : ByteArray) : ByteArray := ⟨(cutL s.data.toList).toArray⟩
def blankP (s : ByteArray) : Prop := ∀ c ∈ s.data.toList, c = 32
instance (s : ByteArray) : Decidable (blankP s) := by unfold blankP; infer_instance
/-- How many bytes stand behind the first point, or 0. -/
def decs (s : ByteArray) : Nat := s.size - ptS s - 1
def magN (s : ByteArray) : Int := 100 * (bt s 1 - 48) + 10 * (bt s 3 - 48) + (if bt s 4 = 32 then 0 else bt s 4 - 48)
/-- What a column of a magnitude says. -/
def MagIs (s : ByteArray) (m : Int) : Prop := bt s 2 = 46 ∧ dgP (bt s 1) ∧ dgP (bt s 3) ∧ (dgP (bt s 4) ∨ bt s 4 = 32) ∧
  ((bt s 0 = 45 ∧ m = -magN s ∧ 0 < magN s) ∨ (bt s 0 = 32 ∧ m = magN s) ∨ (dgP (bt s 0) ∧ bt s 0 ≠ 48 ∧ m = magN s + 1000 * (bt s 0 - 48) ∧ m ≤ 3000))
theorem MagIs.uniq {s : ByteArray} {m m' : Int} (a : MagIs s m) (b : MagIs s m') : m = m' := by
  obtain ⟨_, _, _, _, a⟩ := a
  obtain ⟨_, _, _, _, b⟩ := b
  unfold dgP at *
  omega
/-- What a line says of an observation. -/
structure Good (s : ByteArray) (o : Ob) : Prop where
  size : s.size = 80
  mark : bt s 12 = 32 ∧ bt s 13 = 32 ∧ bt s 14 = 67
  b1 : blankP (s.extract 56 65)
  b2 : blankP (s.extract 71 77)
  p : 3 ≤ decs (cutS (s.extract 15 32)) ∧ decs (cutS (s.extract 15 32)) ≤ 6
  q : 1 ≤ decs (cutS (s.extract 32 44)) ∧ decs (cutS (s.extract 32 44)) ≤ 3
  r : decs (cutS (s.extract 44 56)) ≤ 2
  day : PDayIs (cutS (s.extract 15 32)) o.t 0
  ra : Gp.RaIs (cutS (s.extract 32 44)) o.ra 0
  dec : Gp.DecIs (cutS (s.extract 44 56)) o.dec 0
  site : o.site = s.extract 77 80
  sg : o.sg = (if decs (cutS (s.extract 44 56)) = 0 then 1000000 else if decs (cutS (s.extract 44 56)) = 1 then 300000 else 100000)
  name : (blankP (s.extract 0 5) ∧ o.name = cutS (s.extract 5 12) ∧ ¬ numbP o.name) ∨ (¬ blankP (s.extract 0 5) ∧ o.name = s.extract 0 5 ∧ numbP o.name ∧ blankP (s.extract 5 12))
  mag : (blankP (s.extract 65 71) ∧ o.mag = 9999 ∧ o.band = 32) ∨ (¬ blankP (s.extract 65 71) ∧ MagIs (s.extract 65 70) o.mag ∧ o.band = bt s 70)
  ok : okO o
theorem Good.uniq {s : ByteArray} {o o' : Ob} (a : Good s o) (b : Good s o') : o = o' := by
  have e1 := (a.day.uniq b.day).1
  have e2 := (a.ra.det b.ra).1
  have e3 := (a.dec.det b.dec).1
  have e4 := a.site.trans b.site.symm
  have e5 := a.sg.trans b.sg.symm
  have e6 : o.name = o'.name := by
    rcases a.name with ⟨x1, x2, _⟩ | ⟨x1, x2, _⟩ <;> rcases b.name with ⟨y1, y2, _⟩ | ⟨y1, y2, _⟩
    · rw [x2, y2]
    · exact absurd x1 y1
    · exact absurd y1 x1
    · rw [x2, y2]
  have e7 : o.mag = o'.mag ∧ o.band = o'.band := by
    rcases a.mag with ⟨x1, x2, x3⟩ | ⟨x1, x2, x3⟩ <;> rcases b.mag with ⟨y1, y2, y3⟩ | ⟨y1, y2, y3⟩
    · exact ⟨by omega, by omega⟩
    · exact absurd x1 y1
    · exact absurd y1 x1
    · exact ⟨x2.uniq y2, by omega⟩
  obtain ⟨e7, e8⟩ := e7
  cases o; cases o'
  simp only at e1 e2 e3 e4 e5 e6 e7 e8
  rw [e1, e2, e3, e4, e5, e6, e7, e8]
/-- What Parse returns. -/
def ObsIs (s : ByteArray) (o : Ob) (c : Int) : Prop := (Good s o ∧ c = 0) ∨ ((∀ x, ¬ Good s x) ∧ o = zeroO ∧ c = 12)
theorem ObsIs.uniq {s : ByteArray} {o o' : Ob} {c c' : Int} (a : ObsIs s o c) (b : ObsIs s o' c') : o = o' ∧ c = c' := by
  rcases a with ⟨a1, a2⟩ | ⟨a1, a2, a3⟩ <;> rcases b with ⟨b1, b2⟩ | ⟨b1, b2, b3⟩
  · exact ⟨a1.uniq b1, by omega⟩
  · exact absurd a1 (b1 _)
  · exact absurd b1 (a1 _)
  · exact ⟨by rw [a2, b2], by omega⟩
/-! ### Lines -/
def spL (n : Nat) : List UInt8 := List.replicate n 32
/-- The text of a magnitude. -/
def magB (m : Int) : List UInt8 := (if m < 0 then [45] else []) ++ Lib.itoa ((m.natAbs / 100 : Nat) : Int) ++ [46] ++ At.decL m.natAbs 2
def magL (m : Int) : List UInt8 := spL (5 - (magB m).length) ++ magB m
def nameF (s : ByteArray) : List UInt8 := if numbP s then s.data.toList ++ spL 9 else spL 5 ++ s.data.toList ++ spL (9 - s.size)
def magF (m b : Int) : List UInt8 := if m = 9999 then spL 6 else magL m ++ [UInt8.ofNat b.toNat]
end Op
end Go.Proofs.YtaghilgfldaaiaaGreatDoor
/-
  Reading hours or degrees: package angle's read.
-/
namespace Go.Proofs.YtaghilgfldaaiaaGreatDoor
namespace Gp
open Go.RowKit Lw

def ReadIs (s : ByteArray) (H a p : Int) (d : Nat) (ok : Bool) : Prop :=
  (ok = true ∧ validP s ∧ two s 0 ≤ H ∧ a = secs s ∧ p = numV (restOf s).data.toList ∧ d = (restOf s).size) ∨ (ok = false ∧ ¬ (validP s ∧ two s 0 ≤ H) ∧ (0 ≤ a ∧ a ≤ 1000000) ∧ (-1 ≤ p ∧ p ≤ 999999) ∧ d ≤ 6)
def ReadPost (s : ByteArray) (H : Int) (w : World) (e : Ending) (w' : World) : Prop := ∃ (a p : Int) (d : Nat) (ok : Bool), e = .returned (.tuple #[.int .i64 a, .int .i64 p, .int .i64 d, .bool ok]) ∧ ReadIs s H a p d ok ∧ Below w.heap.size w w'
end Gp
end Go.Proofs.YtaghilgfldaaiaaGreatDoor
/-
  Reading hours or degrees: the walk of package angle's read.
-/
namespace Go.Proofs.YtaghilgfldaaiaaGreatDoor
namespace Gp
open Go.RowKit Lw

theorem below_iter (w : World) (s : ByteArray) (k : Nat) : Below w.heap.size w (w.iter s k) := by
  exact (Below.refl _ _).alloc (Nat.le_refl _) _
theorem value_b (s : ByteArray) (w : World) (hs : s.size ≤ 18) :
    Calls Tryz.prog 182 #[.string s] w fun e w' => e = .returned (.int .i64 (numV s.data.toList)) ∧ Below w.heap.size w w' := by
  refine (value_any s w hs).mono ?_
  rintro e w' ⟨rfl, k, rfl⟩
  exact ⟨rfl, below_iter w _ k⟩
end Gp
end Go.Proofs.YtaghilgfldaaiaaGreatDoor
/-
  The walks of isDigit, isLetter, isWord of package obs, and of digit, letter, word, digits of the reference.
-/
namespace Go.Proofs.YtaghilgfldaaiaaGreatDoor
namespace Ow
open Go.RowKit Lw Go.Proofs.YtaghilgfldaaiaaGreatDoor.Ap Go.Proofs.YtaghilgfldaaiaaGreatDoor.Op

theorem dgB_cases (r : Int) : (48 ≤ r ∧ r ≤ 57 ∧ dgB r = true) ∨ (r < 48 ∧ dgB r = false) ∨ (48 ≤ r ∧ 57 < r ∧ dgB r = false) := by
  by_cases h : 48 ≤ r
  · by_cases g : r ≤ 57
    · exact Or.inl ⟨h, g, decide_eq_true ⟨h, g⟩⟩
    · exact Or.inr (Or.inr ⟨h, by omega, decide_eq_false fun x => g x.2⟩)
  · exact Or.inr (Or.inl ⟨by omega, decide_eq_false fun x => h x.1⟩)
theorem ltB_cases (r : Int) : (65 ≤ r ∧ r ≤ 90 ∧ ltB r = true) ∨ (97 ≤ r ∧ r ≤ 122 ∧ ltB r = true) ∨ (r < 65 ∧ ltB r = false) ∨ (90 < r ∧ r < 97 ∧ ltB r = false) ∨ (122 < r ∧ ltB r = false) := by
  by_cases h : 65 ≤ r ∧ r ≤ 90
  · exact Or.inl ⟨h.1, h.2, decide_eq_true (Or.inl h)⟩
  · by_cases g : 97 ≤ r ∧ r ≤ 122
    · exact Or.inr (Or.inl ⟨g.1, g.2, decide_eq_true (Or.inr g)⟩)
    · have n : ltB r = false := decide_eq_false fun x => by rcases x with x | x <;> omega
      by_cases a : r < 65
      · exact Or.inr (Or.inr (Or.inl ⟨a, n⟩))
      · by_cases b : r < 97
        · exact Or.inr (Or.inr (Or.inr (Or.inl ⟨by omega, b, n⟩)))
        · exact Or.inr (Or.inr (Or.inr (Or.inr ⟨by omega, n⟩)))
set_option maxHeartbeats 400000 in
theorem isDigit_any (r : Int) (w : World) : Calls Tryz.prog 175 #[.int .i32 r] w fun e w' => e = .returned (.bool (dgB r)) ∧ w = w' := by
  rcases dgB_cases r with ⟨h, g, e⟩ | ⟨h, e⟩ | ⟨h, g, e⟩
  all_goals
    rw [e]
    clear e
    go_enter Tryz.func175, Tryz.ntmps175
    go_wp2
    go_ret
    first
      | exact ⟨rfl, rfl⟩
      | exact ⟨ret_b (by simp; omega), rfl⟩
set_option maxHeartbeats 400000 in
theorem isLetter_any (r : Int) (w : World) : Calls Tryz.prog 121 #[.int .i32 r] w fun e w' => e = .returned (.bool (ltB r)) ∧ w = w' := by
  rcases ltB_cases r with ⟨h, g, e⟩ | ⟨h, g, e⟩ | ⟨h, e⟩ | ⟨h, g, e⟩ | ⟨h, e⟩
  all_goals
    rw [e]
    clear e
    go_enter Tryz.func121, Tryz.ntmps121
    go_wp2
    go_ret
    first
      | exact ⟨rfl, rfl⟩
      | exact ⟨ret_b (by simp; omega), rfl⟩
set_option maxHeartbeats 400000 in
theorem rdigit_any (r : Int) (w : World) : Calls Tryz.prog 87 #[.int .u8 r] w fun e w' => e = .returned (.bool (dgB r)) ∧ w = w' := by
  rcases dgB_cases r with ⟨h, g, e⟩ | ⟨h, e⟩ | ⟨h, g, e⟩
  all_goals
    rw [e]
    clear e
    go_enter Tryz.func87, Tryz.ntmps87
    go_wp2
    go_ret
    first
      | exact ⟨rfl, rfl⟩
      | exact ⟨ret_b (by simp; omega), rfl⟩
set_option maxHeartbeats 400000 in
theorem rletter_any (r : Int) (w : World) : Calls Tryz.prog 42 #[.int .u8 r] w fun e w' => e = .returned (.bool (ltB r)) ∧ w = w' := by
  rcases ltB_cases r with ⟨h, g, e⟩ | ⟨h, g, e⟩ | ⟨h, e⟩ | ⟨h, g, e⟩ | ⟨h, e⟩
  all_goals
    rw [e]
    clear e
    go_enter Tryz.func42, Tryz.ntmps42
    go_wp2
    go_ret
    first
      | exact ⟨rfl, rfl⟩
      | exact ⟨ret_b (by simp; omega), rfl⟩
/-- A byte that is no letter and no digit, or the byte itself, as the range over a string gives it. -/
theorem rune_word {s : ByteArray} {k : Nat} (hlt : k < s.size) : (Utf8.decode s k = ((s[k]'hlt).toNat, 1)) ∨ (¬ (dgP (s[k].toNat : Int) ∨ ltP (s[k].toNat : Int)) ∧ 128 ≤ ((Utf8.decode s k).1 : Int) ∧ ((Utf8.decode s k).1 : Int) ≤ 2147483647) := by
  by_cases ha : (s[k]'hlt).toNat < 128
  · exact Or.inl (decode_ascii s k hlt ha)
  · have := (decode_high s k hlt (by omega)).1
    have := decode_le s k
    refine Or.inr ⟨fun h => ?_, by omega, by omega⟩
    unfold dgP ltP at h
    omega
theorem dg_cases (c : Int) : (dgP c ∧ dgB c = true) ∨ (¬ dgP c ∧ dgB c = false) := by
  by_cases h : dgP c
  · exact Or.inl ⟨h, decide_eq_true h⟩
  · exact Or.inr ⟨h, decide_eq_false h⟩
theorem lt_cases (c : Int) : (ltP c ∧ ltB c = true) ∨ (¬ ltP c ∧ ltB c = false) := by
  by_cases h : ltP c
  · exact Or.inl ⟨h, decide_eq_true h⟩
  · exact Or.inr ⟨h, decide_eq_false h⟩
set_option maxHeartbeats 1000000 in
theorem isWord_it (s : ByteArray) (w : World) (hs : s.size ≤ maxLen) :
    Calls Tryz.prog 120 #[.string s] w fun e w' => e = .returned (.bool (wordB s.data.toList)) ∧ ∃ k, w' = w.iter s k := by
  unfold maxLen at hs
  go_enter Tryz.func120, Tryz.ntmps120
  go_wp2
  go_loopw [4] (fun n w' => ∃ k : Nat, k ≤ s.size ∧ w' = w.iter s k ∧ Hid (wordP (s.data.toList.take k))) (fun _ w' => s.size - w'.iterPos w.heap.size)
  case atStart => exact ⟨0, Nat.zero_le _, rfl, Lib.hid (by intro c hc; simp at hc)⟩
  case round =>
    obtain ⟨k, hk, rfl, D⟩ := hrel
    by_cases hlt : k < s.size
    · have hnx : ∀ ty, (Instr.next (.pointer (some ⟨w.heap.size, 0, none⟩)) true ty).run Tryz.prog (w.iter s k) = _ := fun ty => run_next_any w s k ty hlt
      have bb := byte_bd s[k]
      rcases rune_word hlt with hr | ⟨d, r1, r2⟩
      · rw [hr] at hnx
        rcases dg_cases (s[k].toNat : Int) with ⟨d1, e1⟩ | ⟨d1, e1⟩
        · have D2 := Lib.hid (show wordP (s.data.toList.take (k + 1)) by rw [take_snoc s k hlt]; exact wordP_snoc D.out (Or.inl d1))
          clear d1
          go_wp2_with (first | (go_at_call 175; refine (isDigit_any _ _).mono ?_; rintro e w' ⟨rfl, rfl⟩) | (go_at_call 121; refine (isLetter_any _ _).mono ?_; rintro e w' ⟨rfl, rfl⟩))
          go_roundw
          case rel => exact ⟨k + 1, by omega, rfl, D2⟩
          case measure => simp; omega
        · rcases lt_cases (s[k].toNat : Int) with ⟨d2, e2⟩ | ⟨d2, e2⟩
          · have D2 := Lib.hid (show wordP (s.data.toList.take (k + 1)) by rw [take_snoc s k hlt]; exact wordP_snoc D.out (Or.inr d2))
            clear d1 d2
            go_wp2_with (first | (go_at_call 175; refine (isDigit_any _ _).mono ?_; rintro e w' ⟨rfl, rfl⟩) | (go_at_call 121; refine (isLetter_any _ _).mono ?_; rintro e w' ⟨rfl, rfl⟩))
            go_roundw
            case rel => exact ⟨k + 1, by omega, rfl, D2⟩
            case measure => simp; omega
          · have N := Lib.hid (word_not s k hlt (fun h => h.elim d1 d2))
            clear d1 d2
            go_wp2_with (first | (go_at_call 175; refine (isDigit_any _ _).mono ?_; rintro e w' ⟨rfl, rfl⟩) | (go_at_call 121; refine (isLetter_any _ _).mono ?_; rintro e w' ⟨rfl, rfl⟩))
            go_ret
            exact ⟨ret_b N.out.symm, _, rfl⟩
      · have N := Lib.hid (word_not s k hlt d)
        clear d
        generalize (Utf8.decode s k).1 = r at *
        have e1 : dgB (r : Int) = false := decide_eq_false fun h => by unfold dgP at h; omega
        have e2 : ltB (r : Int) = false := decide_eq_false fun h => by unfold ltP at h; omega
        go_wp2_with (first | (go_at_call 175; refine (isDigit_any _ _).mono ?_; rintro e w' ⟨rfl, rfl⟩) | (go_at_call 121; refine (isLetter_any _ _).mono ?_; rintro e w' ⟨rfl, rfl⟩))
        go_ret
        exact ⟨ret_b N.out.symm, _, rfl⟩
    · have hnx : ∀ ty, (Instr.next (.pointer (some ⟨w.heap.size, 0, none⟩)) true ty).run Tryz.prog (w.iter s k) = _ := fun ty => run_next_end w s k ty hlt
      have N := Lib.hid (word_all s k hlt D.out)
      go_wp2
      go_ret
      exact ⟨ret_b N.out.symm, _, rfl⟩
theorem isWord_any (s : ByteArray) (w : World) (hs : s.size ≤ maxLen) :
    Calls Tryz.prog 120 #[.string s] w fun e w' => e = .returned (.bool (wordB s.data.toList)) ∧ Below w.heap.size w w' :=
  (isWord_it s w hs).mono fun _ _ ⟨he, k, hk⟩ => ⟨he, hk ▸ Gp.below_iter w s k⟩
set_option maxHeartbeats 1000000 in
theorem rword_any (s : ByteArray) (w : World) (hs : s.size ≤ maxLen) :
    Calls Tryz.prog 41 #[.string s] w fun e w' => e = .returned (.bool (wordB s.data.toList)) ∧ w = w' := by
  unfold maxLen at hs
  go_enter Tryz.func41, Tryz.ntmps41
  go_wp2
  go_loop [3] (fun i => ∃ k : Nat, k ≤ s.size ∧ i = .int .i64 k ∧ Hid (wordP (s.data.toList.take k))) (fun i => s.size - (intOf i).toNat)
  case atStart => exact ⟨0, Nat.zero_le _, rfl, Lib.hid (by intro c hc; simp at hc)⟩
  case round =>
    obtain ⟨k, hk, rfl, D⟩ := hrel
    by_cases hlt : k < s.size
    · have bb := byte_bd s[k]
      rcases dg_cases (s[k].toNat : Int) with ⟨d1, e1⟩ | ⟨d1, e1⟩
      · have D2 := Lib.hid (show wordP (s.data.toList.take (k + 1)) by rw [take_snoc s k hlt]; exact wordP_snoc D.out (Or.inl d1))
        clear d1
        go_wp2_with (first | (go_at_call 87; refine (rdigit_any _ _).mono ?_; rintro e w' ⟨rfl, rfl⟩) | (go_at_call 42; refine (rletter_any _ _).mono ?_; rintro e w' ⟨rfl, rfl⟩))
        go_round
        case rel => exact ⟨k + 1, by omega, by go_num, D2⟩
        case measure => simp [intOf]; omega
      · rcases lt_cases (s[k].toNat : Int) with ⟨d2, e2⟩ | ⟨d2, e2⟩
        · have D2 := Lib.hid (show wordP (s.data.toList.take (k + 1)) by rw [take_snoc s k hlt]; exact wordP_snoc D.out (Or.inr d2))
          clear d1 d2
          go_wp2_with (first | (go_at_call 87; refine (rdigit_any _ _).mono ?_; rintro e w' ⟨rfl, rfl⟩) | (go_at_call 42; refine (rletter_any _ _).mono ?_; rintro e w' ⟨rfl, rfl⟩))
          go_round
          case rel => exact ⟨k + 1, by omega, by go_num, D2⟩
          case measure => simp [intOf]; omega
        · have N := Lib.hid (word_not s k hlt (fun h => h.elim d1 d2))
          clear d1 d2
          go_wp2_with (first | (go_at_call 87; refine (rdigit_any _ _).mono ?_; rintro e w' ⟨rfl, rfl⟩) | (go_at_call 42; refine (rletter_any _ _).mono ?_; rintro e w' ⟨rfl, rfl⟩))
          go_ret
          exact ⟨ret_b N.out.symm, rfl⟩
    · have N := Lib.hid (word_all s k hlt D.out)
      go_wp2
      go_ret
      exact ⟨ret_b N.out.symm, rfl⟩
theorem digs_not (s : ByteArray) (k : Nat) (hk : k < s.size) (h : ¬ dgP (s[k].toNat : Int)) : digsB s.data.toList = false := by
  refine decide_eq_false fun g => h (g.2 _ ?_)
  have : s[k] = s.data.toList[k]'(by simpa using hk) := rfl
  rw [this]; exact List.getElem_mem _
theorem digs_all (s : ByteArray) (k : Nat) (hk : ¬ k < s.size) (h : allD (s.data.toList.take k)) : digsB s.data.toList = decide (0 < s.size) := by
  rw [take_all s k hk] at h
  refine decide_eq_decide.2 ⟨fun g => by simpa using g.1, fun g => ⟨by simpa using g, h⟩⟩
set_option maxHeartbeats 1000000 in
theorem rdigits_any (s : ByteArray) (w : World) (hs : s.size ≤ maxLen) :
    Calls Tryz.prog 141 #[.string s] w fun e w' => e = .returned (.bool (digsB s.data.toList)) ∧ w = w' := by
  unfold maxLen at hs
  go_enter Tryz.func141, Tryz.ntmps141
  go_wp2
  go_loop [3] (fun i => ∃ k : Nat, k ≤ s.size ∧ i = .int .i64 k ∧ Hid (allD (s.data.toList.take k))) (fun i => s.size - (intOf i).toNat)
  case atStart => exact ⟨0, Nat.zero_le _, rfl, Lib.hid (by intro c hc; simp at hc)⟩
  case round =>
    obtain ⟨k, hk, rfl, D⟩ := hrel
    by_cases hlt : k < s.size
    · have bb := byte_bd s[k]
      rcases dg_cases (s[k].toNat : Int) with ⟨d1, e1⟩ | ⟨d1, e1⟩
      · have D2 := Lib.hid (show allD (s.data.toList.take (k + 1)) by rw [take_snoc s k hlt]; exact allD_snoc D.out d1.1 d1.2)
        clear d1
        go_wp2_with (go_at_call 87; refine (rdigit_any _ _).mono ?_; rintro e w' ⟨rfl, rfl⟩)
        go_round
        case rel => exact ⟨k + 1, by omega, by go_num, D2⟩
        case measure => simp [intOf]; omega
      · have N := Lib.hid (digs_not s k hlt d1)
        clear d1
        go_wp2_with (go_at_call 87; refine (rdigit_any _ _).mono ?_; rintro e w' ⟨rfl, rfl⟩)
        go_ret
        exact ⟨ret_b N.out.symm, rfl⟩
    · have N := Lib.hid (digs_all s k hlt D.out)
      by_cases z : 0 < s.size
      · have z2 : (0 : Int) < s.size := by omega
        go_wp2
        go_ret
        exact ⟨ret_b (by rw [N.out, decide_eq_true z]), rfl⟩
      · have z2 : s.size = 0 := by omega
        have Z := Lib.hid z2
        clear z2
        have z3 : ¬ (0 : Int) < s.size := by omega
        go_wp2
        go_ret
        exact ⟨ret_b (by rw [N.out]; simp [z]), rfl⟩
end Ow
end Go.Proofs.YtaghilgfldaaiaaGreatDoor
/-
  The walks of isNumbered, isName of package obs, and of Numbered, Name of the reference.
-/
namespace Go.Proofs.YtaghilgfldaaiaaGreatDoor
namespace Ow
open Go.RowKit Lw Go.Proofs.YtaghilgfldaaiaaGreatDoor.Ap Go.Proofs.YtaghilgfldaaiaaGreatDoor.Op

/-- The variable ErrSyntax reads as an error. -/
def ES (w : World) : Prop := 6 < w.heap.size ∧ ∃ ev, w.cell? ⟨6, 0, none⟩ = some ev ∧ (ev = .nilIface ∨ ∃ te pe, ev = .iface te pe)
theorem ES.below {w w' : World} (h : ES w) (hb : Below w.heap.size w w') : ES w' := by
  obtain ⟨lt, ev, h1, h2⟩ := h
  exact ⟨Nat.lt_of_lt_of_le lt hb.size, ev, (hb.cell (p := ⟨6, 0, none⟩) lt).trans h1, h2⟩
theorem pu_step {M acc : Nat} {c : UInt8} {r : List UInt8} (h : 48 ≤ c.toNat ∧ c.toNat ≤ 57) (ha : acc ≤ 1000) (hM : 65535 ≤ M) : Lib.parseUintM M acc (c :: r) = Lib.parseUintM M (acc * 10 + (c.toNat - 48)) r := by
  rw [Lib.parseUintM, if_pos h, if_neg (by omega), if_neg (by omega)]
/-- What is answered for no number. -/
def noNum : Lib.NumEnd Nat := Lib.parseUintB 16 []
theorem pu_stop {M acc : Nat} {c : UInt8} {r : List UInt8} (h : ¬ (48 ≤ c.toNat ∧ c.toNat ≤ 57)) : Lib.parseUintM M acc (c :: r) = noNum := by
  rw [Lib.parseUintM, if_neg h]
  rfl
/-- Four bytes are digits, or no number. -/
theorem pu_cases {l : List UInt8} (h : l.length = 4) : (digsB l = true ∧ ∃ u, Lib.parseUintB 16 l = .ok u) ∨ (digsB l = false ∧ Lib.parseUintB 16 l = noNum) := by
  match l, h with
  | [a, b, c, d], _ =>
    unfold Lib.parseUintB
    rw [if_neg (by simp)]
    have nd : ∀ x ∈ [a, b, c, d], ¬ (48 ≤ x.toNat ∧ x.toNat ≤ 57) → digsB [a, b, c, d] = false := fun x hx hn => decide_eq_false fun g => hn (by have := g.2 x hx; omega)
    by_cases ha : 48 ≤ a.toNat ∧ a.toNat ≤ 57
    · rw [pu_step ha (by omega) (by omega)]
      by_cases hb : 48 ≤ b.toNat ∧ b.toNat ≤ 57
      · rw [pu_step hb (by omega) (by omega)]
        by_cases hc : 48 ≤ c.toNat ∧ c.toNat ≤ 57
        · rw [pu_step hc (by omega) (by omega)]
          by_cases hd : 48 ≤ d.toNat ∧ d.toNat ≤ 57
          · rw [pu_step hd (by omega) (by omega)]
            refine Or.inl ⟨decide_eq_true ⟨by simp, fun x hx => ?_⟩, _, rfl⟩
            simp only [List.mem_cons, List.not_mem_nil, or_false] at hx
            rcases hx with rfl | rfl | rfl | rfl <;> omega
          · rw [pu_stop hd]; exact Or.inr ⟨nd d (by simp) hd, rfl⟩
        · rw [pu_stop hc]; exact Or.inr ⟨nd c (by simp) hc, rfl⟩
      · rw [pu_stop hb]; exact Or.inr ⟨nd b (by simp) hb, rfl⟩
    · rw [pu_stop ha]; exact Or.inr ⟨nd a (by simp) ha, rfl⟩
theorem numb_of {s : ByteArray} (hs : s.size = 5) : numbB s = ((decide (bt s 0 = 126) && wordB (s.extract 1 5).data.toList) || (wordB (s.extract 0 1).data.toList && digsB (s.extract 1 5).data.toList)) := by
  unfold numbB numbP wordB digsB
  simp only [hs, true_and, Bool.decide_or, Bool.decide_and]
theorem dig_word {l : List UInt8} (h : digsB l = true) : wordB l = true := by
  have := of_decide_eq_true h
  exact decide_eq_true fun c hc => Or.inl (this.2 c hc)
/-- What ParseUint returns of four bytes. -/
theorem pu_any (l : ByteArray) (w : World) (hE : ES w) (h : l.size = 4) :
    Calls Tryz.prog 201 #[.string l, .int .i64 10, .int .i64 16] w fun e w' => ∃ u V, e = .returned (.tuple #[.int .u64 u, V]) ∧ ((digsB l.data.toList = true ∧ V = .nilIface) ∨ (digsB l.data.toList = false ∧ ∃ t p, V = .iface t (.pointer (some p)))) ∧ Below w.heap.size w w' := by
  rcases pu_cases (l := l.data.toList) (by simpa using h) with ⟨d, u, hu⟩ | ⟨d, hu⟩
  · refine (Tryz.strconv_ParseUint_10_at16_ok l (by omega) u hu w).mono ?_
    rintro e w' ⟨rfl, hw⟩
    refine ⟨_, _, rfl, Or.inl ⟨d, rfl⟩, ?_⟩
    rcases hw with rfl | rfl
    · exact Below.refl _ _
    · exact Lib.bytesWorld_below _ _ _
  · obtain ⟨lt, ev, h1, h2⟩ := hE
    refine (Tryz.strconv_ParseUint_10_at16_syntax l (by omega) hu ev w h1 h2).mono ?_
    rintro e w' ⟨N, rfl, -, -, hb⟩
    exact ⟨_, _, rfl, Or.inr ⟨d, _, _, rfl⟩, hb⟩
set_option maxRecDepth 100000 in
set_option maxHeartbeats 4000000 in
theorem isNumb_any (s : ByteArray) (w : World) (hE : ES w) (hs : s.size ≤ maxLen) :
    Calls Tryz.prog 174 #[.string s] w fun e w' => e = .returned (.bool (numbB s)) ∧ Below w.heap.size w w' := by
  by_cases h5 : s.size = 5
  · have N := numb_of h5
    have z1 : (s.extract 1 5).size = 4 := by simp; omega
    have z0 : (s.extract 0 1).size ≤ maxLen := by simp; unfold maxLen; omega
    have PU := Lib.hid (pu_any (s.extract 1 5) w hE z1)
    have W1 := Lib.hid (fun w' => isWord_any (s.extract 1 5) w' (by unfold maxLen; omega))
    have W0 := Lib.hid (fun w' => isWord_any (s.extract 0 1) w' z0)
    have DW := Lib.hid (fun (h : digsB (s.extract 1 5).data.toList = true) => dig_word h)
    obtain ⟨c, hc⟩ : ∃ c : UInt8, s[0]'(by omega) = c := ⟨_, rfl⟩
    have b0 : bt s 0 = (c.toNat : Int) := by rw [bt_of s 0 (by omega), hc]
    rw [b0] at N
    have N := Lib.hid N
    generalize wordB (s.extract 1 5).data.toList = q1 at *
    generalize wordB (s.extract 0 1).data.toList = q0 at *
    generalize digsB (s.extract 1 5).data.toList = dd at *
    have i0 : 0 < s.size := by omega
    clear z1 z0 hE hs b0
    go_enter Tryz.func174, Tryz.ntmps174
    go_wp2_with fail
    refine PU.out.mono ?_
    rintro e w1 ⟨u, V, rfl, hV, hb⟩
    have B1 := Lib.hid hb
    clear hb PU
    by_cases h126 : (c.toNat : Int) = 126
    · have N2 := Lib.hid (N.out.trans (by rw [decide_eq_true h126]; rfl : _ = (q1 || (q0 && dd))))
      clear N
      cases q1
      · have d0 : dd = false := by
          cases dd
          · rfl
          · exact absurd (DW.out rfl) (by simp)
        subst d0
        cases q0
        all_goals
          rcases hV with ⟨hd, rfl⟩ | ⟨hd, t, p, rfl⟩
          · cases hd
          go_wp2_with (first | ((with_reducible refine (W1.out _).mono ?_); rintro e w2 ⟨rfl, hb2⟩) | ((with_reducible refine (W0.out _).mono ?_); rintro e w3 ⟨rfl, hb3⟩))
          go_ret
          refine ⟨?_, ?_⟩
          · rw [N2.out]; rfl
          · first | exact below_then (below_then B1.out hb2) hb3 | exact below_then B1.out hb2
      · clear hV
        go_wp2_with (first | ((with_reducible refine (W1.out _).mono ?_); rintro e w2 ⟨rfl, hb2⟩) | ((with_reducible refine (W0.out _).mono ?_); rintro e w3 ⟨rfl, hb3⟩))
        go_ret
        refine ⟨?_, ?_⟩
        · rw [N2.out]; rfl
        · exact below_then B1.out hb2
    · have N2 := Lib.hid (N.out.trans (by rw [decide_eq_false h126]; rfl : _ = (q0 && dd)))
      clear N
      cases q0
      · clear hV
        go_wp2_with (first | ((with_reducible refine (W1.out _).mono ?_); rintro e w2 ⟨rfl, hb2⟩) | ((with_reducible refine (W0.out _).mono ?_); rintro e w3 ⟨rfl, hb3⟩))
        go_ret
        refine ⟨?_, ?_⟩
        · rw [N2.out]; rfl
        · exact below_then B1.out hb3
      · rcases hV with ⟨rfl, rfl⟩ | ⟨rfl, t, p, rfl⟩
        · obtain rfl := DW.out rfl
          go_wp2_with fail
          refine (W0.out _).mono ?_
          rintro e w3 ⟨rfl, hb3⟩
          have B3 := Lib.hid (below_then B1.out hb3)
          clear hb3
          go_wp2_with fail
          refine (W1.out _).mono ?_
          rintro e w4 ⟨rfl, hb4⟩
          have B4 := Lib.hid (below_then B3.out hb4)
          clear hb4
          go_wp2_with fail
          go_ret
          exact ⟨by rw [N2.out]; rfl, B4.out⟩
        · go_wp2_with fail
          refine (W0.out _).mono ?_
          rintro e w3 ⟨rfl, hb3⟩
          have B3 := Lib.hid (below_then B1.out hb3)
          clear hb3
          go_wp2_with fail
          go_ret
          exact ⟨by rw [N2.out]; rfl, B3.out⟩
  · have N := Lib.hid (show numbB s = false from decide_eq_false fun g => h5 g.1)
    have h5' : ¬ (s.size : Int) = 5 := by omega
    have h6 : ((s.size : Int) == 5) = false := by simpa using h5'
    have h7 : ((s.size : Int) != 5) = true := by simpa using h5'
    go_enter Tryz.func174, Tryz.ntmps174
    go_wp2_with fail
    go_ret
    exact ⟨by rw [N.out]; rfl, Below.refl _ _⟩
set_option maxRecDepth 100000 in
set_option maxHeartbeats 4000000 in
theorem rnumb_any (s : ByteArray) (w : World) (hs : s.size ≤ maxLen) :
    Calls Tryz.prog 86 #[.string s] w fun e w' => e = .returned (.bool (numbB s)) ∧ w = w' := by
  by_cases h5 : s.size = 5
  · have N := numb_of h5
    have z1 : (s.extract 1 5).size = 4 := by simp; omega
    have z0 : (s.extract 0 1).size ≤ maxLen := by simp; unfold maxLen; omega
    have W1 := Lib.hid (fun w' => rword_any (s.extract 1 5) w' (by unfold maxLen; omega))
    have W0 := Lib.hid (fun w' => rword_any (s.extract 0 1) w' z0)
    have DG := Lib.hid (fun w' => rdigits_any (s.extract 1 5) w' (by unfold maxLen; omega))
    obtain ⟨c, hc⟩ : ∃ c : UInt8, s[0]'(by omega) = c := ⟨_, rfl⟩
    have b0 : bt s 0 = (c.toNat : Int) := by rw [bt_of s 0 (by omega), hc]
    rw [b0] at N
    have N := Lib.hid N
    generalize wordB (s.extract 1 5).data.toList = q1 at *
    generalize wordB (s.extract 0 1).data.toList = q0 at *
    generalize digsB (s.extract 1 5).data.toList = dd at *
    have i0 : 0 < s.size := by omega
    clear z1 z0 hs b0
    by_cases h126 : (c.toNat : Int) = 126
    · have N2 := Lib.hid (N.out.trans (by rw [decide_eq_true h126]; rfl : _ = (q1 || (q0 && dd))))
      clear N
      cases q1 <;> cases q0 <;> cases dd
      all_goals
        go_enter Tryz.func86, Tryz.ntmps86
        go_wp2_with (first | ((with_reducible refine (W1.out _).mono ?_); rintro e w2 ⟨rfl, rfl⟩) | ((with_reducible refine (W0.out _).mono ?_); rintro e w3 ⟨rfl, rfl⟩) | ((with_reducible refine (DG.out _).mono ?_); rintro e w4 ⟨rfl, rfl⟩))
        go_ret
        exact ⟨by rw [N2.out]; rfl, rfl⟩
    · have N2 := Lib.hid (N.out.trans (by rw [decide_eq_false h126]; rfl : _ = (q0 && dd)))
      clear N
      cases q0 <;> cases dd
      all_goals
        go_enter Tryz.func86, Tryz.ntmps86
        go_wp2_with (first | ((with_reducible refine (W0.out _).mono ?_); rintro e w3 ⟨rfl, rfl⟩) | ((with_reducible refine (DG.out _).mono ?_); rintro e w4 ⟨rfl, rfl⟩))
        go_ret
        exact ⟨by rw [N2.out]; rfl, rfl⟩
  · have N := Lib.hid (show numbB s = false from decide_eq_false fun g => h5 g.1)
    have h5' : ¬ (s.size : Int) = 5 := by omega
    have h6 : ((s.size : Int) == 5) = false := by simpa using h5'
    have h7 : ((s.size : Int) != 5) = true := by simpa using h5'
    go_enter Tryz.func86, Tryz.ntmps86
    go_wp2_with fail
    go_ret
    exact ⟨by rw [N.out]; rfl, rfl⟩
theorem name_cases (s : ByteArray) : (numbB s = true ∧ nameB s = true) ∨ (numbB s = false ∧ ((s.size < 1 ∧ nameB s = false) ∨ (1 ≤ s.size ∧ 7 < s.size ∧ nameB s = false) ∨ (1 ≤ s.size ∧ s.size ≤ 7 ∧ nameB s = wordB s.data.toList))) := by
  by_cases h : numbP s
  · exact Or.inl ⟨decide_eq_true h, decide_eq_true (Or.inl h)⟩
  · refine Or.inr ⟨decide_eq_false h, ?_⟩
    by_cases a : s.size < 1
    · exact Or.inl ⟨a, decide_eq_false fun g => g.elim h (fun x => by omega)⟩
    · by_cases b : 7 < s.size
      · exact Or.inr (Or.inl ⟨by omega, b, decide_eq_false fun g => g.elim h (fun x => by omega)⟩)
      · refine Or.inr (Or.inr ⟨by omega, by omega, decide_eq_decide.2 ⟨fun g => g.elim (fun x => absurd x h) (fun x => x.2.2), fun g => Or.inr ⟨by omega, by omega, g⟩⟩⟩)
set_option maxRecDepth 100000 in
set_option maxHeartbeats 4000000 in
theorem isName_any (s : ByteArray) (w : World) (hE : ES w) (hs : s.size ≤ maxLen) :
    Calls Tryz.prog 119 #[.string s] w fun e w' => e = .returned (.bool (nameB s)) ∧ Below w.heap.size w w' := by
  have C1 := Lib.hid (isNumb_any s w hE hs)
  have C2 := Lib.hid (fun w' => isWord_any s w' hs)
  have NC := name_cases s
  generalize nameB s = nb at *
  generalize numbB s = ub at *
  generalize wordB s.data.toList = wb at *
  clear hE
  unfold maxLen at hs
  rcases NC with ⟨rfl, rfl⟩ | ⟨rfl, ⟨h, rfl⟩ | ⟨h, g, rfl⟩ | ⟨h, g, rfl⟩⟩
  · go_enter Tryz.func119, Tryz.ntmps119
    go_wp2_with fail
    refine C1.out.mono ?_
    rintro e w1 ⟨rfl, hb⟩
    go_wp2_with fail
    go_ret
    exact ⟨rfl, hb⟩
  · have h' : (s.size : Int) < 1 := by omega
    go_enter Tryz.func119, Tryz.ntmps119
    go_wp2_with fail
    refine C1.out.mono ?_
    rintro e w1 ⟨rfl, hb⟩
    go_wp2_with fail
    go_ret
    exact ⟨rfl, hb⟩
  · have h' : (1 : Int) ≤ s.size := by omega
    have g' : (7 : Int) < s.size := by omega
    go_enter Tryz.func119, Tryz.ntmps119
    go_wp2_with fail
    refine C1.out.mono ?_
    rintro e w1 ⟨rfl, hb⟩
    go_wp2_with fail
    go_ret
    exact ⟨rfl, hb⟩
  · have h' : (1 : Int) ≤ s.size := by omega
    have g' : (s.size : Int) ≤ 7 := by omega
    go_enter Tryz.func119, Tryz.ntmps119
    go_wp2_with fail
    refine C1.out.mono ?_
    rintro e w1 ⟨rfl, hb⟩
    have B1 := Lib.hid hb
    clear hb
    go_wp2_with fail
    refine (C2.out _).mono ?_
    rintro e w2 ⟨rfl, hb⟩
    have B2 := Lib.hid (below_then B1.out hb)
    clear hb
    go_wp2_with fail
    go_ret
    exact ⟨rfl, B2.out⟩
set_option maxRecDepth 100000 in
set_option maxHeartbeats 4000000 in
theorem rname_any (s : ByteArray) (w : World) (hs : s.size ≤ maxLen) :
    Calls Tryz.prog 40 #[.string s] w fun e w' => e = .returned (.bool (nameB s)) ∧ w = w' := by
  have C1 := Lib.hid (fun w' => rnumb_any s w' hs)
  have C2 := Lib.hid (fun w' => rword_any s w' hs)
  have NC := name_cases s
  generalize nameB s = nb at *
  generalize numbB s = ub at *
  generalize wordB s.data.toList = wb at *
  unfold maxLen at hs
  rcases NC with ⟨rfl, rfl⟩ | ⟨rfl, ⟨h, rfl⟩ | ⟨h, g, rfl⟩ | ⟨h, g, rfl⟩⟩
  · go_enter Tryz.func40, Tryz.ntmps40
    go_wp2_with (refine (C1.out _).mono ?_; rintro e w1 ⟨rfl, rfl⟩)
    go_ret
    exact ⟨rfl, rfl⟩
  · have h' : (s.size : Int) < 1 := by omega
    go_enter Tryz.func40, Tryz.ntmps40
    go_wp2_with (refine (C1.out _).mono ?_; rintro e w1 ⟨rfl, rfl⟩)
    go_ret
    exact ⟨rfl, rfl⟩
  · have h' : (1 : Int) ≤ s.size := by omega
    have g' : (7 : Int) < s.size := by omega
    go_enter Tryz.func40, Tryz.ntmps40
    go_wp2_with (refine (C1.out _).mono ?_; rintro e w1 ⟨rfl, rfl⟩)
    go_ret
    exact ⟨rfl, rfl⟩
  · have h' : (1 : Int) ≤ s.size := by omega
    have g' : (s.size : Int) ≤ 7 := by omega
    go_enter Tryz.func40, Tryz.ntmps40
    go_wp2_with fail
    refine (C1.out _).mono ?_
    rintro e w1 ⟨rfl, rfl⟩
    go_wp2_with fail
    refine (C2.out _).mono ?_
    rintro e w2 ⟨rfl, rfl⟩
    go_wp2_with fail
    go_ret
    exact ⟨rfl, rfl⟩
end Ow
end Go.Proofs.YtaghilgfldaaiaaGreatDoor
