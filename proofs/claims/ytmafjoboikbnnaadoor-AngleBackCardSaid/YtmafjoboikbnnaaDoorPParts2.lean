/-
  The parts of a text of hours or degrees: the reference, where spaces and point stand right.
-/
import Derived.Test.YtmafjoboikbnnaaDoorPParts
import Derived.Deep.RegionHeld3
namespace Go.Proofs.YtmafjoboikbnnaaDoor
namespace Ap
open Go.RowKit Lw

theorem two_eq (s : ByteArray) (i : Nat) : two s i = numV (List.take 2 (List.drop i s.data.toList)) := by
  unfold two; simp
theorem fr_at {w : World} {b n j : Nat} (h : w.there b 0 n) (hj : j < n) : w.frozen? ⟨b, 0 + j, none⟩ = false := (h j hj).2
theorem there3_set {w : World} {b n : Nat} (h : w.there b 0 n) (a : Addr) (v : Value) : (w.setCell a v).there b 0 n := fun j hj => by
  refine ⟨World.isSome_setCells a.block [v] a.off w _ (h j hj).1 |> fun x => ?_, by rw [World.frozen?_setCell]; exact (h j hj).2⟩
  obtain ⟨u, hu⟩ := Option.isSome_iff_exists.1 (h j hj).1
  obtain ⟨v', hv'⟩ := cell?_setCell_some (w := w) (p := a) (x := v) (q := ⟨b, 0 + j, none⟩) (v := u) hu
  rw [hv']; rfl

theorem cell_at {w : World} {b n j : Nat} (h : w.there b 0 n) (hj : j < n) : ∃ v, w.cell? ⟨b, 0 + j, none⟩ = some v := Option.isSome_iff_exists.1 (h j hj).1
/-- What lies at an address. -/
def cellOf (w : World) (p : Addr) : Value := (w.cell? p).getD undef
theorem cellOf_some {w : World} {p : Addr} (h : (w.cell? p).isSome = true) : w.cell? p = some (cellOf w p) := by
  obtain ⟨v, hv⟩ := Option.isSome_iff_exists.1 h
  rw [cellOf, hv]; rfl
theorem cellOf_set {w : World} {p : Addr} (h : w.cell? p = some (cellOf w p)) (q : Addr) (v : Value) : (w.setCell q v).cell? p = some (cellOf (w.setCell q v) p) := by
  obtain ⟨v', hv'⟩ := cell?_setCell_some (w := w) (p := q) (x := v) (q := p) h
  exact cellOf_some (by rw [hv']; rfl)
theorem cellOf_drew {w : World} {p : Addr} (h : w.cell? p = some (cellOf w p)) : w.drew.cell? p = some (cellOf w.drew p) := h
/-- What the last region needs of memory. -/
def LastS (w' : World) (B : Nat) (a b c : Int) : Prop := w'.cell? ⟨B + 1, 0, none⟩ = some (.int .i64 a) ∧ w'.cell? ⟨B + 1, 1, none⟩ = some (.int .i64 b) ∧ w'.cell? ⟨B + 1, 2, none⟩ = some (.int .i64 c) ∧ w'.frozen? ⟨B, 0, none⟩ = false ∧ w'.frozen? ⟨B, 1, none⟩ = false ∧ w'.frozen? ⟨B, 2, none⟩ = false ∧ w'.cell? ⟨B, 0, none⟩ = some (cellOf w' ⟨B, 0, none⟩) ∧ w'.cell? ⟨B, 1, none⟩ = some (cellOf w' ⟨B, 1, none⟩) ∧ w'.cell? ⟨B, 2, none⟩ = some (cellOf w' ⟨B, 2, none⟩)
theorem lastS_drew {w : World} {B : Nat} {a b c : Int} (h : LastS w B a b c) : LastS w.drew B a b c := h
theorem held_set {w : World} {B : Nat} {a b c : Int} (h : LastS w B a b c) (q : Addr) (hq : q.block = B) (v : Value) : LastS (w.setCell q v) B a b c := by
  obtain ⟨q0, q1, q2, e0, e1, e2, d0, d1, d2⟩ := h
  have ne : ∀ i : Nat, q ≠ ⟨B + 1, i, none⟩ := fun i g => by rw [g] at hq; simp at hq
  refine ⟨?_, ?_, ?_, by rw [World.frozen?_setCell]; exact e0, by rw [World.frozen?_setCell]; exact e1, by rw [World.frozen?_setCell]; exact e2, cellOf_set d0 _ _, cellOf_set d1 _ _, cellOf_set d2 _ _⟩
  · rw [World.cell?_setCell_other _ _ _ _ (ne 0)]; exact q0
  · rw [World.cell?_setCell_other _ _ _ _ (ne 1)]; exact q1
  · rw [World.cell?_setCell_other _ _ _ _ (ne 2)]; exact q2
theorem held_set3 {w : World} {B : Nat} {a b c : Int} (h : LastS w B a b c) (x y z : Value) : LastS (((w.setCell ⟨B, 0, none⟩ x).setCell ⟨B, 1, none⟩ y).setCell ⟨B, 2, none⟩ z).drew B a b c := held_set (held_set (held_set h _ rfl _) _ rfl _) _ rfl _
theorem range_set {w : World} {b : Nat} {cs : List Value} (h : w.rangeAt b 0 cs) (j : Nat) (hj : j < cs.length) (v : Value) : (w.setCell ⟨b, j, none⟩ v).rangeAt b 0 (cs.set j v) := fun i x hx => by
  have hu : w.cell? ⟨b, j, none⟩ = some cs[j] := by have := h j cs[j] (List.getElem?_eq_getElem hj); simpa using this
  have hi : i < cs.length := by have := (List.getElem?_eq_some_iff.1 hx).1; simpa using this
  rw [Nat.zero_add]
  by_cases e : j = i
  · subst e
    rw [World.cell?_setCell_same _ _ _ hu]
    rw [List.getElem?_set_self hj] at hx
    exact hx
  · rw [World.cell?_setCell_other _ _ _ _ (by intro g; injection g with _ g2 _; exact e g2)]
    rw [List.getElem?_set_ne e] at hx
    have := h i x hx
    rwa [Nat.zero_add] at this
/-- What the loop keeps: the two rows, the numbers read so far. -/
def Kept (s : ByteArray) (w : World) (k : Nat) (a b c : Int) (wr : World) : Prop :=
  wr.rangeAt (w.heap.size + 1) 0 (ar3 a b c) ∧ wr.there (w.heap.size + 1) 0 3 ∧ wr.there w.heap.size 0 3 ∧ w.heap.size + 1 < wr.heap.size ∧ Below w.heap.size w wr ∧
      ((0 < k → a = two s 0 ∧ 0 ≤ a) ∧ (1 < k → b = two s 3 ∧ 0 ≤ b ∧ b ≤ 59) ∧ (2 < k → c = two s 6 ∧ 0 ≤ c ∧ c ≤ 59))
theorem kept_start (s : ByteArray) (w : World) (C : Array Value) (hC : C = (ar3 0 0 0).toArray) (t : TypeId) : Kept s w 0 0 0 0 ((w.alloc (.cells C t)).alloc (.cells C t)) := by
  subst hC
  refine ⟨?_, ?_, ?_, by simp, ((Below.refl _ _).alloc (Nat.le_refl _) _).alloc (by simp) _, by omega, by omega, by omega⟩
  · have := rangeAt_new (w.alloc (.cells (ar3 0 0 0).toArray t)) (ar3 0 0 0) t
    simpa using this
  · have := there_new (w.alloc (.cells (ar3 0 0 0).toArray t)) (ar3 0 0 0).toArray t 3 (by simp)
    simpa using this
  · exact there_below (there_new w (ar3 0 0 0).toArray t 3 (by simp)) ((Below.refl _ _).alloc (Nat.le_refl _) _) (by simp)
theorem kept_set {s : ByteArray} {w wr : World} {k : Nat} {a b c : Int} (h : Kept s w k a b c wr) (j : Nat) (hj : j < 3) (v : Int) (a' b' c' : Int) (e : (ar3 a b c).set j (.int .i64 v) = ar3 a' b' c')
    (k' : Nat) (hk : (0 < k' → a' = two s 0 ∧ 0 ≤ a') ∧ (1 < k' → b' = two s 3 ∧ 0 ≤ b' ∧ b' ≤ 59) ∧ (2 < k' → c' = two s 6 ∧ 0 ≤ c' ∧ c' ≤ 59)) :
    Kept s w k' a' b' c' (wr.setCell ⟨w.heap.size + 1, j, none⟩ (.int .i64 v)) := by
  obtain ⟨R, T1, T0, hz, hB, _⟩ := h
  refine ⟨e ▸ range_set R j (by simpa using hj) _, there3_set T1 _ _, there3_set T0 _ _, by simpa using hz, hB.setCell (by simp) _, hk⟩
/-- What lies in the row that is returned, where one number of the three has just been stored. -/
theorem out_set {w wr : World} (T0 : wr.there w.heap.size 0 3) (hB : Below w.heap.size w wr) (j : Nat) (v : Value) (x y z : Int) :
    (((wr.setCell ⟨w.heap.size + 1, j, none⟩ v).setCells w.heap.size 0 (ar3 x y z)).rangeAt w.heap.size 0 (ar3 x y z)) ∧ Below w.heap.size w ((wr.setCell ⟨w.heap.size + 1, j, none⟩ v).setCells w.heap.size 0 (ar3 x y z)) :=
  ⟨World.rangeAt_setCells_same _ _ _ _ (there3_set T0 _ _), below_setCells _ (Nat.le_refl _) _ _ _ (hB.setCell (by simp) _)⟩
theorem not_valid0 {s : ByteArray} (h : numV (List.take 2 s.data.toList) < 0) : ¬ validP s := fun g => by
  have : 0 ≤ numV (List.take 2 s.data.toList) := by have := g.2.1; rw [two_eq] at this; exact this
  omega
theorem not_valid3 {s : ByteArray} (h : numV (List.take 2 (List.drop 3 s.data.toList)) < 0 ∨ 59 < numV (List.take 2 (List.drop 3 s.data.toList))) : ¬ validP s := fun g => by
  have := g.2.2.1; rw [two_eq] at this; omega
theorem not_valid6 {s : ByteArray} (h : numV (List.take 2 (List.drop 6 s.data.toList)) < 0 ∨ 59 < numV (List.take 2 (List.drop 6 s.data.toList))) : ¬ validP s := fun g => by
  have := g.2.2.2.1; rw [two_eq] at this; omega

theorem parts_end {s : ByteArray} {a b c : Int} (h : 8 < s.size) (J : validP s ↔ 0 ≤ numV (restOf s).data.toList) (E : a = two s 0 ∧ b = two s 3 ∧ c = two s 6) :
    PartsIs s a b c (s.extract 9 s.size) (decide (0 ≤ numV (List.take (s.size - 9) (List.drop 9 s.data.toList)))) := by
  have hr : restOf s = s.extract 9 s.size := if_neg (by omega)
  have he : (s.extract 9 s.size).data.toList = List.take (s.size - 9) (List.drop 9 s.data.toList) := by simp
  rw [hr, he] at J
  by_cases g : 0 ≤ numV (List.take (s.size - 9) (List.drop 9 s.data.toList))
  · exact Or.inl ⟨by simpa using g, J.2 g, E.1, E.2.1, E.2.2, hr.symm⟩
  · exact Or.inr ⟨by simpa using g, fun v => g (J.1 v)⟩
theorem restOf_8 {s : ByteArray} (h : s.size = 8) : restOf s = ByteArray.empty := if_pos h
theorem restOf_9 {s : ByteArray} (h : 8 < s.size) : restOf s = s.extract 9 s.size := if_neg (by omega)
theorem numV_empty : numV ByteArray.empty.data.toList = 0 := rfl
set_option maxRecDepth 100000 in
set_option maxHeartbeats 40000000 in
theorem parts_ok (s : ByteArray) (w : World) (hn : shapeP s) :
    Calls Tryd.prog 25 #[.string s] w (PartsPost s w) := by
  have N := Lib.hid hn
  obtain ⟨h8, g2, g5, n9, n15, g8⟩ := hn
  have i2 : (2 : Nat) < s.size := by omega
  have i5 : (5 : Nat) < s.size := by omega
  have p2 : (s[2].toNat : Int) = 32 := (at_of s 2 i2).symm.trans g2
  have p5 : (s[5].toNat : Int) = 32 := (at_of s 5 i5).symm.trans g5
  have n8 : ¬ (s.size : Int) < 8 := by omega
  have n9' : ¬ (s.size : Int) = 9 := by omega
  have n15' : ¬ (15 : Int) < s.size := by omega
  have hcase : (∃ h9 : 8 < s.size, (s[8].toNat : Int) = 46 ∧ (8 : Int) < s.size) ∨ (¬ (8 : Int) < s.size ∧ s.size = 8) := by
    by_cases h9 : 8 < s.size
    · exact Or.inl ⟨h9, (at_of s 8 h9).symm.trans (g8 h9), by omega⟩
    · exact Or.inr ⟨by omega, by omega⟩
  have st := Lib.hid (kept_start s w #[.int .i64 0, .int .i64 0, .int .i64 0] rfl 42)
  clear g2 g5 g8
  go_enter Tryd.func25, Tryd.ntmps25
  rcases hcase with ⟨h9, p8, m9⟩ | ⟨m9, h9⟩ <;>
   (go_wp2
    go_loopw [6] (fun i wr => ∃ (k : Nat) (a b c : Int), k ≤ 3 ∧ i = .int .i64 k ∧ Kept s w k a b c wr) (fun i _ => 3 - (intOf i).toNat)
    case atStart => exact ⟨0, 0, 0, 0, by omega, rfl, st.out⟩
    case round =>
      obtain ⟨k, a, b, c, hk, rfl, R, T1, T0, hz, hB, I⟩ := hrel
      have q0 := R 0 _ rfl
      have q1 := R 1 _ rfl
      have q2 := R 2 _ rfl
      have f0 := fr_at T1 (j := 0) (by omega)
      have f1 := fr_at T1 (j := 1) (by omega)
      have f2 := fr_at T1 (j := 2) (by omega)
      clear st
      rcases (show k = 0 ∨ k = 1 ∨ k = 2 ∨ k = 3 by omega) with rfl | rfl | rfl | rfl
      · have V := Lib.hid (not_valid0 (s := s))
        have O := Lib.hid (out_set T0 hB 0 (.int .i64 (numV (List.take 2 s.data.toList))) (numV (List.take 2 s.data.toList)) b c)
        have G : Hid (∀ (g1 : 0 ≤ numV (List.take 2 s.data.toList)), Kept s w 1 (numV (List.take 2 s.data.toList)) b c (wr.setCell ⟨w.heap.size + 1, 0, none⟩ (.int .i64 (numV (List.take 2 s.data.toList))))) := Lib.hid fun g1 => kept_set ⟨R, T1, T0, hz, hB, I⟩ 0 (by omega) _ (numV (List.take 2 s.data.toList)) b c rfl 1 ⟨fun _ => ⟨(two_eq s 0).symm, g1⟩, by omega, by omega⟩
        have I' := Lib.hid I
        clear I
        go_wp2_with (first | (go_at_call 26; refine (number_any _ _ (by simp; omega)).mono ?_; rintro e w' ⟨rfl, rfl⟩) | (refine wpList_store_mid rfl _ (.tmp 2) (.tmp 69) rfl w.heap.size 0 _ rfl rfl ?_ info42 ?_ ?_; exact there3_set T0 _ _; simp [Value.oneCell']))
        all_goals first
          | (go_roundw
             case rel => exact ⟨1, (numV (List.take 2 s.data.toList)), b, c, by omega, rfl, G.out (by assumption)⟩
             case measure => simp [intOf])
          | (exact bodyPost_ret (ret_cell_tmp2 Tryd.results25 _ _ w.heap.size (ar3 (numV (List.take 2 s.data.toList)) b c) _ rfl O.out.1 Tryd.underlying42 rfl info42) rfl ⟨_, _, _, _, false, rfl, Or.inr ⟨rfl, V.out (by assumption)⟩, O.out.2⟩)
      · have V := Lib.hid (not_valid3 (s := s))
        have O := Lib.hid (out_set T0 hB 1 (.int .i64 (numV (List.take 2 (List.drop 3 s.data.toList)))) a (numV (List.take 2 (List.drop 3 s.data.toList))) c)
        have G : Hid (∀ (g : 0 ≤ numV (List.take 2 (List.drop 3 s.data.toList)) ∧ numV (List.take 2 (List.drop 3 s.data.toList)) ≤ 59), Kept s w 2 a (numV (List.take 2 (List.drop 3 s.data.toList))) c (wr.setCell ⟨w.heap.size + 1, 1, none⟩ (.int .i64 (numV (List.take 2 (List.drop 3 s.data.toList)))))) := Lib.hid fun g => kept_set ⟨R, T1, T0, hz, hB, I⟩ 1 (by omega) _ a (numV (List.take 2 (List.drop 3 s.data.toList))) c rfl 2 ⟨fun _ => I.1 (by omega), fun _ => ⟨(two_eq s 3).symm, g⟩, by omega⟩
        have I' := Lib.hid I
        clear I
        go_wp2_with (first | (go_at_call 26; refine (number_any _ _ (by simp; omega)).mono ?_; rintro e w' ⟨rfl, rfl⟩) | (refine wpList_store_mid rfl _ (.tmp 2) (.tmp 69) rfl w.heap.size 0 _ rfl rfl ?_ info42 ?_ ?_; exact there3_set T0 _ _; simp [Value.oneCell']))
        all_goals first
          | (go_roundw
             case rel => exact ⟨2, a, (numV (List.take 2 (List.drop 3 s.data.toList))), c, by omega, rfl, G.out (by first | assumption | exact ⟨by assumption, by assumption⟩)⟩
             case measure => simp [intOf])
          | (exact bodyPost_ret (ret_cell_tmp2 Tryd.results25 _ _ w.heap.size (ar3 a (numV (List.take 2 (List.drop 3 s.data.toList))) c) _ rfl O.out.1 Tryd.underlying42 rfl info42) rfl ⟨_, _, _, _, false, rfl, Or.inr ⟨rfl, V.out (by first | assumption | exact Or.inl (by assumption) | exact Or.inr (by assumption))⟩, O.out.2⟩)
      · have V := Lib.hid (not_valid6 (s := s))
        have O := Lib.hid (out_set T0 hB 2 (.int .i64 (numV (List.take 2 (List.drop 6 s.data.toList)))) a b (numV (List.take 2 (List.drop 6 s.data.toList))))
        have G : Hid (∀ (g : 0 ≤ numV (List.take 2 (List.drop 6 s.data.toList)) ∧ numV (List.take 2 (List.drop 6 s.data.toList)) ≤ 59), Kept s w 3 a b (numV (List.take 2 (List.drop 6 s.data.toList))) (wr.setCell ⟨w.heap.size + 1, 2, none⟩ (.int .i64 (numV (List.take 2 (List.drop 6 s.data.toList)))))) := Lib.hid fun g => kept_set ⟨R, T1, T0, hz, hB, I⟩ 2 (by omega) _ a b (numV (List.take 2 (List.drop 6 s.data.toList))) rfl 3 ⟨fun _ => I.1 (by omega), fun _ => I.2.1 (by omega), fun _ => ⟨(two_eq s 6).symm, g⟩⟩
        have I' := Lib.hid I
        clear I
        go_wp2_with (first | (go_at_call 26; refine (number_any _ _ (by simp; omega)).mono ?_; rintro e w' ⟨rfl, rfl⟩) | (refine wpList_store_mid rfl _ (.tmp 2) (.tmp 69) rfl w.heap.size 0 _ rfl rfl ?_ info42 ?_ ?_; exact there3_set T0 _ _; simp [Value.oneCell']))
        all_goals first
          | (go_roundw
             case rel => exact ⟨3, a, b, (numV (List.take 2 (List.drop 6 s.data.toList))), by omega, rfl, G.out (by first | assumption | exact ⟨by assumption, by assumption⟩)⟩
             case measure => simp [intOf])
          | (exact bodyPost_ret (ret_cell_tmp2 Tryd.results25 _ _ w.heap.size (ar3 a b (numV (List.take 2 (List.drop 6 s.data.toList)))) _ rfl O.out.1 Tryd.underlying42 rfl info42) rfl ⟨_, _, _, _, false, rfl, Or.inr ⟨rfl, V.out (by first | assumption | exact Or.inl (by assumption) | exact Or.inr (by assumption))⟩, O.out.2⟩)
      · have J0 := I.1 (by omega)
        have J1 := I.2.1 (by omega)
        have J2 := I.2.2 (by omega)
        clear I
        have O := Lib.hid (show (wr.setCells w.heap.size 0 (ar3 a b c)).rangeAt w.heap.size 0 (ar3 a b c) ∧ Below w.heap.size w (wr.setCells w.heap.size 0 (ar3 a b c)) from ⟨World.rangeAt_setCells_same _ _ _ _ T0, below_setCells _ (Nat.le_refl _) _ _ _ hB⟩)
        have J := Lib.hid (show validP s ↔ 0 ≤ numV (restOf s).data.toList from ⟨fun g => g.2.2.2.2, fun g => ⟨N.out, J0.1 ▸ J0.2, J1.1 ▸ J1.2, J2.1 ▸ J2.2, g⟩⟩)
        have E := Lib.hid (show a = two s 0 ∧ b = two s 3 ∧ c = two s 6 from ⟨J0.1, J1.1, J2.1⟩)
        clear J0 J1 J2
        first
          | (have h88 : (s.size : Int) = 8 := by omega
             clear h9
             go_wp2_with (refine wpList_store_mid rfl _ (.tmp 2) (.tmp 73) rfl w.heap.size 0 _ rfl rfl ?_ info42 ?_ ?_; exact T0; simp [Value.oneCell'])
             exact bodyPost_ret (ret_cell_tmp2 Tryd.results25 _ _ w.heap.size (ar3 a b c) _ rfl O.out.1 Tryd.underlying42 rfl info42) rfl ⟨_, _, _, _, _, rfl, Or.inl ⟨rfl, J.out.2 (by rw [restOf_8 (by omega)]; exact Int.le_of_eq numV_empty.symm), E.out.1, E.out.2.1, E.out.2.2, (restOf_8 (by omega)).symm⟩, O.out.2⟩)
          | (have h88 : ¬ (s.size : Int) = 8 := by omega
             have e0 := fr_at T0 (j := 0) (by omega)
             have e1 := fr_at T0 (j := 1) (by omega)
             have e2 := fr_at T0 (j := 2) (by omega)
             have d0 := cellOf_some (T0 0 (by omega)).1
             have d1 := cellOf_some (T0 1 (by omega)).1
             have d2 := cellOf_some (T0 2 (by omega)).1
             have m99 : (9 : Int) ≤ s.size := by omega
             clear f0 f1 f2
             simp only [Nat.zero_add] at q0 q1 q2 e0 e1 e2 d0 d1 d2
             go_wp2_with fail
             have O2 := Lib.hid (show (wr.setCells w.heap.size 0 (ar3 a b c)).drew.rangeAt w.heap.size 0 (ar3 a b c) ∧ Below w.heap.size w (wr.setCells w.heap.size 0 (ar3 a b c)).drew from ⟨O.out.1, O.out.2.drew⟩)
             have PE := Lib.hid (parts_end h9 J.out E.out)
             have HS : LastS wr w.heap.size a b c := ⟨q0, q1, q2, e0, e1, e2, d0, d1, d2⟩
             go_region_held3 (fun w' => w'.cell? ⟨w.heap.size + 1, 0, none⟩ = some (.int .i64 a) ∧ w'.cell? ⟨w.heap.size + 1, 1, none⟩ = some (.int .i64 b) ∧ w'.cell? ⟨w.heap.size + 1, 2, none⟩ = some (.int .i64 c) ∧ w'.frozen? ⟨w.heap.size, 0, none⟩ = false ∧ w'.frozen? ⟨w.heap.size, 1, none⟩ = false ∧ w'.frozen? ⟨w.heap.size, 2, none⟩ = false ∧ w'.cell? ⟨w.heap.size, 0, none⟩ = some (cellOf w' ⟨w.heap.size, 0, none⟩) ∧ w'.cell? ⟨w.heap.size, 1, none⟩ = some (cellOf w' ⟨w.heap.size, 1, none⟩) ∧ w'.cell? ⟨w.heap.size, 2, none⟩ = some (cellOf w' ⟨w.heap.size, 2, none⟩)) (first | exact lastS_drew HS | exact held_set3 HS _ _ _ | exact held_set3 (lastS_drew HS) _ _ _ | (go_keep; done)) (first | (go_at_call 26; refine (number_any _ _ (by simp; omega)).mono ?_; rintro e w' ⟨rfl, rfl⟩))
             go_wp2
             exact bodyPost_ret (ret_cell_tmp2 Tryd.results25 _ _ w.heap.size (ar3 a b c) _ rfl O2.out.1 Tryd.underlying42 rfl info42) rfl ⟨_, _, _, _, _, rfl, PE.out, O2.out.2⟩)
        )
theorem parts_any (s : ByteArray) (w : World) (hs : s.size ≤ maxLen) :
    Calls Tryd.prog 25 #[.string s] w (PartsPost s w) := by
  by_cases h : shapeP s
  · exact parts_ok s w h
  · exact parts_shape s w hs h
end Ap
end Go.Proofs.YtmafjoboikbnnaaDoor
