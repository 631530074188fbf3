/-
  Parse of package desig: what the walk keeps in memory.
-/
import Derived.Test.YtdjndoafnoidbaaDoorDRPack
namespace Go.Proofs.YtdjndoafnoidbaaDoor
namespace Dw
open Go.RowKit Dp Lw

set_option maxRecDepth 100000 in
set_option maxHeartbeats 4000000 in
theorem rpacked_any (n y h s c : Int) (w : World) (h0 : 0 ≤ h) (h1 : h < 256) (s0 : 0 ≤ s) (s1 : s < 256) (g : okD n y h s c) :
    Calls Tryd.prog 40 #[desigV n y h s c] w (RPackOk n y h s c w) := by
  have hbd := okD_bd g
  by_cases hn : 620000 ≤ n
  · obtain ⟨m, rfl⟩ : ∃ m, n = m + 620000 := ⟨n - 620000, by omega⟩
    exact rpack_big m y h s c w (by omega) (by omega)
  · by_cases hn0 : 0 < n
    · exact rpack_small n y h s c w hn0 (by omega)
    · obtain rfl : n = 0 := by omega
      have hy : 1800 ≤ y ∧ y ≤ 2099 ∧ 0 ≤ c ∧ c ≤ 619 := by unfold okD at g; omega
      exact rpack_prov y h s c w h0 h1 s0 s1 hy.1 hy.2.1 hy.2.2.1 hy.2.2.2
set_option maxRecDepth 100000 in
set_option maxHeartbeats 4000000 in
theorem rPack_ok (n y h s c : Int) (w : World) (h0 : 0 ≤ h) (h1 : h < 256) (s0 : 0 ≤ s) (s1 : s < 256) (g : okD n y h s c) :
    Calls Tryd.prog 19 #[desigV n y h s c] w (PackOk n y h s c w) := by
  have C := Lib.hid (rcheck_any n y h s c (w.alloc (.cells (desigC n y h s c).toArray 23)))
  rw [errC_ok g] at C
  have T := Lib.hid (fun w => rpacked_any n y h s c w h0 h1 s0 s1 g)
  have r1 := rangeAt_new w (desigC n y h s c) 23
  have rs := RS.box w (.cells (desigC n y h s c).toArray 23)
  clear g
  go_enter Tryd.func19, Tryd.ntmps19
  go_wp2_with (refine wpList_load_mid rfl _ (.tmp 1) rfl w.heap.size 0 rfl (desigC n y h s c) _ r1 Tryd.underlying23 rfl info5d ?_)
  go_at_call 25
  refine C.out.mono ?_
  rintro e w1 ⟨rfl, hb1⟩
  have r2 := rangeAt_below r1 hb1 (by simp)
  have rs1 := rs.call hb1
  clear C r1 rs hb1
  go_wp2_with (refine wpList_load_mid rfl _ (.tmp 1) rfl w.heap.size 0 rfl (desigC n y h s c) _ r2 Tryd.underlying23 rfl info5d ?_)
  go_at_call 40
  refine (T.out _).mono ?_
  rintro e w2 ⟨rfl, hb2⟩
  have rs2 := rs1.call hb2
  clear T r2 rs1 hb2
  go_wp2_with fail
  go_ret2
  exact ⟨rfl, rs2.below⟩
set_option maxRecDepth 100000 in
set_option maxHeartbeats 4000000 in
theorem rPack_no (n y h s c : Int) (w : World) (g : ¬ okD n y h s c) :
    Calls Tryd.prog 19 #[desigV n y h s c] w (TextNo w) := by
  have C := Lib.hid (rcheck_any n y h s c (w.alloc (.cells (desigC n y h s c).toArray 23)))
  rw [errC_no g] at C
  have r1 := rangeAt_new w (desigC n y h s c) 23
  have rs := RS.box w (.cells (desigC n y h s c).toArray 23)
  clear g
  go_enter Tryd.func19, Tryd.ntmps19
  go_wp2_with (refine wpList_load_mid rfl _ (.tmp 1) rfl w.heap.size 0 rfl (desigC n y h s c) _ r1 Tryd.underlying23 rfl info5d ?_)
  go_at_call 25
  refine C.out.mono ?_
  rintro e w1 ⟨rfl, hb1⟩
  have rs1 := rs.call hb1
  clear C r1 rs hb1
  go_wp2_with fail
  go_ret2
  exact ⟨rfl, rs1.below⟩
theorem range_set {w : World} {b : Nat} {cs : List Value} (h : w.rangeAt b 0 cs) (j : Nat) (hj : j < cs.length) (v : Value) : (w.setCell ⟨b, j, none⟩ v).rangeAt b 0 (cs.set j v) := fun i x hx => by
  have hu : w.cell? ⟨b, j, none⟩ = some cs[j] := by have := h j cs[j] (List.getElem?_eq_getElem hj); simpa using this
  have hi : i < cs.length := by have := (List.getElem?_eq_some_iff.1 hx).1; simpa using this
  rw [Nat.zero_add]
  by_cases e : j = i
  · subst e
    rw [World.cell?_setCell_same _ _ _ hu]
    rw [List.getElem?_set_self hj] at hx
    exact hx
  · rw [World.cell?_setCell_other _ _ _ _ (by intro g; injection g with _ g2 _; exact e g2)]
    rw [List.getElem?_set_ne e] at hx
    have := h i x hx
    rwa [Nat.zero_add] at this
theorem there_set {w : World} {b n : Nat} (h : w.there b 0 n) (a : Addr) (v : Value) : (w.setCell a v).there b 0 n := fun j hj => by
  refine ⟨?_, by rw [World.frozen?_setCell]; exact (h j hj).2⟩
  obtain ⟨u, hu⟩ := Option.isSome_iff_exists.1 (h j hj).1
  obtain ⟨v', hv'⟩ := cell?_setCell_some (w := w) (p := a) (x := v) (q := ⟨b, 0 + j, none⟩) (v := u) hu
  rw [hv']; rfl
/-- Two boxes: the result's and the designation's, which holds cs. -/
structure PS (w : World) (cs : List Value) (w' : World) : Prop where
  res : w'.there w.heap.size 0 5
  row : w'.rangeAt (w.heap.size + 1) 0 cs
  there : w'.there (w.heap.size + 1) 0 5
  lt : w.heap.size + 1 < w'.heap.size
  below : Below w.heap.size w w'
theorem PS.call {w : World} {cs : List Value} {a b : World} (h : PS w cs a) (hb : Below a.heap.size a b) : PS w cs b :=
  ⟨there_below h.res hb (Nat.lt_of_succ_lt h.lt), rangeAt_below h.row hb h.lt, there_below h.there hb h.lt, Nat.lt_of_lt_of_le h.lt hb.size, below_then h.below hb⟩
theorem PS.new (w : World) : PS w (desigC 0 0 0 0 0) ((w.alloc (.cells (desigC 0 0 0 0 0).toArray 23)).alloc (.cells (desigC 0 0 0 0 0).toArray 23)) := by
  have e : (w.alloc (.cells (desigC 0 0 0 0 0).toArray 23)).heap.size = w.heap.size + 1 := by simp
  have r := rangeAt_new (w.alloc (.cells (desigC 0 0 0 0 0).toArray 23)) (desigC 0 0 0 0 0) 23
  have t := there_new (w.alloc (.cells (desigC 0 0 0 0 0).toArray 23)) (desigC 0 0 0 0 0).toArray 23 5 (by simp)
  rw [e] at r t
  exact ⟨there_below (there_new w _ _ 5 (by simp)) ((Below.refl _ _).alloc (Nat.le_refl _) _) (by simp), r, t, by simp, ((Below.refl _ _).alloc (Nat.le_refl _) _).alloc (by simp) _⟩
theorem PS.set {w : World} {cs cs' : List Value} {a : World} (h : PS w cs a) (j : Nat) (v : Value) (hj : j < cs.length) (he : cs.set j v = cs') : PS w cs' (a.setCell ⟨w.heap.size + 1, j, none⟩ v) :=
  ⟨there_set h.res _ _, he ▸ range_set h.row j hj v, there_set h.there _ _, by simpa using h.lt, h.below.setCell (Nat.le_succ _) v⟩
theorem PS.fr {w : World} {cs : List Value} {a : World} (h : PS w cs a) (j : Nat) (hj : j < 5) : a.frozen? ⟨w.heap.size + 1, j, none⟩ = false := by
  have := (h.there j hj).2
  rwa [Nat.zero_add] at this
theorem PS.cell {w : World} {cs : List Value} {a : World} (h : PS w cs a) (j : Nat) (v : Value) (hv : cs[j]? = some v) : a.cell? ⟨w.heap.size + 1, j, none⟩ = some v := by
  have := h.row j v hv
  rwa [Nat.zero_add] at this
def ParsePost (s : ByteArray) (w : World) (e : Ending) (w' : World) : Prop := ∃ (d : Dg) (k : Int), e = .returned (.tuple #[.agg (desigC d.n d.y d.h d.s d.c).toArray, .int .i64 k]) ∧ ParseIs s.data.toList d k ∧ Below w.heap.size w w'
def UnpackPost (s : ByteArray) (w : World) (e : Ending) (w' : World) : Prop := ∃ (d : Dg) (k : Int), e = .returned (.tuple #[.agg (desigC d.n d.y d.h d.s d.c).toArray, .int .i64 k]) ∧ UnpackIs s.data.toList d k ∧ Below w.heap.size w w'
theorem str_beq (l : List UInt8) (s : ByteArray) : ((⟨l.toArray⟩ : ByteArray).toList == s.toList) = decide (l = s.data.toList) := by
  rw [Lib.toList_data, Lib.toList_data, Bool.eq_iff_iff]
  simp
theorem str_bne (l : List UInt8) (s : ByteArray) : ((⟨l.toArray⟩ : ByteArray).toList != s.toList) = decide (l ≠ s.data.toList) := by
  unfold bne
  rw [str_beq]
  simp
end Dw
end Go.Proofs.YtdjndoafnoidbaaDoor
