/-
  Texts of numbers: pad, glue and clock of package angle.
-/
import Derived.Test.YtmafjoboikbnnaaDoorPTen
import Derived.Test.YtmafjoboikbnnaaDoorShelf2
import Derived.Lib.SmallJoins
import Derived.Lib.LaidTab
import Derived.Laws.Concat
import Derived.Lib.Join
import Derived.Lib.Repeat
import Derived.Lib.ItoaLen
import Derived.Sort.Grow
import Derived.Deep.OwnRows
namespace Go.Proofs.YtmafjoboikbnnaaDoor
namespace At
open Go.RowKit Lw Ap

theorem gPow : Tryd.prog.globalNamed "internal/strconv.uint64pow10" = some 1 := by kernel_rfl
/-- The library's table of powers of ten holds what its initialiser lays. -/
def Tab (w : World) : Prop := Lib.TabIs Tryd.prog w "internal/strconv.uint64pow10" .u64 Lib.pow10Tab
theorem Tab.below {w w' : World} (h : Tab w) (hb : Below w.heap.size w w') : Tab w' := Joins.tab_stays gPow h hb (Nat.le_refl _)

/-- A number with at least so many digits. -/
def padL (n : Int) (d : Nat) : List UInt8 := Lib.repeatL [48] (d - (Lib.itoa n).length) ++ Lib.itoa n
theorem below_grow (w : World) (k : Nat) (os : Array Obj) : Below w.heap.size w (Go.Sort.grow (w.drewN k) os) :=
  ⟨rfl, rfl, rfl, by simp [Go.Sort.grow, World.drewN], fun j hj => by
    show (w.heap ++ os)[j]? = w.heap[j]?
    rw [Array.getElem?_append_left hj]⟩
theorem rep_len (k : Nat) : (Lib.repeatL [48] k).length = k := by
  induction k with
  | zero => rfl
  | succ k ih => simp_all [Lib.repeatL]
theorem str_app (a b : List UInt8) : ((⟨a.toArray⟩ : ByteArray) ++ ⟨b.toArray⟩) = ⟨(a ++ b).toArray⟩ := by
  apply ByteArray.ext
  simp [ByteArray.data_append]

set_option maxRecDepth 100000 in
theorem pad_any (n : Int) (d : Nat) (w : World) (hT : Tab w) (h0 : 0 ≤ n) (h1 : n ≤ 1000000000000000000) (hd : d ≤ 20) :
    Calls Tryd.prog 37 #[.int .i64 n, .int .i64 d] w fun e w' => e = .returned (.string ⟨(padL n d).toArray⟩) ∧ Below w.heap.size w w' := by
  have hl := Lib.itoa_length_le n (by omega) (by omega)
  have F := Lib.hid (Tryd.strconv_FormatInt_10 n (by omega) (by omega) w hT)
  have hp : padL n d = Lib.repeatL [48] (d - (Lib.itoa n).length) ++ Lib.itoa n := rfl
  have hp := Lib.hid hp
  have sz : (⟨(Lib.itoa n).toArray⟩ : ByteArray).size = (Lib.itoa n).length := by simp [ByteArray.size]
  generalize Lib.itoa n = L at *
  go_enter Tryd.func37, Tryd.ntmps37
  go_wp2_with fail
  go_at_call 36
  refine F.out.mono ?_
  rintro e w1 ⟨rfl, k, os, hw⟩
  have hB1 : Below w.heap.size w w1 := by rw [hw]; exact below_grow w k os
  clear F hw hT
  have em : max (0 : Int) (↑d - ↑L.length) = ((d - L.length : Nat) : Int) := by omega
  have R := Lib.hid (Tryd.strings_Repeat ⟨#[48]⟩ (d - L.length) w1 (by omega) (by show 1 * _ ≤ _; omega))
  have rl := rep_len (d - L.length)
  have ls : (⟨#[48]⟩ : ByteArray).data.toList = [48] := rfl
  rw [ls] at R
  go_wp2_with fail
  go_at_call 46
  refine R.out.mono ?_
  rintro e w2 ⟨rfl, hB2⟩
  have hB := below_then hB1 hB2
  have sa := str_app (Lib.repeatL [48] (d - L.length)) L
  generalize Lib.repeatL [48] (d - L.length) = Q at *
  clear R em ls hB1 hB2
  go_wp2_with fail
  go_ret
  exact ⟨by rw [hp.out]; rfl, hB⟩
theorem pad_len (n : Int) (d : Nat) (h0 : 0 ≤ n) (h1 : n ≤ 1000000000000000000) (hd : d ≤ 20) : (padL n d).length ≤ 41 := by
  have := Lib.itoa_length_le n (by omega) (by omega)
  have := rep_len (d - (Lib.itoa n).length)
  unfold padL
  rw [List.length_append]
  omega
/-- Numbers of two digits, put together. -/
def glueL (x y z : Int) : List UInt8 := padL x 2 ++ [32] ++ padL y 2 ++ [32] ++ padL z 2
abbrev i3 (x y z : Int) : List Value := [.int .i64 x, .int .i64 y, .int .i64 z]
abbrev s3 (a b c : List UInt8) : List Value := [.string ⟨a.toArray⟩, .string ⟨b.toArray⟩, .string ⟨c.toArray⟩]

theorem range_set {w : World} {b : Nat} {cs : List Value} (h : w.rangeAt b 0 cs) (j : Nat) (hj : j < cs.length) (v : Value) : (w.setCell ⟨b, j, none⟩ v).rangeAt b 0 (cs.set j v) := fun i x hx => by
  have hu : w.cell? ⟨b, j, none⟩ = some cs[j] := by have := h j cs[j] (List.getElem?_eq_getElem hj); simpa using this
  have hi : i < cs.length := by have := (List.getElem?_eq_some_iff.1 hx).1; simpa using this
  rw [Nat.zero_add]
  by_cases e : j = i
  · subst e
    rw [World.cell?_setCell_same _ _ _ hu]
    rw [List.getElem?_set_self hj] at hx
    exact hx
  · rw [World.cell?_setCell_other _ _ _ _ (by intro g; injection g with _ g2 _; exact e g2)]
    rw [List.getElem?_set_ne e] at hx
    have := h i x hx
    rwa [Nat.zero_add] at this
theorem range_set_other {w : World} {b b' : Nat} {cs : List Value} (h : w.rangeAt b 0 cs) (j : Nat) (hne : b ≠ b') (v : Value) : (w.setCell ⟨b', j, none⟩ v).rangeAt b 0 cs := fun i x hx => by
  rw [World.cell?_setCell_other _ _ _ _ (by intro g; injection g with g1 _ _; exact hne g1.symm)]
  exact h i x hx
theorem there_set {w : World} {b n : Nat} (h : w.there b 0 n) (a : Addr) (v : Value) : (w.setCell a v).there b 0 n := fun j hj => by
  refine ⟨?_, by rw [World.frozen?_setCell]; exact (h j hj).2⟩
  obtain ⟨u, hu⟩ := Option.isSome_iff_exists.1 (h j hj).1
  obtain ⟨v', hv'⟩ := cell?_setCell_some (w := w) (p := a) (x := v) (q := ⟨b, 0 + j, none⟩) (v := u) hu
  rw [hv']; rfl
/-- What the loop keeps: the numbers, the texts so far. -/
structure GK (w : World) (b : Nat) (ns ts : List Value) (wr : World) : Prop where
  nums : wr.rangeAt b 0 ns
  texts : wr.rangeAt w.heap.size 0 ts
  there : wr.there w.heap.size 0 3
  lt : w.heap.size < wr.heap.size
  below : Below w.heap.size w wr
theorem GK.start {w : World} {b : Nat} {ns : List Value} (hb : b < w.heap.size) (h : w.rangeAt b 0 ns) (C : Array Value) (hC : C = (s3 [] [] []).toArray) (t : TypeId) : GK w b ns (s3 [] [] []) (w.alloc (.cells C t)) := by
  subst hC
  exact ⟨rangeAt_below h ((Below.refl _ _).alloc (Nat.le_refl _) _) hb, rangeAt_new w _ t, there_new w _ t 3 (by simp), by simp, (Below.refl _ _).alloc (Nat.le_refl _) _⟩
theorem GK.call {w : World} {b : Nat} {ns ts : List Value} {a c : World} (hb : b < w.heap.size) (h : GK w b ns ts a) (hc : Below a.heap.size a c) : GK w b ns ts c :=
  ⟨rangeAt_below h.nums hc (Nat.lt_trans hb h.lt), rangeAt_below h.texts hc h.lt, there_below h.there hc h.lt, Nat.lt_of_lt_of_le h.lt hc.size, h.below.trans (hc.mono (Nat.le_of_lt h.lt))⟩
theorem GK.set {w : World} {b : Nat} {ns ts ts' : List Value} {a : World} (hb : b < w.heap.size) (h : GK w b ns ts a) (j : Nat) (v : Value) (hj : j < ts.length) (he : ts.set j v = ts') : GK w b ns ts' (a.setCell ⟨w.heap.size, j, none⟩ v) :=
  ⟨range_set_other h.nums j (Nat.ne_of_lt hb) v, he ▸ range_set h.texts j hj v, there_set h.there _ _, by simpa using h.lt, h.below.setCell (Nat.le_refl _) v⟩
theorem fr_of {w : World} {b : Nat} {ns ts : List Value} {a : World} (h : GK w b ns ts a) (j : Nat) (hj : j < 3) : a.frozen? ⟨w.heap.size, j, none⟩ = false := by
  have := (h.there j hj).2
  rwa [Nat.zero_add] at this
theorem cell_of {w : World} {b : Nat} {ns ts : List Value} {a : World} (h : GK w b ns ts a) (j : Nat) (v : Value) (hv : ts[j]? = some v) : a.cell? ⟨w.heap.size, j, none⟩ = some v := by
  have := h.texts j v hv
  rwa [Nat.zero_add] at this
theorem num_of {w : World} {b : Nat} {ns ts : List Value} {a : World} (h : GK w b ns ts a) (j : Nat) (v : Value) (hv : ns[j]? = some v) : a.cell? ⟨b, j, none⟩ = some v := by
  have := h.nums j v hv
  rwa [Nat.zero_add] at this
set_option maxRecDepth 100000 in
set_option maxHeartbeats 4000000 in
theorem glue_any (x y z : Int) (b : Nat) (w : World) (hT : Tab w) (hb : b < w.heap.size) (hc : w.rangeAt b 0 (i3 x y z))
    (x0 : 0 ≤ x) (x1 : x ≤ 1000000000000) (y0 : 0 ≤ y) (y1 : y ≤ 1000000000000) (z0 : 0 ≤ z) (z1 : z ≤ 1000000000000) :
    Calls Tryd.prog 44 #[.slice (some ⟨b, 0, none⟩) 3 3] w fun e w' => e = .returned (.string ⟨(glueL x y z).toArray⟩) ∧ Below w.heap.size w w' := by
  have HT := Lib.hid hT
  have HC := Lib.hid hc
  clear hT hc
  have hmk : (Instr.makeSlice 68 (.int .i64 3) (.int .i64 3)).run Tryd.prog w = .ok (.slice (some ⟨w.heap.size, 0, none⟩) 3 3) (w.alloc (.cells #[.string ⟨#[]⟩, .string ⟨#[]⟩, .string ⟨#[]⟩] 9)) :=
    by
    have h := run_make_row' (P := Tryd.prog) 68 9 (.string ⟨#[]⟩) 16 Tryd.underlying68 (by kernel_rfl) rfl .i64 .i64 3 (by omega) (by omega) w
    rw [show madeCells #[Value.string ⟨#[]⟩] 3 = #[.string ⟨#[]⟩, .string ⟨#[]⟩, .string ⟨#[]⟩] by kernel_rfl] at h
    exact h
  have G0 := Lib.hid (GK.start hb HC.out #[.string ⟨#[]⟩, .string ⟨#[]⟩, .string ⟨#[]⟩] rfl 9)
  have P1 : ∀ w', Tab w' → Calls Tryd.prog 37 #[.int .i64 x, .int .i64 2] w' fun e w'' => e = .returned (.string ⟨(padL x 2).toArray⟩) ∧ Below w'.heap.size w' w'' := fun w' h => pad_any x 2 w' h x0 (by omega) (by omega)
  have P2 : ∀ w', Tab w' → Calls Tryd.prog 37 #[.int .i64 y, .int .i64 2] w' fun e w'' => e = .returned (.string ⟨(padL y 2).toArray⟩) ∧ Below w'.heap.size w' w'' := fun w' h => pad_any y 2 w' h y0 (by omega) (by omega)
  have P3 : ∀ w', Tab w' → Calls Tryd.prog 37 #[.int .i64 z, .int .i64 2] w' fun e w'' => e = .returned (.string ⟨(padL z 2).toArray⟩) ∧ Below w'.heap.size w' w'' := fun w' h => pad_any z 2 w' h z0 (by omega) (by omega)
  have JL := Lib.hid (show Lib.join [padL x 2, padL y 2, padL z 2] [32] = glueL x y z by simp [Lib.join, glueL])
  have lx := pad_len x 2 x0 (by omega) (by omega)
  have ly := pad_len y 2 y0 (by omega) (by omega)
  have lz := pad_len z 2 z0 (by omega) (by omega)
  generalize padL x 2 = a at *
  generalize padL y 2 = c at *
  generalize padL z 2 = d at *
  clear x0 x1 y0 y1 z0 z1
  go_enter Tryd.func44, Tryd.ntmps44
  go_wp2_with fail
  go_loopw [11] (fun i wr => ∃ k : Nat, k ≤ 3 ∧ i = .int .i64 k ∧ GK w b (i3 x y z) (s3 (if 0 < k then a else []) (if 1 < k then c else []) (if 2 < k then d else [])) wr) (fun i _ => 3 - (intOf i).toNat)
  case atStart => exact ⟨0, by omega, rfl, G0.out⟩
  case round =>
    clear G0 hmk
    obtain ⟨k, hk, rfl, G⟩ := hrel
    have hT := Lib.hid (HT.out.below G.below)
    rcases (show k = 0 ∨ k = 1 ∨ k = 2 ∨ k = 3 by omega) with rfl | rfl | rfl | rfl
    · have G1 : GK w b (i3 x y z) (s3 [] [] []) wr := G
      have n0 := num_of G1 0 _ rfl
      clear G
      go_wp2_with fail
      go_at_call 37
      refine (P1 _ hT.out).mono ?_
      rintro e w2 ⟨rfl, hb2⟩
      have G2 := GK.call hb G1 hb2
      have f0 := fr_of G2 0 (by omega)
      have c0 := cell_of G2 0 _ rfl
      have G3 := Lib.hid (GK.set hb G2 0 (.string ⟨a.toArray⟩) (by simp) (ts' := s3 a [] []) rfl)
      clear G1 n0 hb2 G2
      go_wp2_with fail
      go_roundw
      case rel => exact ⟨1, by omega, rfl, G3.out⟩
      case measure => simp [intOf]
    · have G1 : GK w b (i3 x y z) (s3 a [] []) wr := G
      have n0 := num_of G1 1 _ rfl
      clear G
      go_wp2_with fail
      go_at_call 37
      refine (P2 _ hT.out).mono ?_
      rintro e w2 ⟨rfl, hb2⟩
      have G2 := GK.call hb G1 hb2
      have f0 := fr_of G2 1 (by omega)
      have c0 := cell_of G2 1 _ rfl
      have G3 := Lib.hid (GK.set hb G2 1 (.string ⟨c.toArray⟩) (by simp) (ts' := s3 a c []) rfl)
      clear G1 n0 hb2 G2
      go_wp2_with fail
      go_roundw
      case rel => exact ⟨2, by omega, rfl, G3.out⟩
      case measure => simp [intOf]
    · have G1 : GK w b (i3 x y z) (s3 a c []) wr := G
      have n0 := num_of G1 2 _ rfl
      clear G
      go_wp2_with fail
      go_at_call 37
      refine (P3 _ hT.out).mono ?_
      rintro e w2 ⟨rfl, hb2⟩
      have G2 := GK.call hb G1 hb2
      have f0 := fr_of G2 2 (by omega)
      have c0 := cell_of G2 2 _ rfl
      have G3 := Lib.hid (GK.set hb G2 2 (.string ⟨d.toArray⟩) (by simp) (ts' := s3 a c d) rfl)
      clear G1 n0 hb2 G2
      go_wp2_with fail
      go_roundw
      case rel => exact ⟨3, by omega, rfl, G3.out⟩
      case measure => simp [intOf]
    · have G1 : GK w b (i3 x y z) (s3 a c d) wr := G
      clear G
      have em : ([⟨a.toArray⟩, ⟨c.toArray⟩, ⟨d.toArray⟩] : List ByteArray).map (·.data.toList) = [a, c, d] := by simp
      have el : (Lib.join [a, c, d] [32]).length ≤ 140737488355328 := by
        simp [Lib.join]
        omega
      have J : Hid (Calls Tryd.prog 52 #[.slice (some ⟨w.heap.size, 0, none⟩) 3 3, .string ⟨#[32]⟩] wr fun e w' => e = .returned (.string ⟨(glueL x y z).toArray⟩) ∧ Below wr.heap.size wr w') := by
        have h := Tryd.strings_Join w.heap.size 0 3 [⟨a.toArray⟩, ⟨c.toArray⟩, ⟨d.toArray⟩] ⟨#[32]⟩ wr (fun j t hj => by
          rw [Nat.zero_add]
          match j, hj with
          | 0, hj => obtain rfl := Option.some.inj hj; exact cell_of G1 0 _ rfl
          | 1, hj => obtain rfl := Option.some.inj hj; exact cell_of G1 1 _ rfl
          | 2, hj => obtain rfl := Option.some.inj hj; exact cell_of G1 2 _ rfl
          | k + 3, hj => simp at hj) G1.lt (by simp) (by simp) (by rw [em]; exact el)
        rw [em, show (⟨#[32]⟩ : ByteArray).data.toList = [32] from rfl, JL.out] at h
        exact Lib.hid h
      have hB := G1.below
      clear em el JL G1
      go_wp2_with fail
      go_at_call 52
      refine J.out.mono ?_
      rintro e w2 ⟨rfl, hb2⟩
      go_wp2_with fail
      go_ret
      exact ⟨rfl, below_then hB hb2⟩
end At
end Go.Proofs.YtmafjoboikbnnaaDoor
