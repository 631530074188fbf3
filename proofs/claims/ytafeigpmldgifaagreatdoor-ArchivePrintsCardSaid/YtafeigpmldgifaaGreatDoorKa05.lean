/-
  Lemmas and walks, texts joined: TPad, TClk, PRRa, PDSpec, Pl, TTurn, TRa, OMag, OBlank, OTrim, PTrim, BPl, BPl2, OLine, OPut, OLine2, OSeg, ORTxt, ORMag.
-/
import Derived.Lib.SmallJoins
import Derived.Lib.LaidTab
import Derived.Laws.Concat
import Derived.Lib.Join
import Derived.Lib.Repeat
import Derived.Lib.ItoaLen
import Derived.Sort.Grow
import Derived.Deep.OwnRows
import Derived.WalkKit
import Derived.Deep.QuietTactic
import Derived.ProofKit
import Derived.Outline
import Derived.Lib.Hide
import Derived.BigQuiet
import Derived.WalkLawsBesides
import Derived.WalkSpells
import Derived.Laws.IdiomCopy
import Derived.Test.YtafeigpmldgifaaGreatDoorKa04
import Derived.Test.YtafeigpmldgifaaGreatDoorRows
import Derived.Test.YtafeigpmldgifaaGreatDoorKa02
set_option linter.unusedSimpArgs false
set_option linter.unusedVariables false
/-
  Texts of numbers: pad, glue and clock of package angle.
-/
namespace Go.Proofs.YtafeigpmldgifaaGreatDoor
namespace Gt
open Go.RowKit Lw Gp

theorem gPow : Tryz.prog.globalNamed "internal/strconv.uint64pow10" = some 4 := by kernel_rfl
/-- The library's table of powers of ten holds what its initialiser lays. -/
def Tab (w : World) : Prop := Lib.TabIs Tryz.prog w "internal/strconv.uint64pow10" .u64 Lib.pow10Tab
theorem Tab.below {w w' : World} (h : Tab w) (hb : Below w.heap.size w w') : Tab w' := Joins.tab_stays gPow h hb (Nat.le_refl _)

/-- A number with at least so many digits. -/
def padL (n : Int) (d : Nat) : List UInt8 := Lib.repeatL [48] (d - (Lib.itoa n).length) ++ Lib.itoa n
theorem below_grow (w : World) (k : Nat) (os : Array Obj) : Below w.heap.size w (Go.Sort.grow (w.drewN k) os) :=
  ⟨rfl, rfl, rfl, by simp [Go.Sort.grow, World.drewN], fun j hj => by
    show (w.heap ++ os)[j]? = w.heap[j]?
    rw [Array.getElem?_append_left hj]⟩
theorem rep_len (k : Nat) : (Lib.repeatL [48] k).length = k := by
  induction k with
  | zero => rfl
  | succ k ih => simp_all [Lib.repeatL]
theorem str_app (a b : List UInt8) : ((⟨a.toArray⟩ : ByteArray) ++ ⟨b.toArray⟩) = ⟨(a ++ b).toArray⟩ := by
  apply ByteArray.ext
  simp [ByteArray.data_append]

set_option maxRecDepth 100000 in
theorem pad_any (n : Int) (d : Nat) (w : World) (hT : Tab w) (h0 : 0 ≤ n) (h1 : n ≤ 1000000000000000000) (hd : d ≤ 20) :
    Calls Tryz.prog 86 #[.int .i64 n, .int .i64 d] w fun e w' => e = .returned (.string ⟨(padL n d).toArray⟩) ∧ Below w.heap.size w w' := by
  have hl := Lib.itoa_length_le n (by omega) (by omega)
  have F := Lib.hid (Tryz.strconv_FormatInt_10 n (by omega) (by omega) w hT)
  have hp : padL n d = Lib.repeatL [48] (d - (Lib.itoa n).length) ++ Lib.itoa n := rfl
  have hp := Lib.hid hp
  have sz : (⟨(Lib.itoa n).toArray⟩ : ByteArray).size = (Lib.itoa n).length := by simp [ByteArray.size]
  generalize Lib.itoa n = L at *
  go_enter Tryz.func86, Tryz.ntmps86
  go_wp2_with fail
  go_at_call 82
  refine F.out.mono ?_
  rintro e w1 ⟨rfl, k, os, hw⟩
  have hB1 : Below w.heap.size w w1 := by rw [hw]; exact below_grow w k os
  clear F hw hT
  have em : max (0 : Int) (↑d - ↑L.length) = ((d - L.length : Nat) : Int) := by omega
  have R := Lib.hid (Tryz.strings_Repeat ⟨#[48]⟩ (d - L.length) w1 (by omega) (by show 1 * _ ≤ _; omega))
  have rl := rep_len (d - L.length)
  have ls : (⟨#[48]⟩ : ByteArray).data.toList = [48] := rfl
  rw [ls] at R
  go_wp2_with fail
  go_at_call 29
  refine R.out.mono ?_
  rintro e w2 ⟨rfl, hB2⟩
  have hB := below_then hB1 hB2
  have sa := str_app (Lib.repeatL [48] (d - L.length)) L
  generalize Lib.repeatL [48] (d - L.length) = Q at *
  clear R em ls hB1 hB2
  go_wp2_with fail
  go_ret
  exact ⟨by rw [hp.out]; rfl, hB⟩
theorem pad_len (n : Int) (d : Nat) (h0 : 0 ≤ n) (h1 : n ≤ 1000000000000000000) (hd : d ≤ 20) : (padL n d).length ≤ 41 := by
  have := Lib.itoa_length_le n (by omega) (by omega)
  have := rep_len (d - (Lib.itoa n).length)
  unfold padL
  rw [List.length_append]
  omega
/-- Numbers of two digits, put together. -/
def glueL (x y z : Int) : List UInt8 := padL x 2 ++ [32] ++ padL y 2 ++ [32] ++ padL z 2
abbrev i3 (x y z : Int) : List Value := [.int .i64 x, .int .i64 y, .int .i64 z]
abbrev s3 (a b c : List UInt8) : List Value := [.string ⟨a.toArray⟩, .string ⟨b.toArray⟩, .string ⟨c.toArray⟩]

theorem range_set {w : World} {b : Nat} {cs : List Value} (h : w.rangeAt b 0 cs) (j : Nat) (hj : j < cs.length) (v : Value) : (w.setCell ⟨b, j, none⟩ v).rangeAt b 0 (cs.set j v) := fun i x hx => by
  have hu : w.cell? ⟨b, j, none⟩ = some cs[j] := by have := h j cs[j] (List.getElem?_eq_getElem hj); simpa using this
  have hi : i < cs.length := by have := (List.getElem?_eq_some_iff.1 hx).1; simpa using this
  rw [Nat.zero_add]
  by_cases e : j = i
  · subst e
    rw [World.cell?_setCell_same _ _ _ hu]
    rw [List.getElem?_set_self hj] at hx
    exact hx
  · rw [World.cell?_setCell_other _ _ _ _ (by intro g; injection g with _ g2 _; exact e g2)]
    rw [List.getElem?_set_ne e] at hx
    have := h i x hx
    rwa [Nat.zero_add] at this
theorem range_set_other {w : World} {b b' : Nat} {cs : List Value} (h : w.rangeAt b 0 cs) (j : Nat) (hne : b ≠ b') (v : Value) : (w.setCell ⟨b', j, none⟩ v).rangeAt b 0 cs := fun i x hx => by
  rw [World.cell?_setCell_other _ _ _ _ (by intro g; injection g with g1 _ _; exact hne g1.symm)]
  exact h i x hx
theorem there_set {w : World} {b n : Nat} (h : w.there b 0 n) (a : Addr) (v : Value) : (w.setCell a v).there b 0 n := fun j hj => by
  refine ⟨?_, by rw [World.frozen?_setCell]; exact (h j hj).2⟩
  obtain ⟨u, hu⟩ := Option.isSome_iff_exists.1 (h j hj).1
  obtain ⟨v', hv'⟩ := cell?_setCell_some (w := w) (p := a) (x := v) (q := ⟨b, 0 + j, none⟩) (v := u) hu
  rw [hv']; rfl
/-- What the loop keeps: the numbers, the texts so far. -/
structure GK (w : World) (b : Nat) (ns ts : List Value) (wr : World) : Prop where
  nums : wr.rangeAt b 0 ns
  texts : wr.rangeAt w.heap.size 0 ts
  there : wr.there w.heap.size 0 3
  lt : w.heap.size < wr.heap.size
  below : Below w.heap.size w wr
theorem GK.start {w : World} {b : Nat} {ns : List Value} (hb : b < w.heap.size) (h : w.rangeAt b 0 ns) (C : Array Value) (hC : C = (s3 [] [] []).toArray) (t : TypeId) : GK w b ns (s3 [] [] []) (w.alloc (.cells C t)) := by
  subst hC
  exact ⟨rangeAt_below h ((Below.refl _ _).alloc (Nat.le_refl _) _) hb, rangeAt_new w _ t, there_new w _ t 3 (by simp), by simp, (Below.refl _ _).alloc (Nat.le_refl _) _⟩
theorem GK.call {w : World} {b : Nat} {ns ts : List Value} {a c : World} (hb : b < w.heap.size) (h : GK w b ns ts a) (hc : Below a.heap.size a c) : GK w b ns ts c :=
  ⟨rangeAt_below h.nums hc (Nat.lt_trans hb h.lt), rangeAt_below h.texts hc h.lt, there_below h.there hc h.lt, Nat.lt_of_lt_of_le h.lt hc.size, h.below.trans (hc.mono (Nat.le_of_lt h.lt))⟩
theorem GK.set {w : World} {b : Nat} {ns ts ts' : List Value} {a : World} (hb : b < w.heap.size) (h : GK w b ns ts a) (j : Nat) (v : Value) (hj : j < ts.length) (he : ts.set j v = ts') : GK w b ns ts' (a.setCell ⟨w.heap.size, j, none⟩ v) :=
  ⟨range_set_other h.nums j (Nat.ne_of_lt hb) v, he ▸ range_set h.texts j hj v, there_set h.there _ _, by simpa using h.lt, h.below.setCell (Nat.le_refl _) v⟩
theorem fr_of {w : World} {b : Nat} {ns ts : List Value} {a : World} (h : GK w b ns ts a) (j : Nat) (hj : j < 3) : a.frozen? ⟨w.heap.size, j, none⟩ = false := by
  have := (h.there j hj).2
  rwa [Nat.zero_add] at this
theorem cell_of {w : World} {b : Nat} {ns ts : List Value} {a : World} (h : GK w b ns ts a) (j : Nat) (v : Value) (hv : ts[j]? = some v) : a.cell? ⟨w.heap.size, j, none⟩ = some v := by
  have := h.texts j v hv
  rwa [Nat.zero_add] at this
theorem num_of {w : World} {b : Nat} {ns ts : List Value} {a : World} (h : GK w b ns ts a) (j : Nat) (v : Value) (hv : ns[j]? = some v) : a.cell? ⟨b, j, none⟩ = some v := by
  have := h.nums j v hv
  rwa [Nat.zero_add] at this
set_option maxRecDepth 100000 in
set_option maxHeartbeats 4000000 in
theorem glue_any (x y z : Int) (b : Nat) (w : World) (hT : Tab w) (hb : b < w.heap.size) (hc : w.rangeAt b 0 (i3 x y z))
    (x0 : 0 ≤ x) (x1 : x ≤ 1000000000000) (y0 : 0 ≤ y) (y1 : y ≤ 1000000000000) (z0 : 0 ≤ z) (z1 : z ≤ 1000000000000) :
    Calls Tryz.prog 85 #[.slice (some ⟨b, 0, none⟩) 3 3] w fun e w' => e = .returned (.string ⟨(glueL x y z).toArray⟩) ∧ Below w.heap.size w w' := by
  have HT := Lib.hid hT
  have HC := Lib.hid hc
  clear hT hc
  have hmk : (Instr.makeSlice 24 (.int .i64 3) (.int .i64 3)).run Tryz.prog w = .ok (.slice (some ⟨w.heap.size, 0, none⟩) 3 3) (w.alloc (.cells #[.string ⟨#[]⟩, .string ⟨#[]⟩, .string ⟨#[]⟩] 9)) :=
    by
    have h := run_make_row' (P := Tryz.prog) 24 9 (.string ⟨#[]⟩) 16 Tryz.underlying24 (by kernel_rfl) rfl .i64 .i64 3 (by omega) (by omega) w
    rw [show madeCells #[Value.string ⟨#[]⟩] 3 = #[.string ⟨#[]⟩, .string ⟨#[]⟩, .string ⟨#[]⟩] by kernel_rfl] at h
    exact h
  have G0 := Lib.hid (GK.start hb HC.out #[.string ⟨#[]⟩, .string ⟨#[]⟩, .string ⟨#[]⟩] rfl 9)
  have P1 : ∀ w', Tab w' → Calls Tryz.prog 86 #[.int .i64 x, .int .i64 2] w' fun e w'' => e = .returned (.string ⟨(padL x 2).toArray⟩) ∧ Below w'.heap.size w' w'' := fun w' h => pad_any x 2 w' h x0 (by omega) (by omega)
  have P2 : ∀ w', Tab w' → Calls Tryz.prog 86 #[.int .i64 y, .int .i64 2] w' fun e w'' => e = .returned (.string ⟨(padL y 2).toArray⟩) ∧ Below w'.heap.size w' w'' := fun w' h => pad_any y 2 w' h y0 (by omega) (by omega)
  have P3 : ∀ w', Tab w' → Calls Tryz.prog 86 #[.int .i64 z, .int .i64 2] w' fun e w'' => e = .returned (.string ⟨(padL z 2).toArray⟩) ∧ Below w'.heap.size w' w'' := fun w' h => pad_any z 2 w' h z0 (by omega) (by omega)
  have JL := Lib.hid (show Lib.join [padL x 2, padL y 2, padL z 2] [32] = glueL x y z by simp [Lib.join, glueL])
  have lx := pad_len x 2 x0 (by omega) (by omega)
  have ly := pad_len y 2 y0 (by omega) (by omega)
  have lz := pad_len z 2 z0 (by omega) (by omega)
  generalize padL x 2 = a at *
  generalize padL y 2 = c at *
  generalize padL z 2 = d at *
  clear x0 x1 y0 y1 z0 z1
  go_enter Tryz.func85, Tryz.ntmps85
  go_wp2_with fail
  go_loopw [11] (fun i wr => ∃ k : Nat, k ≤ 3 ∧ i = .int .i64 k ∧ GK w b (i3 x y z) (s3 (if 0 < k then a else []) (if 1 < k then c else []) (if 2 < k then d else [])) wr) (fun i _ => 3 - (intOf i).toNat)
  case atStart => exact ⟨0, by omega, rfl, G0.out⟩
  case round =>
    clear G0 hmk
    obtain ⟨k, hk, rfl, G⟩ := hrel
    have hT := Lib.hid (HT.out.below G.below)
    rcases (show k = 0 ∨ k = 1 ∨ k = 2 ∨ k = 3 by omega) with rfl | rfl | rfl | rfl
    · have G1 : GK w b (i3 x y z) (s3 [] [] []) wr := G
      have n0 := num_of G1 0 _ rfl
      clear G
      go_wp2_with fail
      go_at_call 86
      refine (P1 _ hT.out).mono ?_
      rintro e w2 ⟨rfl, hb2⟩
      have G2 := GK.call hb G1 hb2
      have f0 := fr_of G2 0 (by omega)
      have c0 := cell_of G2 0 _ rfl
      have G3 := Lib.hid (GK.set hb G2 0 (.string ⟨a.toArray⟩) (by simp) (ts' := s3 a [] []) rfl)
      clear G1 n0 hb2 G2
      go_wp2_with fail
      go_roundw
      case rel => exact ⟨1, by omega, rfl, G3.out⟩
      case measure => simp [intOf]
    · have G1 : GK w b (i3 x y z) (s3 a [] []) wr := G
      have n0 := num_of G1 1 _ rfl
      clear G
      go_wp2_with fail
      go_at_call 86
      refine (P2 _ hT.out).mono ?_
      rintro e w2 ⟨rfl, hb2⟩
      have G2 := GK.call hb G1 hb2
      have f0 := fr_of G2 1 (by omega)
      have c0 := cell_of G2 1 _ rfl
      have G3 := Lib.hid (GK.set hb G2 1 (.string ⟨c.toArray⟩) (by simp) (ts' := s3 a c []) rfl)
      clear G1 n0 hb2 G2
      go_wp2_with fail
      go_roundw
      case rel => exact ⟨2, by omega, rfl, G3.out⟩
      case measure => simp [intOf]
    · have G1 : GK w b (i3 x y z) (s3 a c []) wr := G
      have n0 := num_of G1 2 _ rfl
      clear G
      go_wp2_with fail
      go_at_call 86
      refine (P3 _ hT.out).mono ?_
      rintro e w2 ⟨rfl, hb2⟩
      have G2 := GK.call hb G1 hb2
      have f0 := fr_of G2 2 (by omega)
      have c0 := cell_of G2 2 _ rfl
      have G3 := Lib.hid (GK.set hb G2 2 (.string ⟨d.toArray⟩) (by simp) (ts' := s3 a c d) rfl)
      clear G1 n0 hb2 G2
      go_wp2_with fail
      go_roundw
      case rel => exact ⟨3, by omega, rfl, G3.out⟩
      case measure => simp [intOf]
    · have G1 : GK w b (i3 x y z) (s3 a c d) wr := G
      clear G
      have em : ([⟨a.toArray⟩, ⟨c.toArray⟩, ⟨d.toArray⟩] : List ByteArray).map (·.data.toList) = [a, c, d] := by simp
      have el : (Lib.join [a, c, d] [32]).length ≤ 140737488355328 := by
        simp [Lib.join]
        omega
      have J : Hid (Calls Tryz.prog 10 #[.slice (some ⟨w.heap.size, 0, none⟩) 3 3, .string ⟨#[32]⟩] wr fun e w' => e = .returned (.string ⟨(glueL x y z).toArray⟩) ∧ Below wr.heap.size wr w') := by
        have h := Tryz.strings_Join w.heap.size 0 3 [⟨a.toArray⟩, ⟨c.toArray⟩, ⟨d.toArray⟩] ⟨#[32]⟩ wr (fun j t hj => by
          rw [Nat.zero_add]
          match j, hj with
          | 0, hj => obtain rfl := Option.some.inj hj; exact cell_of G1 0 _ rfl
          | 1, hj => obtain rfl := Option.some.inj hj; exact cell_of G1 1 _ rfl
          | 2, hj => obtain rfl := Option.some.inj hj; exact cell_of G1 2 _ rfl
          | k + 3, hj => simp at hj) G1.lt (by simp) (by simp) (by rw [em]; exact el)
        rw [em, show (⟨#[32]⟩ : ByteArray).data.toList = [32] from rfl, JL.out] at h
        exact Lib.hid h
      have hB := G1.below
      clear em el JL G1
      go_wp2_with fail
      go_at_call 10
      refine J.out.mono ?_
      rintro e w2 ⟨rfl, hb2⟩
      go_wp2_with fail
      go_ret
      exact ⟨rfl, below_then hB hb2⟩
end Gt
end Go.Proofs.YtafeigpmldgifaaGreatDoor
/-
  Texts of parts of a second: clock of package angle.
-/
namespace Go.Proofs.YtafeigpmldgifaaGreatDoor
namespace Gt
open Go.RowKit Lw Gp

/-- Hours, minutes, seconds and parts. -/
def clockL (n d : Nat) : List UInt8 :=
  glueL ((n / 10 ^ d / 3600 : Nat) : Int) ((n / 10 ^ d / 60 % 60 : Nat) : Int) ((n / 10 ^ d % 60 : Nat) : Int) ++ (if 0 < d then 46 :: padL ((n % 10 ^ d : Nat) : Int) d else [])

theorem glue_len (x y z : Int) (x0 : 0 ≤ x) (x1 : x ≤ 1000000000000) (y0 : 0 ≤ y) (y1 : y ≤ 1000000000000) (z0 : 0 ≤ z) (z1 : z ≤ 1000000000000) : (glueL x y z).length ≤ 130 := by
  have a := pad_len x 2 x0 (by omega) (by omega)
  have b := pad_len y 2 y0 (by omega) (by omega)
  have c := pad_len z 2 z0 (by omega) (by omega)
  unfold glueL
  simp only [List.length_append, List.length_cons, List.length_nil]
  omega
set_option maxRecDepth 100000 in
set_option maxHeartbeats 4000000 in
theorem clock_any (n d : Nat) (w : World) (hT : Tab w) (hn : n ≤ 1000000000000) (hd : d ≤ 18) :
    Calls Tryz.prog 62 #[.int .i64 n, .int .i64 d] w fun e w' => e = .returned (.string ⟨(clockL n d).toArray⟩) ∧ Below w.heap.size w w' := by
  have hp : 1 ≤ 10 ^ d := Nat.pow_pos (by omega)
  have hp2 : 10 ^ d ≤ 1000000000000000000 := Nat.pow_le_pow_right (n := 10) (by omega) hd
  have NT : ∀ w : World, Calls Tryz.prog 59 #[.int .i64 d] w fun e w' => e = .returned (.int .i64 ((10 ^ d : Nat) : Int)) ∧ w = w' := fun w => ten_any d w hd
  have K := Lib.hid (show clockL n d = glueL ((n / 10 ^ d / 3600 : Nat) : Int) ((n / 10 ^ d / 60 % 60 : Nat) : Int) ((n / 10 ^ d % 60 : Nat) : Int) ++ (if 0 < d then 46 :: padL ((n % 10 ^ d : Nat) : Int) d else []) from rfl)
  generalize 10 ^ d = p at *
  have m1 : n / p ≤ n := Nat.div_le_self _ _
  have m2 : n % p < p := Nat.mod_lt _ hp
  have m3 : n % p ≤ n := Nat.mod_le _ _
  have t1 : (n : Int).tdiv (p : Int) = ((n / p : Nat) : Int) := rfl
  have t2 : (n : Int).tmod (p : Int) = ((n % p : Nat) : Int) := rfl
  generalize n / p = s at *
  generalize n % p = r at *
  have q1 : s / 3600 ≤ s := Nat.div_le_self _ _
  have q2 : s / 60 % 60 < 60 := Nat.mod_lt _ (by omega)
  have q3 : s % 60 < 60 := Nat.mod_lt _ (by omega)
  have q4 : s / 60 ≤ s := Nat.div_le_self _ _
  have t3 : (s : Int).tdiv 3600 = ((s / 3600 : Nat) : Int) := rfl
  have t4 : (s : Int).tdiv 60 = ((s / 60 : Nat) : Int) := rfl
  have t5 : (s : Int).tmod 60 = ((s % 60 : Nat) : Int) := rfl
  have t6 : ((s / 60 : Nat) : Int).tmod 60 = ((s / 60 % 60 : Nat) : Int) := rfl
  generalize s / 60 % 60 = y at *
  generalize s / 3600 = x at *
  generalize s % 60 = z at *
  generalize s / 60 = v at *
  have GL := glue_len (x : Int) y z (by omega) (by omega) (by omega) (by omega) (by omega) (by omega)
  have hp0 : (p : Int) ≠ 0 := by omega
  have hT := Lib.hid hT
  have G := Lib.hid (glue_any x y z w.heap.size (w.alloc (.cells (i3 x y z).toArray 2)) (hT.out.below ((Below.refl _ _).alloc (Nat.le_refl _) _)) (by simp) (rangeAt_new w _ _) (by omega) (by omega) (by omega) (by omega) (by omega) (by omega))
  have hB0 : Below w.heap.size w (w.alloc (.cells (i3 x y z).toArray 2)) := (Below.refl _ _).alloc (Nat.le_refl _) _
  go_enter Tryz.func62, Tryz.ntmps62
  go_wp2_with (go_at_call 59; refine (NT _).mono ?_; rintro e w' ⟨rfl, rfl⟩)
  go_at_call 85
  refine G.out.mono ?_
  rintro e w1 ⟨rfl, hB1⟩
  have hB := below_then hB0 hB1
  have T1 := Lib.hid (hT.out.below hB)
  clear G hB0 hB1 hT
  generalize glueL (x : Int) y z = g at *
  by_cases h0 : 0 < d
  · have P := Lib.hid (pad_any r d w1 T1.out (by omega) (by omega) (by omega))
    have PL := pad_len r d (by omega) (by omega) (by omega)
    have m0 : (0 : Int) < d := by omega
    rw [if_pos h0] at K
    generalize padL (r : Int) d = q at *
    have sa := str_app [46] q
    have sb := str_app g (46 :: q)
    go_wp2_with fail
    go_at_call 86
    refine P.out.mono ?_
    rintro e w2 ⟨rfl, hB2⟩
    have hB' := below_then hB hB2
    clear P T1
    go_wp2_with fail
    go_ret
    exact ⟨by rw [K.out]; rfl, hB'⟩
  · have m0 : ¬ (0 : Int) < d := by omega
    rw [if_neg h0, List.append_nil] at K
    go_wp2_with fail
    go_ret
    exact ⟨by rw [K.out]; rfl, hB⟩
end Gt
end Go.Proofs.YtafeigpmldgifaaGreatDoor
/-
  ParseRa of the reference.
-/
namespace Go.Proofs.YtafeigpmldgifaaGreatDoor
namespace Gp
open Go.RowKit Lw

theorem drewN_below3 {w0 w : World} (h : Below w0.heap.size w0 w) (n : Nat) : Below w0.heap.size w0 (w.drewN n) := drewN_below2 h n
theorem new3 {w0 w1 : World} (hB : Below w0.heap.size w0 w1) (o : Obj) : Below w0.heap.size w0 (w1.alloc o) := hB.alloc hB.size o

theorem dec_letters {s : ByteArray} (h : validP s) : ∃ V Q T : Int,
    numV (restOf s).data.toList = V ∧ (1000000 : Int).tdiv (tenI (restOf s).size) = Q ∧ tenI (restOf s).size = T ∧ 0 ≤ V ∧ V ≤ 999999 ∧ 1 ≤ T ∧ 0 ≤ Q ∧ Q ≤ 15000000 ∧ 0 ≤ V * Q ∧ V * Q ≤ 14999985000000 ∧
    (restOf s).size ≤ 6 ∧ (0 ≤ two s 0 ∧ two s 0 ≤ 99) ∧ (0 ≤ two s 3 ∧ two s 3 ≤ 59) ∧ (0 ≤ two s 6 ∧ two s 6 ≤ 59) ∧
    Hid (angV s 1000000 = (two s 0 * 3600 + two s 3 * 60 + two s 6) * 1000000 + V * Q) := valid_letters h 1000000 (by omega) (by omega)
end Gp
end Go.Proofs.YtafeigpmldgifaaGreatDoor
/-
  What the angle of a text of degrees is.
-/
namespace Go.Proofs.YtafeigpmldgifaaGreatDoor
namespace Gp
open Go.RowKit Lw

theorem takeWhile_len (p : UInt8 → Bool) : ∀ (l : List UInt8) (k : Nat), k ≤ l.length → (∀ j (hj : j < l.length), j < k → p l[j] = true) → (∀ h : k < l.length, p l[k] = false) → (l.takeWhile p).length = k
  | [], k, hk, _, _ => by simp at hk; simp [hk]
  | a :: l, 0, _, _, h => by
    have := h (by simp)
    simp only [List.getElem_cons_zero] at this
    simp [List.takeWhile_cons, this]
  | a :: l, k + 1, hk, h, he => by
    have h0 := h 0 (by simp) (by omega)
    simp only [List.getElem_cons_zero] at h0
    rw [List.takeWhile_cons, if_pos h0, List.length_cons, takeWhile_len p l k (by simpa using hk) (fun j hj hk' => by have := h (j + 1) (by simpa using hj) (by omega); rwa [List.getElem_cons_succ] at this) (fun h' => by have := he (by simpa using h'); rwa [List.getElem_cons_succ] at this)]
/-- Where the point stands, or the end. -/
def ptOf (t : ByteArray) : Nat := (t.data.toList.takeWhile (fun c => decide (¬ ((c.toNat : Nat) : Int) = 46))).length
theorem pt_eq {t : ByteArray} {k : Nat} (hk : k ≤ t.size) (h : ∀ j (hj : j < t.size), j < k → ¬ ((t[j].toNat : Nat) : Int) = 46) (he : ∀ h : k < t.size, ((t[k].toNat : Nat) : Int) = 46) : ptOf t = k := by
  refine takeWhile_len _ _ k (by simpa using hk) (fun j hj hjk => ?_) (fun hlt => ?_)
  · have := h j (by simpa using hj) hjk
    exact decide_eq_true this
  · have := he (by simpa using hlt)
    exact decide_eq_false (not_not_intro this)
def negP (s : ByteArray) : Prop := 0 < s.size ∧ (((s.get! 0).toNat : Nat) : Int) = 45
instance (s : ByteArray) : Decidable (negP s) := by unfold negP; infer_instance
def negB (s : ByteArray) : Bool := decide (negP s)
def bodyOf (s : ByteArray) : ByteArray := if negP s then s.extract 1 s.size else s
def formP (t : ByteArray) (p : Nat) : Prop := p + 1 < t.size ∧ 1 ≤ p ∧ p ≤ 3 ∧ t.size ≤ p + 10 ∧ (p ≤ 1 ∨ ¬ (((t.get! 0).toNat : Nat) : Int) = 48)
def numP (neg : Bool) (D F : Int) : Prop := 0 ≤ D ∧ 0 ≤ F ∧ D ≤ 360 ∧ (D ≠ 360 ∨ F = 0) ∧ (neg = false ∨ D ≠ 0 ∨ F ≠ 0)
def fracI (F : Int) (n : Nat) : Int := rndI (F * (3600000000 / Nat.gcd (10 ^ n) 3600000000 : Nat)) (10 ^ n / Nat.gcd (10 ^ n) 3600000000 : Nat)
def sgnI (neg : Bool) (x : Int) : Int := if neg then -x else x
def degD (t : ByteArray) (p : Nat) : Int := numV (t.extract 0 p).data.toList
def degF (t : ByteArray) (p : Nat) : Int := numV (t.extract (p + 1) t.size).data.toList
def DegT (neg : Bool) (t : ByteArray) (p : Nat) (v e : Int) : Prop :=
  (formP t p ∧ numP neg (degD t p) (degF t p) ∧ v = sgnI neg (degD t p * 3600000000 + fracI (degF t p) (t.size - (p + 1))) ∧ e = 0) ∨ (¬ (formP t p ∧ numP neg (degD t p) (degF t p)) ∧ v = 0 ∧ e = 12)
theorem DegT.det {neg : Bool} {t : ByteArray} {p : Nat} {v e v' e' : Int} (h : DegT neg t p v e) (g : DegT neg t p v' e') : v = v' ∧ e = e' := by
  rcases h with ⟨h1, h2, h3, h4⟩ | ⟨h1, h2, h3⟩ <;> rcases g with ⟨g1, g2, g3, g4⟩ | ⟨g1, g2, g3⟩
  · exact ⟨by rw [h3, g3], by rw [h4, g4]⟩
  · exact absurd ⟨h1, h2⟩ g1
  · exact absurd ⟨g1, g2⟩ h1
  · exact ⟨by rw [h2, g2], by rw [h3, g3]⟩
theorem numV_9 {l : List UInt8} (h : l.length ≤ 9) : -1 ≤ numV l ∧ numV l ≤ 999999999 := by
  have a := numV_bd l
  have : ∀ k : Nat, k ≤ 9 → (10 : Int) ^ k ≤ 1000000000 := by decide
  have := this _ h
  omega
theorem numV_3 {l : List UInt8} (h : l.length ≤ 3) : -1 ≤ numV l ∧ numV l ≤ 999 := by
  have a := numV_bd l
  have : ∀ k : Nat, k ≤ 3 → (10 : Int) ^ k ≤ 1000 := by decide
  have := this _ h
  omega
theorem degD_bd (t : ByteArray) (p : Nat) (h : p ≤ 3) : -1 ≤ degD t p ∧ degD t p ≤ 999 := numV_3 (by simp; omega)
theorem degF_bd (t : ByteArray) (p : Nat) (h : t.size ≤ p + 10) : -1 ≤ degF t p ∧ degF t p ≤ 999999999 := numV_9 (by simp; omega)
/-- The divisor, for each number of digits. -/
theorem gcd_ten : ∀ n : Nat, n ≤ 9 → Nat.gcd (10 ^ n) 3600000000 = if n = 9 then 200000000 else 10 ^ n := by decide
theorem rndI_one (a : Int) : rndI a 1 = a := by
  unfold rndI
  rw [if_neg (by omega)]
  omega
theorem frac_8 (F : Int) (n : Nat) (h : n ≤ 8) : fracI F n = F * (3600000000 / tenI n) := by
  unfold fracI
  rw [gcd_ten n (by omega), if_neg (by omega), Nat.div_self (Nat.pow_pos (by omega))]
  exact rndI_one _
theorem frac_9 (F : Int) : fracI F 9 = rndI (F * 18) 5 := by
  unfold fracI
  rw [gcd_ten 9 (by omega)]
  rfl
theorem div_9 : ∀ n : Nat, n ≤ 9 → 1 ≤ 10 ^ n / Nat.gcd (10 ^ n) 3600000000 ∧ 10 ^ n / Nat.gcd (10 ^ n) 3600000000 ≤ 1000000000 ∧ 3600000000 / Nat.gcd (10 ^ n) 3600000000 ≤ 3600000000 ∧ 1 ≤ Nat.gcd (10 ^ n) 3600000000 ∧ Nat.gcd (10 ^ n) 3600000000 ≤ 1000000000 := by decide
theorem rndI_5 (a : Int) (h : 0 ≤ a) : 0 ≤ rndI a 5 ∧ 5 * rndI a 5 ≤ a + 5 := by
  unfold rndI
  split <;> omega
theorem frac_bd (F : Int) (n : Nat) (h0 : 0 ≤ F) (h1 : F ≤ 999999999) (h : n ≤ 9) : 0 ≤ fracI F n ∧ fracI F n ≤ 3600000000000000000 := by
  by_cases g : n = 9
  · subst g
    rw [frac_9]
    have := rndI_5 (F * 18) (by omega)
    omega
  · rw [frac_8 F n (by omega)]
    have t := (tenI_bd n (by omega)).1
    have q := div_bd (u := 3600000000) (by omega) t
    have := mul_bd h0 h1 q.1 q.2
    omega
theorem quiet_more {P : Program} {f : FuncId} {args : Array Value} {w : World} {n : Nat} {v : Value} (h : ∀ w : World, Calls P f args w fun e w' => e = .returned v ∧ ∃ m, w' = w.drewN m) :
    Calls P f args (w.drewN n) fun e w'' => e = .returned v ∧ ∃ m, w'' = w.drewN m :=
  (h (w.drewN n)).mono fun _ _ ⟨he, m, hm⟩ => ⟨he, n + m, by rw [hm]; simp only [World.drewN, Nat.add_assoc]⟩
theorem quiet_add_more {P : Program} {f : FuncId} {args : Array Value} {w : World} {a n : Nat} {v : Value} (h : ∀ w : World, Calls P f args w fun e w' => e = .returned v ∧ ∃ m, w' = w.drewN m) :
    Calls P f args (w.drewN (a + n)) fun e w'' => e = .returned v ∧ ∃ m, w'' = w.drewN (a + m) :=
  (h (w.drewN (a + n))).mono fun _ _ ⟨he, m, hm⟩ => ⟨he, n + m, by rw [hm]; simp only [World.drewN, Nat.add_assoc]⟩
theorem mul_9 : ∀ n : Nat, n ≤ 9 → 10 ^ n * (3600000000 / Nat.gcd (10 ^ n) 3600000000) ≤ 18000000000 := by decide
theorem rndI_bd {a u : Int} (ha : 0 ≤ a) (hu : 1 ≤ u) : 0 ≤ rndI a u ∧ rndI a u ≤ a + 1 := by
  have q := div_bd ha hu
  unfold rndI
  split <;> omega
end Gp
end Go.Proofs.YtafeigpmldgifaaGreatDoor
/-
  Plain facts on Go's quotient and remainder of integers, for any integers; no program in sight.
-/
namespace Go.Proofs.YtafeigpmldgifaaGreatDoor
namespace Pl
open Go.RowKit

theorem ret_int {k : IntKind} {a b : Int} (h : a = b) : Ending.returned (.int k a) = .returned (.int k b) := by rw [h]

theorem quiet_add {P : Program} {f : FuncId} {args : Array Value} {w : World} {a n : Nat} {v : Value}
    (h : Calls P f args (w.drewN (a + n)) fun e w' => e = .returned v ∧ ∃ m, w' = (w.drewN (a + n)).drewN m) :
    Calls P f args (w.drewN (a + n)) fun e w'' => e = .returned v ∧ ∃ m, w'' = w.drewN (a + m) :=
  h.mono fun _ _ ⟨he, m, hm⟩ => ⟨he, n + m, by rw [hm, World.drewN_drewN, Nat.add_assoc]⟩
theorem quiet_add_left {P : Program} {f : FuncId} {args : Array Value} {w : World} {a n : Nat} {v : Value}
    (h : Calls P f args (w.drewN (a + n)) fun e w' => e = .returned v ∧ w.drewN (a + n) = w') :
    Calls P f args (w.drewN (a + n)) fun e w'' => e = .returned v ∧ ∃ m, w'' = w.drewN (a + m) :=
  h.mono fun _ _ ⟨he, hm⟩ => ⟨he, n, hm.symm⟩
theorem quiet_left {P : Program} {f : FuncId} {args : Array Value} {w : World} {n : Nat} {v : Value}
    (h : Calls P f args (w.drewN n) fun e w' => e = .returned v ∧ w.drewN n = w') : Calls P f args (w.drewN n) fun e w'' => e = .returned v ∧ ∃ m, w'' = w.drewN m :=
  h.mono fun _ _ ⟨he, hm⟩ => ⟨he, n, hm.symm⟩

theorem tmod_fix (a n : Int) (hn : 0 < n) : (if a.tmod n < 0 then a.tmod n + n else a.tmod n) = a % n := by
  have h1 := Int.tmod_eq_emod (a := a) (b := n)
  have h2 := Int.emod_nonneg a (show n ≠ 0 by omega)
  have h3 := Int.emod_lt_of_pos a hn
  by_cases h : 0 ≤ a ∨ n ∣ a
  · rw [if_pos h] at h1
    rw [if_neg (by omega)]; omega
  · rw [if_neg h] at h1
    have : (n.natAbs : Int) = n := by omega
    rw [if_pos (by omega)]; omega

theorem tdiv_fix (a n : Int) (hn : 0 < n) : (if a.tmod n < 0 then a.tdiv n - 1 else a.tdiv n) = a / n := by
  have h1 := Int.tmod_eq_emod (a := a) (b := n)
  have h4 := Int.tdiv_eq_ediv (a := a) (b := n)
  have h2 := Int.emod_nonneg a (show n ≠ 0 by omega)
  have h3 := Int.emod_lt_of_pos a hn
  by_cases h : 0 ≤ a ∨ n ∣ a
  · rw [if_pos h] at h1 h4
    rw [if_neg (by omega)]; omega
  · rw [if_neg h] at h1 h4
    have : (n.natAbs : Int) = n := by omega
    have : n.sign = 1 := Int.sign_eq_one_of_pos hn
    rw [if_pos (by omega)]; omega

theorem tmod_bd (a n : Int) (hn : 0 < n) : -n < a.tmod n ∧ a.tmod n < n := ⟨Int.lt_tmod_of_pos a hn, Int.tmod_lt_of_pos a hn⟩

/-- A difference of two angles, at most half a turn. -/
def dif (a b : Int) : Int := if 1296000000000 < 2 * ((a - b) % 1296000000000) then (a - b) % 1296000000000 - 1296000000000 else (a - b) % 1296000000000
theorem dif_bd (a b : Int) : -648000000000 ≤ dif a b ∧ dif a b ≤ 648000000000 := by unfold dif; split <;> omega
theorem sub_nrm (a b : Int) : (a % 1296000000000 - b % 1296000000000) % 1296000000000 = (a - b) % 1296000000000 := by omega
/-- The sum of the differences of the first elements and one angle. -/
def sumF (f : Nat → Int) (x : Int) : Nat → Int
  | 0 => 0
  | k + 1 => sumF f x k + dif (f k) x
theorem sumF_bd (f : Nat → Int) (x : Int) (k : Nat) : -648000000000 * (k : Int) ≤ sumF f x k ∧ sumF f x k ≤ 648000000000 * (k : Int) := by
  induction k with
  | zero => simp [sumF]
  | succ k ih => have := dif_bd (f k) x; simp only [sumF]; omega
/-- The mean of the first elements. -/
def mean (f : Nat → Int) (n : Nat) : Int := (f 0 + sumF f (f 0) n / n) % 1296000000000
theorem mean_nrm (f : Nat → Int) (n : Nat) : (f 0 % 1296000000000 + sumF f (f 0) n / n) % 1296000000000 = mean f n := by unfold mean; omega
theorem ret2_int {k k' : IntKind} {a b c : Int} (h : a = b) : Ending.returned (.tuple #[.int k a, .int k' c]) = .returned (.tuple #[.int k b, .int k' c]) := by rw [h]
theorem quo_exact (s n : Int) (hn : 0 < n) : (s - s % n).tdiv n = s / n := by
  have h := Int.emod_add_mul_ediv s n
  have e : s - s % n = n * (s / n) := by omega
  rw [e, Int.mul_tdiv_cancel_left _ (by omega)]
theorem quo_bd (s n : Int) (B : Int) (hn : 0 < n) (h0 : -B ≤ s) (h1 : s ≤ B) (hB : 0 ≤ B) : -B ≤ s / n ∧ s / n ≤ B := by
  constructor
  · rw [Int.le_ediv_iff_mul_le hn]
    have := Int.mul_le_mul_of_nonneg_left (show (1 : Int) ≤ n by omega) hB
    have e : -B * n = -(B * n) := Int.neg_mul ..
    omega
  · refine Int.le_trans (Int.ediv_le_ediv hn h1) ?_
    exact Int.ediv_le_self _ hB
end Pl
end Go.Proofs.YtafeigpmldgifaaGreatDoor
/-
  Norm and Diff of package angle, Norm of the reference.
-/
namespace Go.Proofs.YtafeigpmldgifaaGreatDoor
namespace Turns
open Go.RowKit

open Pl
set_option maxHeartbeats 400000 in
theorem norm_any (a : Int) (w : World) (h0 : -9223372036854775808 ≤ a) (h1 : a ≤ 9223372036854775807) :
    Calls Tryz.prog 61 #[.int .i64 a] w fun e w' => e = .returned (.int .i64 (a % 1296000000000)) ∧ w = w' := by
  have hf := Pl.tmod_fix a 1296000000000 (by omega)
  obtain ⟨hb1, hb2⟩ := Pl.tmod_bd a 1296000000000 (by omega)
  by_cases hc : a.tmod 1296000000000 < 0
  · rw [if_pos hc] at hf
    have Hf := Lib.hid hf
    clear hf
    go_enter Tryz.func61, Tryz.ntmps61
    go_wp2
    go_ret
    exact ⟨ret_int Hf.out, rfl⟩
  · rw [if_neg hc] at hf
    have Hf := Lib.hid hf
    clear hf
    go_enter Tryz.func61, Tryz.ntmps61
    go_wp2
    go_ret
    exact ⟨ret_int Hf.out, rfl⟩

set_option maxHeartbeats 400000 in
theorem rnorm_any (a : Int) (w : World) (h0 : -9223372036854775808 ≤ a) (h1 : a ≤ 9223372036854775807) :
    Calls Tryz.prog 97 #[.int .i64 a] w fun e w' => e = .returned (.int .i64 (a % 1296000000000)) ∧ w = w' := by
  have hf := Pl.tmod_fix a 1296000000000 (by omega)
  obtain ⟨hb1, hb2⟩ := Pl.tmod_bd a 1296000000000 (by omega)
  by_cases hc : a.tmod 1296000000000 < 0
  · rw [if_pos hc] at hf
    have Hf := Lib.hid hf
    clear hf
    go_enter Tryz.func97, Tryz.ntmps97
    go_wp2
    go_ret
    exact ⟨ret_int Hf.out, rfl⟩
  · rw [if_neg hc] at hf
    have Hf := Lib.hid hf
    clear hf
    go_enter Tryz.func97, Tryz.ntmps97
    go_wp2
    go_ret
    exact ⟨ret_int Hf.out, rfl⟩

end Turns
end Go.Proofs.YtafeigpmldgifaaGreatDoor
/-
  Texts of angles: RaText, DecText and DegText of package angle.
-/
namespace Go.Proofs.YtafeigpmldgifaaGreatDoor
namespace Gt
open Go.RowKit Lw Gp

/-- The parts of an angle, rounded. -/
def rndN (a u : Nat) : Nat := (rndI a u).toNat
theorem rndN_eq (a u : Nat) : ((rndN a u : Nat) : Int) = rndI a u := by
  have : 0 ≤ rndI a u := by
    unfold rndI
    have : (0 : Int) ≤ (a : Int) / u := Int.ediv_nonneg (by omega) (by omega)
    split <;> omega
  unfold rndN
  omega
theorem rndN_le (a u : Nat) (hu : 1 ≤ u) : rndN a u ≤ a + 1 := by
  have h := rndN_eq a u
  have : (a : Int) / u ≤ a := Int.ediv_le_self _ (by omega)
  unfold rndI at h
  split at h <;> omega
theorem clock_len (n d : Nat) (hn : n ≤ 1000000000000) (hd : d ≤ 18) : (clockL n d).length ≤ 180 := by
  have m1 : n / 10 ^ d ≤ n := Nat.div_le_self _ _
  have m3 : n % 10 ^ d ≤ n := Nat.mod_le _ _
  unfold clockL
  generalize n / 10 ^ d = s at *
  generalize n % 10 ^ d = r at *
  have q1 : s / 3600 ≤ s := Nat.div_le_self _ _
  have g := glue_len ((s / 3600 : Nat) : Int) ((s / 60 % 60 : Nat) : Int) ((s % 60 : Nat) : Int) (by omega) (by omega) (by omega) (by omega) (by omega) (by omega)
  have p := pad_len (r : Int) d (by omega) (by omega) (by omega)
  rw [List.length_append]
  split
  · rw [List.length_cons]; omega
  · simp only [List.length_nil]; omega
/-- The text of a right ascension: so many digits. -/
def raL (a : Int) (d : Nat) : List UInt8 := clockL (rndN (a % 1296000000000).toNat (15000000 / 10 ^ d) % (86400 * 10 ^ d)) d
theorem ra_letters (a : Int) (d : Nat) (hd : d ≤ 6) : ∃ p u m r n : Nat, 10 ^ d = p ∧ 15000000 / p = u ∧ (a % 1296000000000) = (m : Int) ∧ rndN m u = r ∧ r % (86400 * p) = n ∧ 1 ≤ p ∧ p ≤ 1000000 ∧ 1 ≤ u ∧ u ≤ 15000000 ∧ m < 1296000000000 ∧ r ≤ 1296000000000 ∧ n ≤ 86400000000 ∧ raL a d = clockL n d := by
  have hm := Int.emod_nonneg a (show (1296000000000 : Int) ≠ 0 by omega)
  have hm2 := Int.emod_lt_of_pos a (show (0 : Int) < 1296000000000 by omega)
  have hp : ∀ d : Nat, d ≤ 6 → 1 ≤ 10 ^ d ∧ 10 ^ d ≤ 1000000 ∧ 1 ≤ 15000000 / 10 ^ d ∧ 15000000 / 10 ^ d ≤ 15000000 := by decide
  obtain ⟨h1, h2, h3, h4⟩ := hp d hd
  have hr := rndN_le (a % 1296000000000).toNat (15000000 / 10 ^ d) h3
  have hn : rndN (a % 1296000000000).toNat (15000000 / 10 ^ d) % (86400 * 10 ^ d) ≤ 86400000000 := by
    have := Nat.mod_lt (rndN (a % 1296000000000).toNat (15000000 / 10 ^ d)) (show 0 < 86400 * 10 ^ d by omega)
    omega
  exact ⟨_, _, (a % 1296000000000).toNat, _, _, rfl, rfl, by omega, rfl, rfl, h1, h2, h3, h4, by omega, by omega, hn, rfl⟩
set_option maxRecDepth 100000 in
set_option maxHeartbeats 4000000 in
theorem ratext_any (a : Int) (d : Nat) (w : World) (hT : Tab w) (h0 : -9223372036854775808 ≤ a) (h1 : a ≤ 9223372036854775807) (hd : d ≤ 6) :
    Calls Tryz.prog 32 #[.int .i64 a, .int .i64 d] w fun e w' => e = .returned (.tuple #[.string ⟨(raL a d).toArray⟩, .int .i64 0]) ∧ Below w.heap.size w w' := by
  obtain ⟨p, u, m, r, n, e1, e2, e3, e4, e5, p1, p2, u1, u2, m1, r1, n1, K⟩ := ra_letters a d hd
  have hT := Lib.hid hT
  have K := Lib.hid K
  have NT : ∀ w : World, Calls Tryz.prog 59 #[.int .i64 d] w fun e w' => e = .returned (.int .i64 (p : Int)) ∧ w = w' := fun w => by rw [← e1]; exact ten_any d w (by omega)
  have NN : ∀ w : World, Calls Tryz.prog 61 #[.int .i64 a] w fun e w' => e = .returned (.int .i64 (m : Int)) ∧ w = w' := fun w => by rw [← e3]; exact Turns.norm_any a w h0 h1
  have NR : ∀ w : World, Calls Tryz.prog 60 #[.int .i64 (m : Int), .int .i64 (u : Int)] w fun e w' => e = .returned (.int .i64 (r : Int)) ∧ ∃ k, w' = w.drewN k := fun w => by rw [← e4, rndN_eq]; exact round_any m u w (by omega) (by omega) (by omega)
  have t1 : (15000000 : Int).tdiv (p : Int) = (u : Int) := by rw [← e2]; rfl
  have t2 : (r : Int).tmod (86400 * (p : Int)) = (n : Int) := by rw [← e5]; rfl
  have m0 : ¬ (d : Int) < 0 := by omega
  have m6 : ¬ (6 : Int) < d := by omega
  have p0 : (p : Int) ≠ 0 := by omega
  have p8 : (86400 * (p : Int)) ≠ 0 := by omega
  have NC : ∀ k, Calls Tryz.prog 62 #[.int .i64 n, .int .i64 d] (w.drewN k) fun e w' => e = .returned (.string ⟨(clockL n d).toArray⟩) ∧ Below w.heap.size w w' := fun k =>
    (clock_any n d (w.drewN k) (hT.out.below (drewN_below2 (Below.refl _ _) k)) (by omega) (by omega)).mono fun _ _ ⟨x, y⟩ => ⟨x, (drewN_below2 (Below.refl w.heap.size w) k).trans y⟩
  clear e1 e2 e3 e4 e5
  go_enter Tryz.func32, Tryz.ntmps32
  go_wp2_with (go_at_call 59; refine (NT _).mono ?_; rintro e w' ⟨rfl, rfl⟩)
  go_quiet ((first | (go_at_call 61; first | exact quiet_left (NN _) | exact quiet_add_left (NN _)) | (go_at_call 60; first | exact quiet_more NR | exact quiet_add_more NR)))
  go_wp2_with fail
  go_at_call 62
  refine (NC _).mono ?_
  rintro e w2 ⟨rfl, hB⟩
  go_wp2_with fail
  go_ret2
  exact ⟨by rw [K.out]; rfl, hB⟩
/-- The text of a declination. -/
def decL (a : Int) (d : Nat) : List UInt8 := (if a < 0 then 45 else 43) :: clockL (rndN a.natAbs (1000000 / 10 ^ d)) d
theorem dec_lets (m d : Nat) (hm : m ≤ 324000000000) (hd : d ≤ 6) : ∃ p u r : Nat, 10 ^ d = p ∧ 1000000 / p = u ∧ rndN m u = r ∧ 1 ≤ p ∧ p ≤ 1000000 ∧ 1 ≤ u ∧ u ≤ 1000000 ∧ r ≤ 324000000001 ∧ rndN m (1000000 / 10 ^ d) = r := by
  have hp : ∀ d : Nat, d ≤ 6 → 1 ≤ 10 ^ d ∧ 10 ^ d ≤ 1000000 ∧ 1 ≤ 1000000 / 10 ^ d ∧ 1000000 / 10 ^ d ≤ 1000000 := by decide
  obtain ⟨h1, h2, h3, h4⟩ := hp d hd
  have hr := rndN_le m (1000000 / 10 ^ d) h3
  exact ⟨_, _, _, rfl, rfl, rfl, h1, h2, h3, h4, by omega, rfl⟩
set_option maxRecDepth 100000 in
set_option maxHeartbeats 4000000 in
theorem dectext_any (a : Int) (d : Nat) (w : World) (hT : Tab w) (h0 : -324000000000 ≤ a) (h1 : a ≤ 324000000000) (hd : d ≤ 6) :
    Calls Tryz.prog 33 #[.int .i64 a, .int .i64 d] w fun e w' => e = .returned (.tuple #[.string ⟨(decL a d).toArray⟩, .int .i64 0]) ∧ Below w.heap.size w w' := by
  obtain ⟨m, em⟩ : ∃ m : Nat, a.natAbs = m := ⟨_, rfl⟩
  obtain ⟨p, u, r, e1, e2, e3, p1, p2, u1, u2, r1, eK⟩ := dec_lets m d (by omega) hd
  have hT := Lib.hid hT
  have NT : ∀ w : World, Calls Tryz.prog 59 #[.int .i64 d] w fun e w' => e = .returned (.int .i64 (p : Int)) ∧ w = w' := fun w => by rw [← e1]; exact ten_any d w (by omega)
  have NR : ∀ w : World, Calls Tryz.prog 60 #[.int .i64 (m : Int), .int .i64 (u : Int)] w fun e w' => e = .returned (.int .i64 (r : Int)) ∧ ∃ k, w' = w.drewN k := fun w => by rw [← e3, rndN_eq]; exact round_any m u w (by omega) (by omega) (by omega)
  have t1 : (1000000 : Int).tdiv (p : Int) = (u : Int) := by rw [← e2]; rfl
  have m0 : ¬ (d : Int) < 0 := by omega
  have m6 : ¬ (6 : Int) < d := by omega
  have p0 : (p : Int) ≠ 0 := by omega
  have NC : ∀ k, Calls Tryz.prog 62 #[.int .i64 r, .int .i64 d] (w.drewN k) fun e w' => e = .returned (.string ⟨(clockL r d).toArray⟩) ∧ Below w.heap.size w w' := fun k =>
    (clock_any r d (w.drewN k) (hT.out.below (drewN_below2 (Below.refl _ _) k)) (by omega) (by omega)).mono fun _ _ ⟨x, y⟩ => ⟨x, (drewN_below2 (Below.refl w.heap.size w) k).trans y⟩
  have CL := clock_len r d (by omega) (by omega)
  by_cases hn : a < 0
  · have ea : a = -(m : Int) := by omega
    have K : Hid (decL a d = 45 :: clockL r d) := Lib.hid (by unfold decL; rw [if_pos hn, em, eK])
    have en : -a = (m : Int) := by omega
    have sa := str_app [45] (clockL r d)
    generalize clockL r d = g at *
    clear e1 e2 e3 ea eK em
    go_enter Tryz.func33, Tryz.ntmps33
    go_wp2_with (first | (go_at_call 59; refine (NT _).mono ?_; rintro e w' ⟨rfl, rfl⟩) | (go_at_call 60; refine (NR _).mono ?_; rintro e w' ⟨rfl, k, rfl⟩) | (go_at_call 62; refine (NC _).mono ?_; rintro e w2 ⟨rfl, hB⟩))
    go_ret2
    exact ⟨by rw [K.out]; rfl, hB⟩
  · have ea : a = (m : Int) := by omega
    have K : Hid (decL a d = 43 :: clockL r d) := Lib.hid (by unfold decL; rw [if_neg hn, em, eK])
    have sa := str_app [43] (clockL r d)
    generalize clockL r d = g at *
    clear e1 e2 e3 eK em
    go_enter Tryz.func33, Tryz.ntmps33
    go_wp2_with (first | (go_at_call 59; refine (NT _).mono ?_; rintro e w' ⟨rfl, rfl⟩) | (go_at_call 60; refine (NR _).mono ?_; rintro e w' ⟨rfl, k, rfl⟩) | (go_at_call 62; refine (NC _).mono ?_; rintro e w2 ⟨rfl, hB⟩))
    go_ret2
    exact ⟨by rw [K.out]; rfl, hB⟩
end Gt
end Go.Proofs.YtafeigpmldgifaaGreatDoor
/-
  The walk of magText of package obs.
-/
namespace Go.Proofs.YtafeigpmldgifaaGreatDoor
namespace Ow
open Go.RowKit Lw Go.Proofs.YtafeigpmldgifaaGreatDoor.Ap Go.Proofs.YtafeigpmldgifaaGreatDoor.Op Go.Proofs.YtafeigpmldgifaaGreatDoor.Mp Go.Proofs.YtafeigpmldgifaaGreatDoor.Mw Go.Proofs.YtafeigpmldgifaaGreatDoor.At

theorem itoa_dg (n : Nat) (h : n < 10) : Lib.itoa (n : Int) = [dg n] := by
  unfold Lib.itoa
  rw [if_neg (by omega), Int.toNat_natCast, Lib.decDigits_one h]
  rfl
theorem sp_rep (k : Nat) : Lib.repeatL [32] k = spL k := by
  induction k with
  | zero => rfl
  | succ k ih => simp_all [Lib.repeatL, spL, List.replicate_succ]
theorem decL_two (n : Nat) : decL n 2 = [dg (n / 10 % 10), dg (n % 10)] := rfl
theorem itoa_any (n : Int) (w : World) (hT : Gt.Tab w) (h0 : 0 ≤ n) (h1 : n ≤ 1000000000000000000) :
    Calls Tryz.prog 16 #[.int .i64 n] w fun e w' => e = .returned (.string ⟨(Lib.itoa n).toArray⟩) ∧ Below w.heap.size w w' :=
  (Tryz.strconv_Itoa n (by omega) (by omega) w hT).mono fun _ _ ⟨x, k, os, y⟩ => ⟨x, by rw [y]; exact Gt.below_grow w k os⟩
theorem size_mk (l : List UInt8) : (⟨l.toArray⟩ : ByteArray).size = l.length := by simp [ByteArray.size]
theorem str_app (a b : List UInt8) : ((⟨a.toArray⟩ : ByteArray) ++ ⟨b.toArray⟩) = ⟨(a ++ b).toArray⟩ := by
  apply ByteArray.ext
  simp [ByteArray.data_append]
theorem add_L (a b : List UInt8) (h : a.length + b.length ≤ 9223372036854775807) : ∀ w' : World, (Op.stringOp .add (⟨a.toArray⟩ : ByteArray) ⟨b.toArray⟩).run Tryz.prog w' = .ok (.string ⟨(a ++ b).toArray⟩) w' := fun w' => by
  rw [run_string_add_sum (P := Tryz.prog) (w := w') _ _ (by rw [size_mk, size_mk]; exact h), str_app]

set_option maxRecDepth 100000 in
set_option maxHeartbeats 8000000 in
theorem magtext_any (m : Int) (w : World) (hT : Gt.Tab w) (h0 : -999 ≤ m) (h1 : m ≤ 9999) :
    Calls Tryz.prog 35 #[.int .i64 m] w fun e w' => e = .returned (.string ⟨(magL m).toArray⟩) ∧ Below w.heap.size w w' := by
  have HB := Lib.hid (show magB m = (if m < 0 then [45] else []) ++ Lib.itoa ((m.natAbs / 100 : Nat) : Int) ++ [46] ++ decL m.natAbs 2 from rfl)
  have HL := Lib.hid (show magL m = spL (5 - (magB m).length) ++ magB m from rfl)
  have em : max m (-m) = (m.natAbs : Int) := by omega
  have nb : m.natAbs ≤ 9999 := by omega
  generalize m.natAbs = n at *
  have i2 : ((n / 10 % 10 : Nat) : Int) = (n : Int) / 10 % 10 := by omega
  have i3 : ((n % 10 : Nat) : Int) = (n : Int) % 10 := by omega
  have i1 : ((n / 100 : Nat) : Int) = (n : Int) / 100 := by omega
  have I1 := Lib.hid (fun w' (h : Gt.Tab w') => itoa_any ((n / 100 : Nat) : Int) w' h (by omega) (by omega))
  have I2 := Lib.hid (fun w' (h : Gt.Tab w') => itoa_any ((n / 10 % 10 : Nat) : Int) w' h (by omega) (by omega))
  have I3 := Lib.hid (fun w' (h : Gt.Tab w') => itoa_any ((n % 10 : Nat) : Int) w' h (by omega) (by omega))
  rw [itoa_dg _ (Nat.mod_lt _ (by omega))] at I2 I3
  have l1 := Lib.itoa_length_le ((n / 100 : Nat) : Int) (by omega) (by omega)
  rw [i1] at I1 l1 HB
  rw [i2] at I2
  rw [i3] at I3
  clear i1 i2 i3
  have eB : (if m < 0 then [45] else []) ++ Lib.itoa ((n : Int) / 100) ++ [46] ++ [dg (n / 10 % 10), dg (n % 10)] = (if m < 0 then [45] else []) ++ (Lib.itoa ((n : Int) / 100) ++ [46] ++ [dg (n / 10 % 10)] ++ [dg (n % 10)]) := by simp
  rw [decL_two, eB] at HB
  clear eB
  have l2 : (Lib.itoa ((n : Int) / 100)).length ≤ 2 ∧ (m < 0 → (Lib.itoa ((n : Int) / 100)).length ≤ 1) := by
    rw [show (n : Int) / 100 = ((n / 100 : Nat) : Int) by omega]
    by_cases c : n / 100 < 10
    · rw [itoa_dg _ c]; simp
    · refine ⟨?_, fun h => by omega⟩
      unfold Lib.itoa
      rw [if_neg (by omega), Int.toNat_natCast, Lib.decDigits_two c (by omega)]; simp
  generalize Lib.itoa ((n : Int) / 100) = L at *
  generalize dg (n / 10 % 10) = x at *
  generalize dg (n % 10) = y at *
  have HT := Lib.hid hT
  clear hT
  go_enter Tryz.func35, Tryz.ntmps35
  go_wp2_with fail
  refine (I1.out _ HT.out).mono ?_
  rintro e w1 ⟨rfl, hb1⟩
  have HT1 := Lib.hid (HT.out.below hb1)
  clear I1
  go_wp2_with fail
  refine (I2.out _ HT1.out).mono ?_
  rintro e w2 ⟨rfl, hb2⟩
  have HT2 := Lib.hid (HT1.out.below hb2)
  have hb2 := below_then hb1 hb2
  clear I2 hb1 HT1
  go_wp2_with fail
  refine (I3.out _ HT2.out).mono ?_
  rintro e w3 ⟨rfl, hb3⟩
  have HT3 := Lib.hid (HT2.out.below hb3)
  have hb3 := below_then hb2 hb3
  clear I3 hb2 HT2
  by_cases hm : m < 0
  · rw [if_pos hm] at HB
    have l3 := l2.2 hm
    have eL : (magB m).length = (1 + (L.length + 2 + 1)) := by rw [HB.out]; simp <;> omega
    have R := Lib.hid (Tryz.strings_Repeat ⟨#[32]⟩ (5 - (1 + (L.length + 2 + 1))) w3 (by omega) (by show 1 * _ ≤ _; omega))
    have rl := Gt.rep_len (5 - (1 + (L.length + 2 + 1)))
    rw [show ((5 - (1 + (L.length + 2 + 1)) : Nat) : Int) = 5 - (1 + ((L.length : Int) + 2 + 1)) by omega, show (⟨#[32]⟩ : ByteArray).data.toList = [32] from rfl] at R
    go_wp2_with fail
    refine R.out.mono ?_
    rintro e w4 ⟨rfl, hb4⟩
    have hb := below_then hb3 hb4
    have rl2 : (Lib.repeatL [32] (5 - (1 + (L.length + 2 + 1)))).length = 5 - (1 + (L.length + 2 + 1)) := by rw [sp_rep]; simp [spL]
    have es := sp_rep (5 - (1 + (L.length + 2 + 1)))
    rw [← eL] at es
    have E := Lib.hid (show magL m = Lib.repeatL [32] (5 - (1 + (L.length + 2 + 1))) ++ ([45] ++ (L ++ [46] ++ [x] ++ [y])) by rw [HL.out, ← es, eL, HB.out])
    clear HL HB es rl R eL
    generalize Lib.repeatL [32] (5 - (1 + (L.length + 2 + 1))) = Q at *
    go_wp2_with fail
    go_ret
    have S1 : ((⟨Q.toArray⟩ : ByteArray) ++ (⟨#[45]⟩ ++ (⟨L.toArray⟩ ++ ⟨#[46]⟩ ++ ⟨#[x]⟩ ++ ⟨#[y]⟩))) = ⟨(Q ++ ([45] ++ (L ++ [46] ++ [x] ++ [y]))).toArray⟩ := by
      apply ByteArray.ext
      simp [ByteArray.data_append]
    exact ⟨by rw [E.out, ← S1]; rfl, hb⟩
  · rw [if_neg hm, List.nil_append] at HB
    have eL : (magB m).length = (L.length + 2 + 1) := by rw [HB.out]; simp <;> omega
    have R := Lib.hid (Tryz.strings_Repeat ⟨#[32]⟩ (5 - (L.length + 2 + 1)) w3 (by omega) (by show 1 * _ ≤ _; omega))
    have rl := Gt.rep_len (5 - (L.length + 2 + 1))
    rw [show ((5 - (L.length + 2 + 1) : Nat) : Int) = 5 - ((L.length : Int) + 2 + 1) by omega, show (⟨#[32]⟩ : ByteArray).data.toList = [32] from rfl] at R
    go_wp2_with fail
    refine R.out.mono ?_
    rintro e w4 ⟨rfl, hb4⟩
    have hb := below_then hb3 hb4
    have rl2 : (Lib.repeatL [32] (5 - (L.length + 2 + 1))).length = 5 - (L.length + 2 + 1) := by rw [sp_rep]; simp [spL]
    have es := sp_rep (5 - (L.length + 2 + 1))
    rw [← eL] at es
    have E := Lib.hid (show magL m = Lib.repeatL [32] (5 - (L.length + 2 + 1)) ++ (L ++ [46] ++ [x] ++ [y]) by rw [HL.out, ← es, eL, HB.out])
    clear HL HB es rl R eL
    generalize Lib.repeatL [32] (5 - (L.length + 2 + 1)) = Q at *
    go_wp2_with fail
    go_ret
    have S1 : ((⟨Q.toArray⟩ : ByteArray) ++ (⟨L.toArray⟩ ++ ⟨#[46]⟩ ++ ⟨#[x]⟩ ++ ⟨#[y]⟩)) = ⟨(Q ++ (L ++ [46] ++ [x] ++ [y])).toArray⟩ := by
      apply ByteArray.ext
      simp [ByteArray.data_append]
    exact ⟨by rw [E.out, ← S1]; rfl, hb⟩
end Ow
end Go.Proofs.YtafeigpmldgifaaGreatDoor
/-
  The walk of blank of package obs.
-/
namespace Go.Proofs.YtafeigpmldgifaaGreatDoor
namespace Ow
open Go.RowKit Lw Go.Proofs.YtafeigpmldgifaaGreatDoor.Ap Go.Proofs.YtafeigpmldgifaaGreatDoor.Op Go.Proofs.YtafeigpmldgifaaGreatDoor.Mp Go.Proofs.YtafeigpmldgifaaGreatDoor.Mw Go.Proofs.YtafeigpmldgifaaGreatDoor.At

theorem dropWhile_nil {p : UInt8 → Bool} : ∀ l : List UInt8, l.dropWhile p = [] ↔ ∀ c ∈ l, p c = true
  | [] => by simp
  | x :: l => by
    by_cases h : p x = true
    · rw [List.dropWhile_cons_of_pos h, dropWhile_nil l]; simp [h]
    · rw [List.dropWhile_cons_of_neg h]
      exact ⟨fun g => (by cases g), fun g => absurd (g x (by simp)) h⟩
theorem trim_blank (s : ByteArray) : Lib.trimB s.data.toList 32 = [] ↔ blankP s := by
  unfold Lib.trimB Lib.trimLeftB Lib.trimRightB blankP
  rw [dropWhile_nil]
  constructor
  · intro h
    by_cases e : s.data.toList.reverse.dropWhile (· == 32) = []
    · intro c hc
      have := (dropWhile_nil _).1 e c (by simpa using hc)
      simpa using this
    · exfalso
      have hh := List.head_dropWhile_not (fun c : UInt8 => c == 32) e
      have := h _ (List.mem_reverse.2 (List.head_mem e))
      simp_all
  · intro h c hc
    have := h c (by
      have := List.mem_reverse.1 hc
      exact List.mem_reverse.1 ((List.dropWhile_sublist _).subset this))
    simp [this]
end Ow
end Go.Proofs.YtafeigpmldgifaaGreatDoor
/-
  The walk of trim of package obs.
-/
namespace Go.Proofs.YtafeigpmldgifaaGreatDoor
namespace Ow
open Go.RowKit Lw Go.Proofs.YtafeigpmldgifaaGreatDoor.Ap Go.Proofs.YtafeigpmldgifaaGreatDoor.Op Go.Proofs.YtafeigpmldgifaaGreatDoor.Mp Go.Proofs.YtafeigpmldgifaaGreatDoor.Mw Go.Proofs.YtafeigpmldgifaaGreatDoor.At

theorem cutS_trim (s : ByteArray) : (⟨(Lib.trimRightB s.data.toList 32).toArray⟩ : ByteArray) = cutS s := rfl
theorem cutS_le (s : ByteArray) : (cutS s).size ≤ s.size := by
  rw [← cutS_trim, size_mk]
  unfold Lib.trimRightB
  have := (List.dropWhile_sublist (· == 32) (l := s.data.toList.reverse)).length_le
  simp only [List.length_reverse] at this ⊢
  have e : s.data.toList.length = s.size := Array.length_toList (xs := s.data)
  omega
theorem tlP_decs (s : ByteArray) : ((tlP s).size : Int) = (decs s : Nat) := by
  have h := ptS_le s
  unfold tlP decs
  split
  · rw [ByteArray.size_extract]; omega
  · rw [show (⟨#[]⟩ : ByteArray).size = 0 from rfl]; omega
end Ow
end Go.Proofs.YtafeigpmldgifaaGreatDoor
/-
  Signs and points of a text: strings.TrimLeft, CutPrefix and Cut at this program.
-/
namespace Go.Proofs.YtafeigpmldgifaaGreatDoor
namespace Gp
open Go.RowKit Lw

theorem arr_str (s : ByteArray) : (⟨s.data.toList.toArray⟩ : ByteArray) = s := by cases s; simp
theorem sign_iff (c : UInt8) : List.contains [43, 45] c = true ↔ (((c.toNat : Nat) : Int) = 43 ∨ ((c.toNat : Nat) : Int) = 45) := by
  have e : ∀ d : UInt8, c = d ↔ c.toNat = d.toNat := fun d => UInt8.toNat_inj.symm
  have h43 : (43 : UInt8).toNat = 43 := rfl
  have h45 : (45 : UInt8).toNat = 45 := rfl
  simp only [List.contains_cons, List.contains_nil, Bool.or_false, Bool.or_eq_true, beq_iff_eq, e, h43, h45]
  omega
theorem len_dw (p : UInt8 → Bool) : ∀ l : List UInt8, (l.dropWhile p).length ≤ l.length
  | [] => Nat.le_refl _
  | a :: l => by
    rw [List.dropWhile_cons]
    split
    · have := len_dw p l
      simp; omega
    · exact Nat.le_refl _
theorem mk_list (l : List UInt8) : (⟨l.toArray⟩ : ByteArray).data.toList = l := by simp
theorem get0 (c : UInt8) (r : List UInt8) : (⟨(c :: r).toArray⟩ : ByteArray).get! 0 = c := by simp [ByteArray.get!]
theorem tail_mk (c : UInt8) (r : List UInt8) : tailOf ⟨(c :: r).toArray⟩ = ⟨r.toArray⟩ := by
  unfold tailOf
  apply ByteArray.ext
  apply Array.toList_inj.1
  rw [Lib.extract_to_end, mk_list]
  simp
theorem size_mk (l : List UInt8) : (⟨l.toArray⟩ : ByteArray).size = l.length := by simp [ByteArray.size]
theorem numV_sign (c : UInt8) (r : List UInt8) (h : List.contains [43, 45] c = true) : numV (c :: r) = -1 := by
  unfold numV
  rw [if_neg]
  intro g
  have := g c (by simp)
  have := (sign_iff c).1 h
  omega
theorem two_mk (c : UInt8) (r : List UInt8) : two ⟨(c :: r).toArray⟩ 0 = numV (c :: r.take 1) := by
  rw [two_eq, mk_list]; rfl
/-- What is left where the leading signs are cut off, and it is shorter by one. -/
theorem trim_l (l : List UInt8) : ((((l.dropWhile (List.contains [43, 45])).length : Nat) : Int) = l.length - 1 → signP ⟨l.toArray⟩ ∧ l.dropWhile (List.contains [43, 45]) = l.drop 1) ∧
    (¬ (((l.dropWhile (List.contains [43, 45])).length : Nat) : Int) = l.length - 1 → ¬ (signP ⟨l.toArray⟩ ∧ validP (tailOf ⟨l.toArray⟩))) := by
  cases l with
  | nil => exact ⟨fun h => by simp at h, fun _ g => by have := g.1.1; simp [ByteArray.size] at this⟩
  | cons c r =>
    by_cases hc : List.contains [43, 45] c = true
    · rw [List.dropWhile_cons, if_pos hc]
      have sg : signP ⟨(c :: r).toArray⟩ := ⟨by rw [size_mk]; simp, by rw [get0]; exact (sign_iff c).1 hc⟩
      cases r with
      | nil => exact ⟨fun _ => ⟨sg, rfl⟩, fun h => absurd rfl h⟩
      | cons d q =>
        by_cases hd : List.contains [43, 45] d = true
        · rw [List.dropWhile_cons, if_pos hd]
          have := len_dw (List.contains [43, 45]) q
          refine ⟨fun h => ?_, fun _ g => ?_⟩
          · simp only [List.length_cons] at h; omega
          · have := g.2.2.1
            rw [tail_mk, two_mk, numV_sign d _ hd] at this
            omega
        · rw [List.dropWhile_cons, if_neg hd]
          exact ⟨fun _ => ⟨sg, rfl⟩, fun h => absurd (by simp) h⟩
    · rw [List.dropWhile_cons, if_neg hc]
      refine ⟨fun h => by omega, fun _ g => ?_⟩
      have := g.1.2
      rw [get0] at this
      exact hc ((sign_iff c).2 this)
theorem trim_one (s t : ByteArray) (h : t = ⟨(Lib.trimLeftS s.data.toList [43, 45]).toArray⟩) (hs : (t.size : Int) = s.size - 1) : signP s ∧ t = tailOf s := by
  obtain ⟨l, rfl⟩ : ∃ l : List UInt8, s = ⟨l.toArray⟩ := ⟨s.data.toList, (arr_str s).symm⟩
  rw [mk_list] at h
  rw [h, size_mk, size_mk] at hs
  have := (trim_l l).1 hs
  refine ⟨this.1, ?_⟩
  rw [h]
  show (⟨(l.dropWhile (List.contains [43, 45])).toArray⟩ : ByteArray) = _
  rw [this.2]
  cases l with
  | nil => simp [signP, ByteArray.size] at this
  | cons c r => rw [tail_mk]; rfl
theorem trim_not (s t : ByteArray) (h : t = ⟨(Lib.trimLeftS s.data.toList [43, 45]).toArray⟩) (hs : ¬ (t.size : Int) = s.size - 1) : ¬ (signP s ∧ validP (tailOf s)) := by
  obtain ⟨l, rfl⟩ : ∃ l : List UInt8, s = ⟨l.toArray⟩ := ⟨s.data.toList, (arr_str s).symm⟩
  rw [mk_list] at h
  rw [h, size_mk, size_mk] at hs
  exact (trim_l l).2 hs
end Gp
end Go.Proofs.YtafeigpmldgifaaGreatDoor
/-
  A text of digits is read as its number.
-/
namespace Go.Proofs.YtafeigpmldgifaaGreatDoor
namespace Gt
open Go.RowKit Lw Gp

theorem u8_of (n : Nat) (h : n < 10) : (((UInt8.ofNat (48 + n)).toNat : Nat) : Int) = 48 + n := by
  rw [UInt8.toNat_ofNat']
  omega
theorem dd_num (u : Nat) : numL (Lib.decDigits u) = u ∧ allD (Lib.decDigits u) := by
  induction u using Nat.strongRecOn with
  | _ u ih =>
    by_cases h : u < 10
    · rw [Lib.decDigits_one h]
      have e := u8_of u h
      refine ⟨by unfold numL; simp only [List.foldl_cons, List.foldl_nil]; omega, fun c hc => ?_⟩
      rw [List.mem_singleton.1 hc]
      omega
    · rw [Lib.decDigits, dif_neg h]
      obtain ⟨h1, h2⟩ := ih (u / 10) (by omega)
      have e := u8_of (u % 10) (Nat.mod_lt _ (by omega))
      exact ⟨by rw [numL_snoc, h1]; omega, allD_snoc h2 (by omega) (by omega)⟩
theorem itoa_num (r : Nat) : numL (Lib.itoa (r : Int)) = r ∧ allD (Lib.itoa (r : Int)) := by
  unfold Lib.itoa
  rw [if_neg (by omega), Int.toNat_natCast]
  exact dd_num r
theorem rep_num (k : Nat) : numL (Lib.repeatL [48] k) = 0 ∧ allD (Lib.repeatL [48] k) := by
  induction k with
  | zero => exact ⟨rfl, fun c hc => by simp [Lib.repeatL] at hc⟩
  | succ k ih =>
    have e : Lib.repeatL [48] (k + 1) = 48 :: Lib.repeatL [48] k := rfl
    rw [e]
    refine ⟨?_, fun c hc => ?_⟩
    · have := ih.1
      unfold numL at this ⊢
      rw [List.foldl_cons]
      exact this
    · rcases List.mem_cons.1 hc with rfl | g
      · decide
      · exact ih.2 c g
theorem pad_num (r d : Nat) : numV (padL (r : Int) d) = r := by
  have h1 := itoa_num r
  have h2 := rep_num (d - (Lib.itoa (r : Int)).length)
  have hA : allD (padL (r : Int) d) := fun c hc => by
    rcases List.mem_append.1 hc with g | g
    · exact h2.2 c g
    · exact h1.2 c g
  unfold numV
  rw [if_pos hA]
  unfold padL numL
  rw [List.foldl_append]
  have e2 := h2.1
  have e1 := h1.1
  unfold numL at e1 e2
  rw [e2, e1]
theorem nd_le : ∀ (d r : Nat), r < 10 ^ (d + 1) → Lib.nDigits r ≤ d + 1
  | 0, r, h => by rw [Lib.nDigits_small (by simpa using h)]; exact Nat.le_refl _
  | d + 1, r, h => by
    by_cases g : r < 10
    · rw [Lib.nDigits_small g]; omega
    · rw [Lib.nDigits_big g]
      have := nd_le d (r / 10) (by rw [Nat.pow_succ] at h; omega)
      omega
theorem pad_size (r d : Nat) (hd : 1 ≤ d) (h : r < 10 ^ d) : (padL (r : Int) d).length = d := by
  obtain ⟨k, rfl⟩ : ∃ k, d = k + 1 := ⟨d - 1, by omega⟩
  have h1 := nd_le k r h
  have hl : (Lib.itoa (r : Int)).length = Lib.nDigits r := by
    unfold Lib.itoa
    rw [if_neg (by omega), Int.toNat_natCast, Lib.decDigits_length]
  unfold padL
  rw [List.length_append, rep_len, hl]
  omega
theorem len2 {l : List UInt8} (h : l.length = 2) : ∃ a b, l = [a, b] := by
  match l, h with
  | [a, b], _ => exact ⟨a, b, rfl⟩
theorem clock_reads (n d : Nat) (hd : d ≤ 6) (hn : n / 10 ^ d < 360000) :
    validP ⟨(clockL n d).toArray⟩ ∧ two ⟨(clockL n d).toArray⟩ 0 = ((n / 10 ^ d / 3600 : Nat) : Int) ∧
    ∀ u : Nat, angV ⟨(clockL n d).toArray⟩ ((u * 10 ^ d : Nat) : Int) = ((n * u : Nat) : Int) := by
  have hp : 1 ≤ 10 ^ d := Nat.pow_pos (by omega)
  have hr := Nat.mod_lt n hp
  have hdm := Nat.div_add_mod n (10 ^ d)
  have hs : ∃ s, n / 10 ^ d = s := ⟨_, rfl⟩
  obtain ⟨s, es⟩ := hs
  obtain ⟨r, er⟩ : ∃ r, n % 10 ^ d = r := ⟨_, rfl⟩
  rw [es] at hn hdm
  rw [er] at hr hdm
  have lx := pad_size (s / 3600) 2 (by omega) (by omega)
  have ly := pad_size (s / 60 % 60) 2 (by omega) (by omega)
  have lz := pad_size (s % 60) 2 (by omega) (by omega)
  have nx := pad_num (s / 3600) 2
  have ny := pad_num (s / 60 % 60) 2
  have nz := pad_num (s % 60) 2
  have nr := pad_num r d
  have K : clockL n d = glueL ((s / 3600 : Nat) : Int) ((s / 60 % 60 : Nat) : Int) ((s % 60 : Nat) : Int) ++ (if 0 < d then 46 :: padL (r : Int) d else []) := by
    unfold clockL; rw [es, er]
  obtain ⟨x0, x1, ex⟩ := len2 lx
  obtain ⟨y0, y1, ey⟩ := len2 ly
  obtain ⟨z0, z1, ez⟩ := len2 lz
  unfold glueL at K
  rw [ex] at nx K
  rw [ey] at ny K
  rw [ez] at nz K
  have lr : 1 ≤ d → (padL (r : Int) d).length = d := fun h => pad_size r d h hr
  obtain ⟨q, eq⟩ : ∃ q, padL (r : Int) d = q := ⟨_, rfl⟩
  rw [eq] at nr K lr
  generalize hl : clockL n d = l at *
  have hx : 0 ≤ ((s / 3600 : Nat) : Int) := by omega
  by_cases h0 : 0 < d
  · have lq := lr h0
    rw [if_pos h0] at K
    have K' : l = x0 :: x1 :: 32 :: y0 :: y1 :: 32 :: z0 :: z1 :: 46 :: q := by rw [K]; rfl
    have sz : (⟨l.toArray⟩ : ByteArray).size = 9 + d := by rw [size_mk, K']; simp only [List.length_cons, lq]; omega
    have t0 : two ⟨l.toArray⟩ 0 = ((s / 3600 : Nat) : Int) := by rw [two_eq, mk_list, K', ← nx]; rfl
    have t3 : two ⟨l.toArray⟩ 3 = ((s / 60 % 60 : Nat) : Int) := by rw [two_eq, mk_list, K', ← ny]; rfl
    have t6 : two ⟨l.toArray⟩ 6 = ((s % 60 : Nat) : Int) := by rw [two_eq, mk_list, K', ← nz]; rfl
    have er9 : restOf ⟨l.toArray⟩ = ⟨q.toArray⟩ := by
      rw [restOf_9 (by omega)]
      apply ByteArray.ext
      apply Array.toList_inj.1
      rw [Lib.extract_to_end, mk_list, K']
      simp
    have nq : numV (restOf ⟨l.toArray⟩).data.toList = r := by rw [er9, mk_list, nr]
    have sr : (restOf ⟨l.toArray⟩).size = d := by rw [er9, size_mk, lq]
    have sp : shapeP ⟨l.toArray⟩ := by
      refine ⟨by omega, ?_, ?_, by omega, by omega, fun _ => ?_⟩ <;> (rw [K']; simp [ByteArray.get!])
    refine ⟨⟨sp, by rw [t0]; omega, by rw [t3]; omega, by rw [t6]; omega, by rw [nq]; omega⟩, by rw [es]; exact t0, fun u => ?_⟩
    have pd : ((u * 10 ^ d : Nat) : Int) / tenI d = (u : Int) := by
      unfold tenI
      rw [← Int.natCast_ediv, Nat.mul_div_cancel _ hp]
    unfold angV secs
    rw [t0, t3, t6, nq, sr, pd]
    have e1 : ((s / 3600 : Nat) : Int) * 3600 + ((s / 60 % 60 : Nat) : Int) * 60 + ((s % 60 : Nat) : Int) = (s : Int) := by omega
    rw [e1, ← hdm]
    simp only [Int.natCast_mul, Int.natCast_add]
    rw [Int.add_mul, Int.mul_comm (u : Int), ← Int.mul_assoc, Int.mul_comm (s : Int)]
  · have d0 : d = 0 := by omega
    subst d0
    rw [if_neg h0, List.append_nil] at K
    have K' : l = [x0, x1, 32, y0, y1, 32, z0, z1] := by rw [K]; rfl
    have sz : (⟨l.toArray⟩ : ByteArray).size = 8 := by rw [size_mk, K']; rfl
    have t0 : two ⟨l.toArray⟩ 0 = ((s / 3600 : Nat) : Int) := by rw [two_eq, mk_list, K', ← nx]; rfl
    have t3 : two ⟨l.toArray⟩ 3 = ((s / 60 % 60 : Nat) : Int) := by rw [two_eq, mk_list, K', ← ny]; rfl
    have t6 : two ⟨l.toArray⟩ 6 = ((s % 60 : Nat) : Int) := by rw [two_eq, mk_list, K', ← nz]; rfl
    have er9 : restOf ⟨l.toArray⟩ = ByteArray.empty := restOf_8 sz
    have sp : shapeP ⟨l.toArray⟩ := by
      refine ⟨by omega, ?_, ?_, by omega, by omega, fun h => by omega⟩ <;> (rw [K']; simp [ByteArray.get!])
    refine ⟨⟨sp, by rw [t0]; omega, by rw [t3]; omega, by rw [t6]; omega, by rw [er9]; decide⟩, by rw [es]; exact t0, fun u => ?_⟩
    have r0 : r = 0 := by simp at hr; exact hr
    unfold angV secs
    rw [t0, t3, t6, er9, numV_empty]
    have e1 : ((s / 3600 : Nat) : Int) * 3600 + ((s / 60 % 60 : Nat) : Int) * 60 + ((s % 60 : Nat) : Int) = (s : Int) := by omega
    rw [e1, ← hdm, r0]
    simp
end Gt
end Go.Proofs.YtafeigpmldgifaaGreatDoor
/-
  The angle of a text differs from the angle by at most half a unit of the last digit.
-/
namespace Go.Proofs.YtafeigpmldgifaaGreatDoor
namespace Gt
open Go.RowKit Lw Gp

theorem rnd_half (m u : Nat) (hu : 1 ≤ u) : 2 * (((rndN m u : Nat) : Int) * u - m) ≤ u ∧ -(u : Int) ≤ 2 * (((rndN m u : Nat) : Int) * u - m) := by
  have h := rndN_eq m u
  have hd := Int.emod_add_mul_ediv (m : Int) (u : Int)
  have r0 := Int.emod_nonneg (m : Int) (show (u : Int) ≠ 0 by omega)
  have r1 := Int.emod_lt_of_pos (m : Int) (show (0 : Int) < u by omega)
  rw [h]
  unfold rndI
  generalize (m : Int) % (u : Int) = r at *
  generalize (m : Int) / (u : Int) = q at *
  split
  · rename_i g
    have e : (q + 1) * (u : Int) = (u : Int) * q + u := by rw [Int.add_mul, Int.one_mul, Int.mul_comm]
    rw [e]
    rcases g with g | ⟨g, _⟩ <;> omega
  · rename_i g
    have e : (q + 0) * (u : Int) = (u : Int) * q := by rw [Int.add_zero, Int.mul_comm]
    rw [e]
    have : ¬ ((u : Int) < 2 * r) := fun x => g (Or.inl x)
    omega
theorem units : ∀ d : Nat, d ≤ 6 → 15000000 / 10 ^ d * 10 ^ d = 15000000 ∧ 1000000 / 10 ^ d * 10 ^ d = 1000000 ∧ 1 ≤ 15000000 / 10 ^ d ∧ 1 ≤ 1000000 / 10 ^ d ∧ 15000000 / 10 ^ d = 15 * (1000000 / 10 ^ d) ∧ 1000000 / 10 ^ d ≤ 1000000 := by decide
/-- The text of a right ascension is read. -/
theorem ra_back (a : Int) (d : Nat) (hd : d ≤ 6) : ∃ v : Int, RaIs ⟨(raL a d).toArray⟩ v 0 ∧ -9223372036854775808 ≤ v ∧ v ≤ 9223372036854775807 ∧
    2 * Pl.dif v a ≤ 15 * ((1000000 / 10 ^ d : Nat) : Int) ∧ -(15 * ((1000000 / 10 ^ d : Nat) : Int)) ≤ 2 * Pl.dif v a := by
  obtain ⟨hu, _, u1, _, u15, uM⟩ := units d hd
  have hm := Int.emod_nonneg a (show (1296000000000 : Int) ≠ 0 by omega)
  have hm2 := Int.emod_lt_of_pos a (show (0 : Int) < 1296000000000 by omega)
  obtain ⟨m, em⟩ : ∃ m : Nat, (a % 1296000000000).toNat = m := ⟨_, rfl⟩
  have em' : a % 1296000000000 = (m : Int) := by omega
  have hp : 1 ≤ 10 ^ d := Nat.pow_pos (by omega)
  unfold raL
  rw [em]
  rw [u15] at u1 hu
  have hh := rnd_half m (15 * (1000000 / 10 ^ d)) u1
  rw [u15]
  generalize 1000000 / 10 ^ d = e at *
  generalize rndN m (15 * e) = R at *
  generalize hp10 : 10 ^ d = p at *
  have hN := Nat.mod_lt R (show 0 < 86400 * p by omega)
  have hR := Nat.div_add_mod R (86400 * p)
  obtain ⟨k, ek⟩ : ∃ k, R / (86400 * p) = k := ⟨_, rfl⟩
  obtain ⟨N, eN⟩ : ∃ N, R % (86400 * p) = N := ⟨_, rfl⟩
  rw [ek, eN] at hR
  rw [eN] at hN ⊢
  have hNp : N / p < 86400 := Nat.div_lt_of_lt_mul (by rw [Nat.mul_comm]; exact hN)
  have C := clock_reads N d hd (by rw [hp10]; omega)
  rw [hp10] at C
  obtain ⟨c1, c2, c3⟩ := C
  have c4 := c3 (15 * e)
  rw [hu] at c4
  have hT : 86400 * p * (15 * e) = 1296000000000 := by
    have : 86400 * p * (15 * e) = 86400 * (15 * e * p) := by rw [Nat.mul_assoc, Nat.mul_comm p]
    rw [this, hu]
  have eR : R * (15 * e) = 1296000000000 * k + N * (15 * e) := by
    rw [← hR, Nat.add_mul, ← hT]
    rw [Nat.mul_assoc (86400 * p) k, Nat.mul_comm k, ← Nat.mul_assoc]
  have bN : N * (15 * e) ≤ 1296000000000 := by
    rw [← hT]; exact Nat.mul_le_mul_right _ (Nat.le_of_lt hN)
  refine ⟨((N * (15 * e) : Nat) : Int), Or.inl ⟨c1, by rw [c2]; omega, c4.symm, rfl⟩, by omega, by omega, ?_⟩
  have eR' : ((R : Nat) : Int) * ((15 * e : Nat) : Int) = 1296000000000 * (k : Int) + ((N * (15 * e) : Nat) : Int) := by
    have := congrArg (fun x : Nat => (x : Int)) eR
    simpa using this
  rw [eR'] at hh
  generalize ((N * (15 * e) : Nat) : Int) = V at *
  have hdif : Pl.dif V a = 1296000000000 * (k : Int) + V - m := by
    have e1 : (V - a) % 1296000000000 = (1296000000000 * (k : Int) + V - m) % 1296000000000 := by omega
    unfold Pl.dif
    rw [e1]
    generalize 1296000000000 * (k : Int) + V - m = y at *
    have : (15 * e : Nat) ≤ 15000000 := by omega
    split <;> omega
  rw [hdif]
  omega
theorem deg_mod (a : Int) : -324000000000 ≤ a.tmod 324000000001 ∧ a.tmod 324000000001 ≤ 324000000000 := by
  have h := Pl.tmod_bd a 324000000001 (by omega)
  omega
/-- The text of a declination is read. -/
theorem dec_back (c : Int) (d : Nat) (hd : d ≤ 6) (h0 : -324000000000 ≤ c) (h1 : c ≤ 324000000000) : ∃ v : Int, DecIs ⟨(decL c d).toArray⟩ v 0 ∧ -324000000000 ≤ v ∧ v ≤ 324000000000 ∧
    2 * (v - c) ≤ ((1000000 / 10 ^ d : Nat) : Int) ∧ -((1000000 / 10 ^ d : Nat) : Int) ≤ 2 * (v - c) := by
  obtain ⟨_, hu, _, u1, _, uM⟩ := units d hd
  have hp : 1 ≤ 10 ^ d := Nat.pow_pos (by omega)
  obtain ⟨m, em⟩ : ∃ m : Nat, c.natAbs = m := ⟨_, rfl⟩
  have hh := rnd_half m (1000000 / 10 ^ d) u1
  unfold decL
  rw [em]
  generalize 1000000 / 10 ^ d = e at *
  generalize rndN m e = R at *
  have bR : R * e ≤ 324000000000 := by
    have ek : 324000000000 = 324000 * 10 ^ d * e := by
      rw [Nat.mul_assoc, Nat.mul_comm (10 ^ d), hu]
    by_cases g : R ≤ 324000 * 10 ^ d
    · rw [ek]; exact Nat.mul_le_mul_right _ g
    · exfalso
      have : (324000 * 10 ^ d + 1) * e ≤ R * e := Nat.mul_le_mul_right _ (by omega)
      rw [Nat.add_mul, ← ek] at this
      have e2 : ((R * e : Nat) : Int) = (R : Int) * (e : Int) := by simp
      rw [← e2] at hh
      omega
  have bR2 : R ≤ 324000 * 10 ^ d := by
    have ek : 324000000000 = 324000 * 10 ^ d * e := by
      rw [Nat.mul_assoc, Nat.mul_comm (10 ^ d), hu]
    rw [ek] at bR
    exact Nat.le_of_mul_le_mul_right bR (by omega)
  have hRp : R / 10 ^ d ≤ 324000 := Nat.div_le_of_le_mul (by rw [Nat.mul_comm]; exact bR2)
  obtain ⟨c1, c2, c3⟩ := clock_reads R d hd (by omega)
  have c4 := c3 e
  rw [hu] at c4
  have t : ∀ s : UInt8, tailOf ⟨(s :: clockL R d).toArray⟩ = ⟨(clockL R d).toArray⟩ := fun s => tail_mk s _
  have ok : ∀ s : UInt8, (((s.toNat : Nat) : Int) = 43 ∨ ((s.toNat : Nat) : Int) = 45) → decOk ⟨(s :: clockL R d).toArray⟩ := fun s hs =>
    ⟨⟨by rw [size_mk]; simp, by rw [get0]; exact hs⟩, by rw [t]; exact c1, by rw [t, c2]; omega, by rw [t]; rw [show ((1000000 : Int)) = ((1000000 : Nat) : Int) from rfl, c4]; omega⟩
  have e2 : ((R * e : Nat) : Int) = (R : Int) * (e : Int) := by simp
  rw [← e2] at hh
  have av : angV ⟨(clockL R d).toArray⟩ 1000000 = ((R * e : Nat) : Int) := c4
  by_cases hn : c < 0
  · rw [if_pos hn]
    refine ⟨-((R * e : Nat) : Int), Or.inl ⟨ok 45 (Or.inr rfl), ?_, rfl⟩, by omega, by omega, by omega, by omega⟩
    rw [t, av, get0, if_pos (show (((45 : UInt8).toNat : Nat) : Int) = 45 from rfl)]
  · rw [if_neg hn]
    refine ⟨((R * e : Nat) : Int), Or.inl ⟨ok 43 (Or.inl rfl), ?_, rfl⟩, by omega, by omega, by omega, by omega⟩
    rw [t, av, get0, if_neg (by decide)]
end Gt
end Go.Proofs.YtafeigpmldgifaaGreatDoor
/-
  Plain law of observations: the line of an observation is read as the rounded observation; no walk here.
-/
namespace Go.Proofs.YtafeigpmldgifaaGreatDoor
namespace Op
open Go.RowKit Lw Go.Proofs.YtafeigpmldgifaaGreatDoor.Ap Go.Proofs.YtafeigpmldgifaaGreatDoor.Mp Go.Proofs.YtafeigpmldgifaaGreatDoor.At

/-- A line: the day's text is handed over. -/
def lineL (day : ByteArray) (o : Ob) : List UInt8 := nameF o.name ++ (67 :: (day.data.toList ++ (Gt.raL o.ra 3 ++ (Gt.decL o.dec 2 ++ (spL 9 ++ (magF o.mag o.band ++ (spL 6 ++ o.site.data.toList)))))))
/-- What Print returns. -/
def PrintIs (o : Ob) (s : ByteArray) (c : Int) : Prop := (okO o ∧ (∃ day, DayIs o.t 6 day 0 ∧ s = ⟨(lineL day o).toArray⟩) ∧ c = 0) ∨ (¬ okO o ∧ s = ByteArray.empty ∧ c = 8)
theorem PrintIs.uniq {o : Ob} {s s' : ByteArray} {c c' : Int} (a : PrintIs o s c) (b : PrintIs o s' c') : s = s' ∧ c = c' := by
  rcases a with ⟨a1, ⟨d, a2, a3⟩, a4⟩ | ⟨a1, a2, a3⟩ <;> rcases b with ⟨b1, ⟨d', b2, b3⟩, b4⟩ | ⟨b1, b2, b3⟩
  · obtain ⟨rfl, _⟩ := a2.uniq b2
    exact ⟨by rw [a3, b3], by omega⟩
  · exact absurd a1 b1
  · exact absurd b1 a1
  · exact ⟨by rw [a2, b2], by omega⟩
theorem ext_seg {s : ByteArray} {A B C : List UInt8} {i j : Nat} (h : s.data.toList = A ++ (B ++ C)) (hi : A.length = i) (hj : i + B.length = j) : s.extract i j = ⟨B.toArray⟩ := by
  have sz : s.size = A.length + (B.length + C.length) := by have := congrArg List.length h; simpa using this
  apply toL_inj
  rw [ext_L s i j (by omega), h, ← hi, List.drop_left, show j - A.length = B.length by omega, List.take_left]
theorem bt_seg {s : ByteArray} {A C : List UInt8} {c : UInt8} {i : Nat} (h : s.data.toList = A ++ (c :: C)) (hi : A.length = i) : bt s i = (c.toNat : Int) := by
  have sz : s.size = A.length + (1 + C.length) := by have := congrArg List.length h; simp at this; omega
  rw [bt_L s i (by omega), h, ← hi, List.getD_eq_getElem?_getD, List.getElem?_append_right (Nat.le_refl _), Nat.sub_self]
  rfl
theorem cut_id {l : List UInt8} {c : UInt8} (h : c ≠ 32) : cutL (l ++ [c]) = l ++ [c] := by
  unfold cutL
  rw [List.reverse_append, List.reverse_singleton, List.singleton_append, List.dropWhile_cons_of_neg (by simpa using h), List.reverse_cons, List.reverse_reverse]
theorem spL_len (n : Nat) : (spL n).length = n := List.length_replicate
theorem spL_blank (n : Nat) : blankP ⟨(spL n).toArray⟩ := fun c hc => (List.mem_replicate.1 hc).2
theorem nameF_len {s : ByteArray} (h : nameP s) : (nameF s).length = 14 := by
  unfold nameF
  by_cases c : numbP s
  · rw [if_pos c]
    have := c.1
    simp [spL]; omega
  · rw [if_neg c]
    rcases h with h | ⟨h1, h2, _⟩
    · exact absurd h c
    · simp [spL]; omega
theorem dec_of_pad {r d : Nat} (hd : 1 ≤ d) (h : r < 10 ^ d) : Gt.padL (r : Int) d = decL r d := pad_dec r d hd h
/-- A clock of two digits each. -/
theorem clock_dec {n d : Nat} (hd : 1 ≤ d) (h : n / 10 ^ d < 360000) : Gt.clockL n d = decL (n / 10 ^ d / 3600) 2 ++ ([32] ++ (decL (n / 10 ^ d / 60 % 60) 2 ++ ([32] ++ (decL (n / 10 ^ d % 60) 2 ++ (46 :: decL (n % 10 ^ d) d))))) := by
  unfold Gt.clockL Gt.glueL
  rw [if_pos (by omega), dec_of_pad (by omega) (by omega), dec_of_pad (by omega) (by omega), dec_of_pad (by omega) (by omega), dec_of_pad hd (Nat.mod_lt _ (Nat.pow_pos (by omega)))]
  simp only [List.append_assoc]
end Op
end Go.Proofs.YtafeigpmldgifaaGreatDoor
/-
  The walk of the closure of Print of package obs: bytes are put into the line.
-/
namespace Go.Proofs.YtafeigpmldgifaaGreatDoor
namespace Ow
open Go.RowKit Lw Go.Proofs.YtafeigpmldgifaaGreatDoor.Ap Go.Proofs.YtafeigpmldgifaaGreatDoor.Op Go.Proofs.YtafeigpmldgifaaGreatDoor.Mp Go.Proofs.YtafeigpmldgifaaGreatDoor.Mw Go.Proofs.YtafeigpmldgifaaGreatDoor.At

def bytesV (l : List UInt8) : List Value := l.map (fun b => .int .u8 (b.toNat : Int))
theorem bytesV_len (l : List UInt8) : (bytesV l).length = l.length := List.length_map _
theorem bytesV_one (l : List UInt8) : ∀ v ∈ bytesV l, v.oneCell' = true := by
  intro v hv
  simp only [bytesV, List.mem_map] at hv
  obtain ⟨b, _, rfl⟩ := hv
  rfl
theorem size_L (s : ByteArray) : s.size = s.data.toList.length := (Array.length_toList (xs := s.data)).symm
theorem below_sets {B : Nat} {a : World} (b : Nat) (hb : B ≤ b) : ∀ (vs : List Value) (o : Nat) {w : World}, Below B a w → Below B a (w.setCells b o vs)
  | [], _, _, h => h
  | v :: r, o, _, h => below_sets b hb r (o + 1) (h.setCell (p := ⟨b, o, none⟩) hb v)
theorem sets_size (b : Nat) : ∀ (vs : List Value) (o : Nat) (w : World), (w.setCells b o vs).heap.size = w.heap.size
  | [], _, _ => rfl
  | v :: r, o, w => by rw [World.setCells, sets_size b r (o + 1)]; simp
/-- 'copy(dst, s)', s a string that fits, by cells. -/
theorem run_copy_str {P : Program} (w : World) (dT sT ty elem : TypeId) (g o dLen dCap : Nat) (s : ByteArray)
    (hu : P.underlying dT = some (.slice elem)) (hs : (P.info? elem).map (·.size) = some 1) (hle : s.size ≤ dLen) (ht : ∀ j, j < s.size → (w.cell? ⟨g, o + j, none⟩).isSome = true) (hf : ∀ j, j < s.size → w.frozen? ⟨g, o + j, none⟩ = false) :
    (Builtin.copy_ #[dT, sT] ty #[.slice (some ⟨g, o, none⟩) dLen dCap, .string s]).run P w = .ok (goInt s.size) (w.setCells g o (bytesV s.data.toList)) := by
  have hlen : (bytesV s.data.toList).length = s.size := by rw [bytesV_len, ← size_L]
  have hst := run_storeCells_cells (P := P) g o (bytesV s.data.toList) 0 w (fun j hj => ht j (by omega)) (fun j hj => hf j (by omega)) (bytesV_one _)
  have hmin : Nat.min s.size dLen = s.size := Nat.min_eq_left hle
  have htk : List.take s.size (List.map (fun b : UInt8 => Value.int IntKind.u8 (b.toNat : Int)) s.data.toList) = bytesV s.data.toList := by
    rw [List.take_of_length_le (by rw [List.length_map, ← size_L]; exact Nat.le_refl _)]
    rfl
  simp only [Nat.add_zero] at hst
  cases hq : P.info? elem with
  | none => simp [hq] at hs
  | some i =>
    simp [Builtin.copy_, run_underlying hu, Builtin.lenOf, Builtin.firstCells, sizeOf, typeInfo, hq, hmin]
    rw [htk, hst]
    simp [Result.andThen]
/-- An observation in its box; a line of eighty bytes; the variable that holds the line. -/
structure PX (w0 : World) (b : Nat) (o : Ob) (g p c : Nat) (L : List UInt8) (w : World) : Prop where
  ox : OX w0 b o w
  hb : b < g
  hg : w0.heap.size ≤ g
  hp : g < p
  lt : p < w.heap.size
  var : w.rangeAt p 0 [.slice (some ⟨g, 0, none⟩) 80 c]
  len : L.length = 80
  row : w.rangeAt g 0 (bytesV L)
  free : w.there g 0 80
theorem PX.call {w0 w w' : World} {b g p c : Nat} {o : Ob} {L : List UInt8} (h : PX w0 b o g p c L w) (hb : Below w.heap.size w w') : PX w0 b o g p c L w' :=
  ⟨h.ox.call hb, h.hb, h.hg, h.hp, Nat.lt_of_lt_of_le h.lt hb.size, rangeAt_below h.var hb h.lt, h.len, rangeAt_below h.row hb (Nat.lt_trans h.hp h.lt), there_below h.free hb (Nat.lt_trans h.hp h.lt)⟩
/-- Bytes put into a line. -/
def wput (L : List UInt8) (k : Nat) (s : List UInt8) : List UInt8 := L.take k ++ (s ++ L.drop (k + s.length))
theorem wput_len {L : List UInt8} {k : Nat} {s : List UInt8} (h : k + s.length ≤ L.length) : (wput L k s).length = L.length := by
  unfold wput; simp; omega
theorem wput_in {L : List UInt8} {k : Nat} {s : List UInt8} (h : k + s.length ≤ L.length) (j : Nat) (hj : j < s.length) : (wput L k s)[k + j]? = s[j]? := by
  unfold wput
  rw [List.getElem?_append_right (by simp; omega), List.length_take, Nat.min_eq_left (by omega), Nat.add_sub_cancel_left, List.getElem?_append_left hj]
theorem wput_lo {L : List UInt8} {k : Nat} {s : List UInt8} (h : k + s.length ≤ L.length) (j : Nat) (hj : j < k) : (wput L k s)[j]? = L[j]? := by
  unfold wput
  rw [List.getElem?_append_left (by simp; omega), List.getElem?_take_of_lt hj]
theorem wput_hi {L : List UInt8} {k : Nat} {s : List UInt8} (h : k + s.length ≤ L.length) (j : Nat) (hj : k + s.length ≤ j) : (wput L k s)[j]? = L[j]? := by
  unfold wput
  rw [List.getElem?_append_right (by simp; omega), List.length_take, Nat.min_eq_left (by omega), List.getElem?_append_right (by omega), List.getElem?_drop]
  congr 1; omega
theorem PX.put {w0 w : World} {b g p c : Nat} {o : Ob} {L : List UInt8} (h : PX w0 b o g p c L w) (k : Nat) (s : List UInt8) (hs : k + s.length ≤ 80) : PX w0 b o g p c (wput L k s) (w.setCells g k (bytesV s)) := by
  have hl := h.len
  have bl : (bytesV s).length = s.length := bytesV_len s
  have bL : (bytesV L).length = L.length := bytesV_len L
  have hout := World.cell?_setCells_out g (bytesV s) k w
  have hin := World.cell?_setCells_in g (bytesV s) k w (fun j hj => (by have := (h.free (k + j) (by omega)).1; rwa [Nat.zero_add] at this))
  refine ⟨⟨below_sets g h.hg _ _ h.ox.below, ?_, ?_⟩, h.hb, h.hg, h.hp, ?_, ?_, ?_, ?_, ?_⟩
  · rw [sets_size]; exact h.ox.lt
  · intro i x hi
    rw [hout _ (fun e => absurd e (Nat.ne_of_lt h.hb))]
    exact h.ox.row i x hi
  · rw [sets_size]; exact h.lt
  · intro i x hi
    rw [hout _ (fun e => absurd e (Nat.ne_of_gt h.hp))]
    exact h.var i x hi
  · rw [wput_len (by omega), hl]
  · intro i x hi
    rw [Nat.zero_add]
    unfold bytesV at hi
    rw [List.getElem?_map] at hi
    obtain ⟨y, hy, rfl⟩ := Option.map_eq_some_iff.1 hi
    by_cases h1 : i < k
    · rw [wput_lo (by omega) i h1] at hy
      rw [hout _ (fun _ _ => Or.inl h1)]
      have := h.row i (.int .u8 (y.toNat : Int)) (by unfold bytesV; rw [List.getElem?_map, hy]; rfl)
      rwa [Nat.zero_add] at this
    · by_cases h2 : k + s.length ≤ i
      · rw [wput_hi (by omega) i h2] at hy
        rw [hout _ (fun _ _ => Or.inr (by show k + (bytesV s).length ≤ i; omega))]
        have := h.row i (.int .u8 (y.toNat : Int)) (by unfold bytesV; rw [List.getElem?_map, hy]; rfl)
        rwa [Nat.zero_add] at this
      · obtain ⟨j, rfl⟩ : ∃ j, i = k + j := ⟨i - k, by omega⟩
        rw [wput_in (by omega) j (by omega)] at hy
        rw [hin j (by omega)]
        unfold bytesV
        rw [List.getElem_map]
        rw [(List.getElem?_eq_some_iff.1 hy).2]
  · intro j hj
    refine ⟨?_, by rw [World.frozen?_setCells]; exact (h.free j hj).2⟩
    by_cases h1 : k ≤ j ∧ j < k + s.length
    · obtain ⟨i, rfl⟩ : ∃ i, j = k + i := ⟨j - k, by omega⟩
      rw [Nat.zero_add, hin i (by omega)]
      rfl
    · rw [hout _ (fun _ _ => by show 0 + j < _ ∨ _ ≤ 0 + j; omega)]
      exact (h.free j hj).1

set_option maxRecDepth 100000 in
set_option maxHeartbeats 4000000 in
theorem put_any {w0 w : World} {b g p c : Nat} {o : Ob} {L : List UInt8} (h : PX w0 b o g p c L w) (k : Nat) (s : ByteArray) (h0 : 0 < s.size) (hs : k + s.size ≤ 80) (hc : 80 ≤ c) :
    Calls Tryz.prog 30 #[.int .i64 k, .string s, .pointer (some ⟨p, 0, none⟩)] w fun e w' => e = .returned (.tuple #[]) ∧ PX w0 b o g p c (wput L k s.data.toList) w' := by
  have E := Lib.hid (h.put k s.data.toList (by rw [← size_L]; exact hs))
  have v0 := h.var 0 _ rfl
  rw [Nat.zero_add] at v0
  have ht : ∀ j, j < s.size → (w.cell? ⟨g, k + j, none⟩).isSome = true := fun j hj => by have := (h.free (k + j) (by omega)).1; rwa [Nat.zero_add] at this
  have hf : ∀ j, j < s.size → w.frozen? ⟨g, k + j, none⟩ = false := fun j hj => by have := (h.free (k + j) (by omega)).2; rwa [Nat.zero_add] at this
  have hcp := run_copy_str (P := Tryz.prog) w 42 9 3 5 g k (80 - k) (c - k) s Tryz.underlying42 (by kernel_rfl) (by omega) ht hf
  clear ht hf h
  go_enter Tryz.func30, Tryz.ntmps30
  go_wp2_with fail
  first
    | (go_ret; exact ⟨rfl, E.out⟩)
    | (go_end0; exact ⟨rfl, E.out⟩)
end Ow
end Go.Proofs.YtafeigpmldgifaaGreatDoor
/-
  Plain law of observations: bytes put into eighty spaces make the line; lengths of the parts; no walk here.
-/
namespace Go.Proofs.YtafeigpmldgifaaGreatDoor
namespace Op
open Go.RowKit Lw Go.Proofs.YtafeigpmldgifaaGreatDoor.Ap Go.Proofs.YtafeigpmldgifaaGreatDoor.Mp Go.Proofs.YtafeigpmldgifaaGreatDoor.At Go.Proofs.YtafeigpmldgifaaGreatDoor.Ow

theorem wput_seg {A B C s : List UInt8} {k : Nat} (hA : A.length = k) (hB : B.length = s.length) : wput (A ++ (B ++ C)) k s = A ++ (s ++ C) := by
  unfold wput
  rw [← hA, List.take_left, ← hB, ← List.drop_drop, List.drop_left, List.drop_left]
theorem spL_add (a b : Nat) : spL (a + b) = spL a ++ spL b := by unfold spL; exact (List.replicate_append_replicate).symm
/-- The part of a line from its mark on. -/
def midL (day : ByteArray) (o : Ob) : List UInt8 := 67 :: (day.data.toList ++ (Gt.raL o.ra 3 ++ Gt.decL o.dec 2))
theorem put_name {s : ByteArray} (h : nameP s) : wput (spL 80) (if numbP s then 0 else 5) s.data.toList = nameF s ++ spL 66 := by
  unfold nameF
  by_cases c : numbP s
  · rw [if_pos c, if_pos c]
    have z : s.data.toList.length = 5 := by rw [← size_L]; exact c.1
    have := wput_seg (A := []) (B := spL 5) (C := spL 75) (s := s.data.toList) (k := 0) rfl (by rw [spL_len, z])
    rw [List.nil_append, List.nil_append, ← spL_add] at this
    rw [this, List.append_assoc, ← spL_add]
  · rw [if_neg c, if_neg c]
    rcases h with h | ⟨h1, h2, _⟩
    · exact absurd h c
    · have z : s.data.toList.length = s.size := (size_L s).symm
      have := wput_seg (A := spL 5) (B := spL s.size) (C := spL (75 - s.size)) (s := s.data.toList) (k := 5) (spL_len 5) (by rw [spL_len, z])
      rw [← spL_add, ← spL_add, show 5 + (s.size + (75 - s.size)) = 80 by omega] at this
      rw [this, show 75 - s.size = (9 - s.size) + 66 by omega, spL_add]
      simp only [List.append_assoc]
theorem clock_len12 {n d : Nat} (hd : 1 ≤ d) (h : n / 10 ^ d < 360000) : (Gt.clockL n d).length = 9 + d := by
  rw [clock_dec hd h]
  simp [decL_len]; omega
theorem ra_len (a : Int) : (Gt.raL a 3).length = 12 := by
  unfold Gt.raL
  refine clock_len12 (by omega) ?_
  have := Nat.mod_lt (Gt.rndN (a % 1296000000000).toNat (15000000 / 10 ^ 3)) (show 0 < 86400 * 10 ^ 3 by decide)
  omega
theorem rnd_le2 (a u : Nat) : Gt.rndN a u ≤ a / u + 1 := by
  have h := Gt.rndN_eq a u
  have e : ((a / u : Nat) : Int) = (a : Int) / u := by omega
  unfold Gp.rndI at h
  split at h <;> omega
theorem dec_len {a : Int} (h0 : -324000000000 ≤ a) (h1 : a ≤ 324000000000) : (Gt.decL a 2).length = 12 := by
  unfold Gt.decL
  rw [List.length_cons, clock_len12 (by omega)]
  have := rnd_le2 a.natAbs (1000000 / 10 ^ 2)
  have e : 1000000 / 10 ^ 2 = 10000 := by decide
  rw [e] at this ⊢
  omega
theorem day_len17 {t : Int} {s : ByteArray} (h : DayIs t 6 s 0) : s.data.toList.length = 17 := by
  rw [← size_L]
  rcases h with ⟨_, _, h⟩ | ⟨_, _, _, _, h⟩ | ⟨_, _, _, _, n, y, m, z, k, _, rfl, _⟩
  · cases h
  · cases h
  · unfold daytS dbS
    rw [if_pos (by decide)]
    simp only [ByteArray.size_append, dS_size]
    rfl
theorem magB_len {m : Int} (h0 : -999 ≤ m) (h1 : m ≤ 9999) : (magB m).length ≤ 5 ∧ 4 ≤ (magB m).length := by
  unfold magB
  have h2 : (decL m.natAbs 2).length = 2 := decL_len _ _
  have l : (m.natAbs / 100 < 10 → (Lib.itoa ((m.natAbs / 100 : Nat) : Int)).length = 1) ∧ (Lib.itoa ((m.natAbs / 100 : Nat) : Int)).length ≤ 2 ∧ 1 ≤ (Lib.itoa ((m.natAbs / 100 : Nat) : Int)).length := by
    by_cases c : m.natAbs / 100 < 10
    · rw [itoa_dg _ c]; simp
    · refine ⟨fun h => absurd h c, ?_⟩
      unfold Lib.itoa
      rw [if_neg (by omega), Int.toNat_natCast, Lib.decDigits_two c (by omega)]; simp
  rw [List.length_append, List.length_append, List.length_append, h2, List.length_singleton]
  by_cases c : m < 0
  · rw [if_pos c, List.length_singleton, l.1 (by omega)]; omega
  · rw [if_neg c, List.length_nil]; omega
theorem magL_len {m : Int} (h0 : -999 ≤ m) (h1 : m ≤ 9999) : (magL m).length = 5 := by
  have := magB_len h0 h1
  unfold magL
  rw [List.length_append, spL_len]; omega
theorem mid_len {day : ByteArray} {o : Ob} (ok : okO o) (hd : DayIs o.t 6 day 0) : (midL day o).length = 42 := by
  obtain ⟨_, hn, hs, _, _, _, d0, d1, _, _, hm⟩ := ok
  unfold midL
  rw [List.length_cons, List.length_append, List.length_append, day_len17 hd, ra_len, dec_len d0 d1]
theorem put_line {day : ByteArray} {o : Ob} (ok : okO o) (hd : DayIs o.t 6 day 0) :
    wput (if o.mag = 9999 then wput (wput (spL 80) (if numbP o.name then 0 else 5) o.name.data.toList) 14 (midL day o) else wput (wput (wput (spL 80) (if numbP o.name then 0 else 5) o.name.data.toList) 14 (midL day o)) 65 (magL o.mag ++ [UInt8.ofNat o.band.toNat])) 77 o.site.data.toList = lineL day o := by
  obtain ⟨_, hn, hs, _, _, _, d0, d1, _, _, hm⟩ := ok
  have lm : (midL day o).length = 42 := by
    unfold midL
    rw [List.length_cons, List.length_append, List.length_append, day_len17 hd, ra_len, dec_len d0 d1]
  have ln := nameF_len hn
  have ls : o.site.data.toList.length = 3 := by rw [← size_L]; exact hs
  have el : lineL day o = nameF o.name ++ (midL day o ++ (spL 9 ++ (magF o.mag o.band ++ (spL 6 ++ o.site.data.toList)))) := by
    unfold lineL midL
    simp only [List.cons_append, List.append_assoc]
  rw [put_name hn, el]
  generalize nameF o.name = N at *
  generalize midL day o = M at *
  have e1 : wput (N ++ spL 66) 14 M = N ++ (M ++ spL 24) := by
    have := wput_seg (A := N) (B := spL 42) (C := spL 24) (s := M) (k := 14) ln (by rw [spL_len, lm])
    rwa [← spL_add] at this
  rw [e1]
  by_cases c : o.mag = 9999
  · rw [if_pos c]
    unfold magF
    rw [if_pos c]
    have := wput_seg (A := N ++ (M ++ spL 21)) (B := spL 3) (C := []) (s := o.site.data.toList) (k := 77) (by simp only [List.length_append, spL_len, ln, lm]) (by rw [spL_len, ls])
    rw [List.append_nil, List.append_nil, List.append_assoc, List.append_assoc, ← spL_add] at this
    rw [this, show (21 : Nat) = 9 + (6 + 6) by rfl, spL_add 9, spL_add 6]
    simp only [List.append_assoc]
  · rw [if_neg c]
    unfold magF
    rw [if_neg c]
    have lg : (magL o.mag).length = 5 := by
      rcases hm with ⟨h, _⟩ | ⟨h1, h2, _⟩
      · exact absurd h c
      · exact magL_len (by omega) (by omega)
    have e2 : wput (N ++ (M ++ spL 24)) 65 (magL o.mag ++ [UInt8.ofNat o.band.toNat]) = N ++ (M ++ (spL 9 ++ ((magL o.mag ++ [UInt8.ofNat o.band.toNat]) ++ spL 9))) := by
      have := wput_seg (A := N ++ (M ++ spL 9)) (B := spL 6) (C := spL 9) (s := magL o.mag ++ [UInt8.ofNat o.band.toNat]) (k := 65) (by simp only [List.length_append, spL_len, ln, lm]) (by rw [spL_len, List.length_append, lg]; rfl)
      rw [← spL_add, List.append_assoc, List.append_assoc, ← spL_add] at this
      rw [this]
      simp only [List.append_assoc]
    rw [e2]
    have := wput_seg (A := N ++ (M ++ (spL 9 ++ ((magL o.mag ++ [UInt8.ofNat o.band.toNat]) ++ spL 6)))) (B := spL 3) (C := []) (s := o.site.data.toList) (k := 77) (by simp only [List.length_append, spL_len, ln, lm, lg, List.length_singleton]) (by rw [spL_len, ls])
    rw [List.append_nil, List.append_nil] at this
    rw [show (9 : Nat) = 6 + 3 by rfl, spL_add 6 3] at this ⊢
    simp only [List.append_assoc] at this ⊢
    exact this
end Op
end Go.Proofs.YtafeigpmldgifaaGreatDoor
/-
  Plain law of observations: the columns of a line that is made of its parts; no walk here.
-/
namespace Go.Proofs.YtafeigpmldgifaaGreatDoor
namespace Op
open Go.RowKit Lw Go.Proofs.YtafeigpmldgifaaGreatDoor.Ap Go.Proofs.YtafeigpmldgifaaGreatDoor.Mp Go.Proofs.YtafeigpmldgifaaGreatDoor.At Go.Proofs.YtafeigpmldgifaaGreatDoor.Ow Go.Proofs.YtafeigpmldgifaaGreatDoor.Mw

/-- A line made of its parts. -/
def rowL (n1 n2 n3 D R E M S : List UInt8) : List UInt8 := n1 ++ (n2 ++ (n3 ++ (67 :: (D ++ (R ++ (E ++ (spL 9 ++ (M ++ (spL 6 ++ S)))))))))
structure Seg (s : ByteArray) (n1 n2 n3 D R E M S : List UInt8) : Prop where
  eq : s.data.toList = rowL n1 n2 n3 D R E M S
  l1 : n1.length = 5
  l2 : n2.length = 7
  l3 : n3 = [32, 32]
  d : D.length = 17
  r : R.length = 12
  e : E.length = 12
  m : M.length = 6
  s : S.length = 3
section
variable {s : ByteArray} {n1 n2 n3 D R E M S : List UInt8}
theorem Seg.size (h : Seg s n1 n2 n3 D R E M S) : s.size = 80 := by
  have := congrArg List.length h.eq
  have e : s.data.toList.length = s.size := Array.length_toList (xs := s.data)
  unfold rowL at this
  simp only [List.length_append, List.length_cons, spL_len, h.l1, h.l2, h.l3, h.d, h.r, h.e, h.m, h.s, List.length_nil] at this
  omega
theorem Seg.x0 (h : Seg s n1 n2 n3 D R E M S) : s.extract 0 5 = ⟨n1.toArray⟩ := by
  refine ext_seg (A := []) (C := n2 ++ (n3 ++ (67 :: (D ++ (R ++ (E ++ (spL 9 ++ (M ++ (spL 6 ++ S))))))))) ?_ rfl (by rw [h.l1])
  rw [h.eq]; rfl
theorem Seg.x5 (h : Seg s n1 n2 n3 D R E M S) : s.extract 5 12 = ⟨n2.toArray⟩ := by
  refine ext_seg (A := n1) (C := (n3 ++ (67 :: (D ++ (R ++ (E ++ (spL 9 ++ (M ++ (spL 6 ++ S))))))))) ?_ h.l1 (by rw [h.l2])
  rw [h.eq]; rfl
theorem Seg.b12 (h : Seg s n1 n2 n3 D R E M S) : bt s 12 = 32 := by
  refine bt_seg (A := n1 ++ n2) (c := 32) (C := 32 :: (67 :: (D ++ (R ++ (E ++ (spL 9 ++ (M ++ (spL 6 ++ S)))))))) ?_ (by rw [List.length_append, h.l1, h.l2])
  rw [h.eq, rowL, h.l3, List.append_assoc]; rfl
theorem Seg.b13 (h : Seg s n1 n2 n3 D R E M S) : bt s 13 = 32 := by
  refine bt_seg (A := n1 ++ (n2 ++ [32])) (c := 32) (C := (67 :: (D ++ (R ++ (E ++ (spL 9 ++ (M ++ (spL 6 ++ S)))))))) ?_ (by rw [List.length_append, List.length_append, h.l1, h.l2]; rfl)
  rw [h.eq, rowL, h.l3]; simp only [List.append_assoc]; rfl
theorem Seg.b14 (h : Seg s n1 n2 n3 D R E M S) : bt s 14 = 67 := by
  refine bt_seg (A := n1 ++ (n2 ++ n3)) (c := 67) (C := ((D ++ (R ++ (E ++ (spL 9 ++ (M ++ (spL 6 ++ S)))))))) ?_ (by rw [List.length_append, List.length_append, h.l1, h.l2, h.l3]; rfl)
  rw [h.eq, rowL]; simp only [List.append_assoc]
theorem Seg.x15 (h : Seg s n1 n2 n3 D R E M S) : s.extract 15 32 = ⟨D.toArray⟩ := by
  refine ext_seg (A := n1 ++ (n2 ++ (n3 ++ [67]))) (C := (R ++ (E ++ (spL 9 ++ (M ++ (spL 6 ++ S)))))) ?_ (by simp [h.l1, h.l2, h.l3]) (by rw [h.d])
  rw [h.eq, rowL]; simp
theorem Seg.x32 (h : Seg s n1 n2 n3 D R E M S) : s.extract 32 44 = ⟨R.toArray⟩ := by
  refine ext_seg (A := n1 ++ (n2 ++ (n3 ++ (67 :: D)))) (C := ((E ++ (spL 9 ++ (M ++ (spL 6 ++ S)))))) ?_ (by simp [h.l1, h.l2, h.l3, h.d]) (by rw [h.r])
  rw [h.eq, rowL]; simp
theorem Seg.x44 (h : Seg s n1 n2 n3 D R E M S) : s.extract 44 56 = ⟨E.toArray⟩ := by
  refine ext_seg (A := n1 ++ (n2 ++ (n3 ++ (67 :: (D ++ R))))) (C := (((spL 9 ++ (M ++ (spL 6 ++ S)))))) ?_ (by simp [h.l1, h.l2, h.l3, h.d, h.r]) (by rw [h.e])
  rw [h.eq, rowL]; simp
theorem Seg.x56 (h : Seg s n1 n2 n3 D R E M S) : s.extract 56 65 = ⟨(spL 9).toArray⟩ := by
  refine ext_seg (A := n1 ++ (n2 ++ (n3 ++ (67 :: (D ++ (R ++ E)))))) (C := ((((M ++ (spL 6 ++ S)))))) ?_ (by simp [h.l1, h.l2, h.l3, h.d, h.r, h.e]) (by rw [spL_len])
  rw [h.eq, rowL]; simp
theorem Seg.x65 (h : Seg s n1 n2 n3 D R E M S) : s.extract 65 71 = ⟨M.toArray⟩ := by
  refine ext_seg (A := n1 ++ (n2 ++ (n3 ++ (67 :: (D ++ (R ++ (E ++ spL 9))))))) (C := ((((spL 6 ++ S))))) ?_ (by simp [h.l1, h.l2, h.l3, h.d, h.r, h.e, spL_len]) (by rw [h.m])
  rw [h.eq, rowL]; simp
theorem Seg.x71 (h : Seg s n1 n2 n3 D R E M S) : s.extract 71 77 = ⟨(spL 6).toArray⟩ := by
  refine ext_seg (A := n1 ++ (n2 ++ (n3 ++ (67 :: (D ++ (R ++ (E ++ (spL 9 ++ M)))))))) (C := S) ?_ (by simp [h.l1, h.l2, h.l3, h.d, h.r, h.e, h.m, spL_len]) (by rw [spL_len])
  rw [h.eq, rowL]; simp
theorem Seg.x77 (h : Seg s n1 n2 n3 D R E M S) : s.extract 77 80 = ⟨S.toArray⟩ := by
  refine ext_seg (A := n1 ++ (n2 ++ (n3 ++ (67 :: (D ++ (R ++ (E ++ (spL 9 ++ (M ++ spL 6))))))))) (C := []) ?_ (by simp [h.l1, h.l2, h.l3, h.d, h.r, h.e, h.m, spL_len]) (by rw [h.s])
  rw [h.eq, rowL]; simp
theorem Seg.x6570 (h : Seg s n1 n2 n3 D R E M S) : s.extract 65 70 = ⟨(M.take 5).toArray⟩ := by
  have hl := h.m
  refine ext_seg (A := n1 ++ (n2 ++ (n3 ++ (67 :: (D ++ (R ++ (E ++ spL 9))))))) (C := (M.drop 5 ++ (((spL 6 ++ S))))) ?_ (by simp [h.l1, h.l2, h.l3, h.d, h.r, h.e, spL_len]) (by rw [List.length_take, hl]; rfl)
  have e : M ++ (spL 6 ++ S) = M.take 5 ++ (M.drop 5 ++ (spL 6 ++ S)) := by rw [← List.append_assoc (M.take 5), List.take_append_drop]
  rw [h.eq, rowL, e]
  simp only [List.append_assoc, List.cons_append]
theorem Seg.b70 (h : Seg s n1 n2 n3 D R E M S) {A : List UInt8} {c : UInt8} (hM : M = A ++ [c]) : bt s 70 = (c.toNat : Int) := by
  have hl := h.m
  rw [hM] at hl
  have hA : A.length = 5 := by simpa using hl
  refine bt_seg (A := n1 ++ (n2 ++ (n3 ++ (67 :: (D ++ (R ++ (E ++ (spL 9 ++ A)))))))) (C := (((spL 6 ++ S)))) ?_ (by simp [h.l1, h.l2, h.l3, h.d, h.r, h.e, hA, spL_len])
  rw [h.eq, rowL, hM]; simp
end
/-! ### Points and ends -/
theorem ptL_app {r : List UInt8} : ∀ {l : List UInt8}, (∀ c ∈ l, c ≠ 46) → ptL (l ++ 46 :: r) = l.length := by
  intro l h
  refine ptL_uniq (by simp) (fun j g hj => ?_) (fun g => ?_)
  · rw [List.getElem_append_left hj]
    intro e
    refine h _ (List.getElem_mem hj) ?_
    apply UInt8.toNat_inj.1
    exact Int.ofNat.inj e
  · rw [List.getElem_append_right (Nat.le_refl _)]
    simp
theorem decs_app {l r : List UInt8} (h : ∀ c ∈ l, c ≠ 46) : decs ⟨(l ++ 46 :: r).toArray⟩ = r.length := by
  unfold decs ptS
  rw [size_mk]
  have : (⟨(l ++ 46 :: r).toArray⟩ : ByteArray).data.toList = l ++ 46 :: r := by simp
  rw [this, ptL_app h]
  simp
theorem allD_ne46 {l : List UInt8} (h : allD l) : ∀ c ∈ l, c ≠ 46 := fun c hc e => by have := h c hc; rw [e] at this; have := this.1; exact absurd this (by decide)
theorem cutS_id {l : List UInt8} {c : UInt8} (h : c ≠ 32) : cutS ⟨(l ++ [c]).toArray⟩ = ⟨(l ++ [c]).toArray⟩ := by
  unfold cutS
  have : (⟨(l ++ [c]).toArray⟩ : ByteArray).data.toList = l ++ [c] := by simp
  rw [this, cut_id h]
theorem dg_ne {n : Nat} : dg (n % 10) ≠ 32 := fun e => by
  have := dg_of (n % 10) (Nat.mod_lt _ (by omega))
  rw [e] at this
  have h : ((32 : UInt8).toNat : Int) = 32 := rfl
  omega
theorem cut_dec {l : List UInt8} {n k : Nat} : cutS ⟨(l ++ decL n (k + 1)).toArray⟩ = ⟨(l ++ decL n (k + 1)).toArray⟩ := by
  rw [decL, ← List.append_assoc]
  exact cutS_id dg_ne
theorem mem3 {P : UInt8 → Prop} {a b c : List UInt8} {x y : UInt8} (ha : ∀ z ∈ a, P z) (hx : P x) (hb : ∀ z ∈ b, P z) (hy : P y) (hc : ∀ z ∈ c, P z) : ∀ z ∈ a ++ ([x] ++ (b ++ ([y] ++ c))), P z := by
  intro z hz
  simp only [List.mem_append, List.mem_singleton] at hz
  rcases hz with h | rfl | h | rfl | h
  · exact ha z h
  · exact hx
  · exact hb z h
  · exact hy
  · exact hc z h
theorem ra_split (a : Int) : ∃ x r, Gt.raL a 3 = x ++ 46 :: decL r 3 ∧ (∀ c ∈ x, c ≠ 46) := by
  unfold Gt.raL
  generalize Gt.rndN (a % 1296000000000).toNat (15000000 / 10 ^ 3) = q
  have := Nat.mod_lt q (show 0 < 86400 * 10 ^ 3 by decide)
  generalize q % (86400 * 10 ^ 3) = n at *
  rw [clock_dec (by omega) (by omega)]
  refine ⟨decL (n / 10 ^ 3 / 3600) 2 ++ ([32] ++ (decL (n / 10 ^ 3 / 60 % 60) 2 ++ ([32] ++ decL (n / 10 ^ 3 % 60) 2))), n % 10 ^ 3, by simp, mem3 (allD_ne46 (decL_num _ _).2) (by decide) (allD_ne46 (decL_num _ _).2) (by decide) (allD_ne46 (decL_num _ _).2)⟩
theorem dec_split {a : Int} (h0 : -324000000000 ≤ a) (h1 : a ≤ 324000000000) : ∃ x r, Gt.decL a 2 = x ++ 46 :: decL r 2 ∧ (∀ c ∈ x, c ≠ 46) := by
  unfold Gt.decL
  have := rnd_le2 a.natAbs (1000000 / 10 ^ 2)
  have e : 1000000 / 10 ^ 2 = 10000 := by decide
  rw [e] at this ⊢
  generalize Gt.rndN a.natAbs 10000 = n at *
  rw [clock_dec (by omega) (by omega)]
  refine ⟨(if a < 0 then 45 else 43) :: (decL (n / 10 ^ 2 / 3600) 2 ++ ([32] ++ (decL (n / 10 ^ 2 / 60 % 60) 2 ++ ([32] ++ decL (n / 10 ^ 2 % 60) 2)))), n % 10 ^ 2, by simp, ?_⟩
  intro z hz
  rcases List.mem_cons.1 hz with rfl | hz
  · split <;> decide
  · exact mem3 (P := fun c => c ≠ 46) (allD_ne46 (decL_num _ _).2) (by decide) (allD_ne46 (decL_num _ _).2) (by decide) (allD_ne46 (decL_num _ _).2) z hz
theorem day_split {t : Int} {s : ByteArray} (h : DayIs t 6 s 0) : ∃ x r, s.data.toList = x ++ 46 :: decL r 6 ∧ (∀ c ∈ x, c ≠ 46) := by
  rcases h with ⟨_, _, h⟩ | ⟨_, _, _, _, h⟩ | ⟨_, _, _, _, n, y, m, z, k, _, rfl, _⟩
  · cases h
  · cases h
  · rw [dayt_L, if_pos (by decide)]
    exact ⟨decL y.toNat 4 ++ ([32] ++ (decL m.toNat 2 ++ ([32] ++ decL (n - mo y m + 1).toNat 2))), _, by simp; rfl, mem3 (allD_ne46 (decL_num _ _).2) (by decide) (allD_ne46 (decL_num _ _).2) (by decide) (allD_ne46 (decL_num _ _).2)⟩
end Op
end Go.Proofs.YtafeigpmldgifaaGreatDoor
/-
  The walks of the reference's texts of observations: spaces, behind.
-/
namespace Go.Proofs.YtafeigpmldgifaaGreatDoor
namespace Ow
open Go.RowKit Lw Go.Proofs.YtafeigpmldgifaaGreatDoor.Ap Go.Proofs.YtafeigpmldgifaaGreatDoor.Op Go.Proofs.YtafeigpmldgifaaGreatDoor.Mp Go.Proofs.YtafeigpmldgifaaGreatDoor.Mw Go.Proofs.YtafeigpmldgifaaGreatDoor.At

def lenOfV : Value → Nat
  | .string s => s.size
  | _ => 0
theorem spL_succ (k : Nat) : ((⟨(spL k).toArray⟩ : ByteArray) ++ ⟨#[32]⟩) = ⟨(spL (k + 1)).toArray⟩ := by
  have : spL (k + 1) = spL k ++ [32] := by unfold spL; rw [List.replicate_succ']
  rw [this, ← str_app]
theorem spL_size (k : Nat) : (⟨(spL k).toArray⟩ : ByteArray).size = k := by simp [ByteArray.size, spL]
set_option maxRecDepth 100000 in
theorem rspaces_any (n : Int) (w : World) (hn : n ≤ 1000) :
    Calls Tryz.prog 100 #[.int .i64 n] w fun e w' => e = .returned (.string ⟨(spL n.toNat).toArray⟩) ∧ w = w' := by
  go_enter Tryz.func100, Tryz.ntmps100
  go_wp2_with fail
  go_loopw [3] (fun i wr => ∃ k : Nat, k ≤ n.toNat ∧ i = .string ⟨(spL k).toArray⟩ ∧ w = wr) (fun i _ => n.toNat - lenOfV i)
  case atStart => exact ⟨0, by omega, rfl, rfl⟩
  case round =>
    obtain ⟨k, hk, rfl, rfl⟩ := hrel
    have es := spL_succ k
    have z1 : (⟨(spL k).toArray⟩ : ByteArray).size = k := spL_size k
    have z3 := spL_size (k + 1)
    have z2 : (⟨#[32]⟩ : ByteArray).size = 1 := rfl
    by_cases c : (k : Int) < n
    · have hm : k < n.toNat := by omega
      generalize spL k = Q at *
      go_wp2_with fail
      go_roundw
      case rel => exact ⟨k + 1, by omega, by first | rfl | trivial, by first | rfl | trivial⟩
      case measure => simp [lenOfV, z1, z3]; omega
    · have e : n.toNat = k := by omega
      have hQ : spL n.toNat = spL k := by rw [e]
      have HQ := Lib.hid hQ
      clear es z3 e hQ
      generalize spL k = Q at *
      go_wp2_with fail
      go_ret
      exact ⟨by rw [HQ.out]; rfl, rfl⟩
theorem sp_toNat (a b : Nat) : spL (((a : Int) - (b : Int)).toNat) = spL (a - b) := by congr 1; omega
set_option maxRecDepth 100000 in
theorem rbehind_any (s : List UInt8) (n : Nat) (w : World) (hn : n ≤ 1000) (hs : s.length ≤ 1000) :
    Calls Tryz.prog 72 #[.string ⟨s.toArray⟩, .int .i64 n] w fun e w' => e = .returned (.string ⟨(s ++ spL (n - s.length)).toArray⟩) ∧ w = w' := by
  have R := fun w' => rspaces_any ((n : Int) - (s.length : Int)) w' (by omega)
  rw [sp_toNat] at R
  have sa := str_app s (spL (n - s.length))
  have l1 : (spL (n - s.length)).length ≤ 1000 := by simp [spL]; omega
  have z := size_mk s
  generalize spL (n - s.length) = Q at *
  go_enter Tryz.func72, Tryz.ntmps72
  go_wp2_with (refine (R _).mono ?_; rintro e w1 ⟨rfl, rfl⟩)
  go_ret
  exact ⟨by rw [← sa]; rfl, rfl⟩
end Ow
end Go.Proofs.YtafeigpmldgifaaGreatDoor
/-
  The walk of mag of the reference of observations.
-/
namespace Go.Proofs.YtafeigpmldgifaaGreatDoor
namespace Ow
open Go.RowKit Lw Go.Proofs.YtafeigpmldgifaaGreatDoor.Ap Go.Proofs.YtafeigpmldgifaaGreatDoor.Op Go.Proofs.YtafeigpmldgifaaGreatDoor.Mp Go.Proofs.YtafeigpmldgifaaGreatDoor.Mw Go.Proofs.YtafeigpmldgifaaGreatDoor.At

theorem itoa_two (n : Nat) (h1 : ¬ n < 10) (h : n < 100) : Lib.itoa (n : Int) = [dg (n / 10), dg (n % 10)] := by
  unfold Lib.itoa
  rw [if_neg (by omega), Int.toNat_natCast, Lib.decDigits_two h1 h]
  rfl
set_option maxRecDepth 100000 in
set_option maxHeartbeats 8000000 in
theorem rmag_any (m : Int) (w : World) (h0 : -999 ≤ m) (h1 : m ≤ 9999) :
    Calls Tryz.prog 73 #[.int .i64 m] w fun e w' => e = .returned (.string ⟨(magL m).toArray⟩) ∧ Below w.heap.size w w' := by
  have HB := Lib.hid (show magB m = (if m < 0 then [45] else []) ++ Lib.itoa ((m.natAbs / 100 : Nat) : Int) ++ [46] ++ decL m.natAbs 2 from rfl)
  have HL := Lib.hid (show magL m = spL (5 - (magB m).length) ++ magB m from rfl)
  have em : max m (-m) = (m.natAbs : Int) := by omega
  have nb : m.natAbs ≤ 9999 := by omega
  have nm : m < 0 → m.natAbs / 100 < 10 := by omega
  generalize m.natAbs = n at *
  obtain ⟨a, ha⟩ : ∃ a, n / 10 % 10 = a := ⟨_, rfl⟩
  obtain ⟨b, hb⟩ : ∃ b, n % 10 = b := ⟨_, rfl⟩
  obtain ⟨c, hc⟩ : ∃ c, n / 100 = c := ⟨_, rfl⟩
  have a1 : (n : Int) / 10 % 10 = (a : Int) := by omega
  have b1 : (n : Int) % 10 = (b : Int) := by omega
  have c1 : (n : Int) / 100 = (c : Int) := by omega
  have a9 : (a : Int) ≤ 9 := by omega
  have b9 : (b : Int) ≤ 9 := by omega
  have c9 : c < 100 := by omega
  have da := dig_ext a (by omega)
  have db := dig_ext b (by omega)
  rw [decL_two, ha, hb, hc] at HB
  rw [hc] at nm
  clear ha hb hc nb
  go_enter Tryz.func73, Tryz.ntmps73
  go_wp2_with fail
  go_quiet (fail)
  go_wp2_with fail
  obtain ⟨T, hT⟩ : ∃ T, T = [46, dg a, dg b] := ⟨_, rfl⟩
  have eT : ((⟨#[46]⟩ : ByteArray) ++ ⟨#[dg a]⟩ ++ ⟨#[dg b]⟩) = ⟨T.toArray⟩ := by
    rw [hT]; apply ByteArray.ext; simp [ByteArray.data_append]
  have lT : T.length = 3 := by rw [hT]; rfl
  have eB : (if m < 0 then [45] else []) ++ Lib.itoa (c : Int) ++ [46] ++ [dg a, dg b] = (if m < 0 then [45] else []) ++ (Lib.itoa (c : Int) ++ T) := by rw [hT]; simp
  rw [eB] at HB
  clear eB hT da db a1 b1 c1 a9 b9 em
  rw [eT]
  clear eT
  go_loopw [3, 4] (fun x y wr => ∃ (u : Nat) (S : List UInt8), x = .int .i64 u ∧ y = .string ⟨S.toArray⟩ ∧ wr = w.drewN nq ∧ S.length ≤ 4 ∧ u < 100 ∧ Hid ((u = c ∧ S = T) ∨ (10 ≤ c ∧ u = c / 10 ∧ S = dg (c % 10) :: T))) (fun x _ _ => (intOf x).toNat)
  case atStart => exact ⟨c, T, rfl, rfl, rfl, by omega, c9, Lib.hid (Or.inl ⟨rfl, rfl⟩)⟩
  case round =>
    obtain ⟨u, S, rfl, rfl, rfl, lS, u9, HD⟩ := hrel
    obtain ⟨q, hq⟩ : ∃ q, u % 10 = q := ⟨_, rfl⟩
    obtain ⟨v, hv⟩ : ∃ v, u / 10 = v := ⟨_, rfl⟩
    obtain ⟨R, hR⟩ : ∃ R, R = dg q :: S := ⟨_, rfl⟩
    have q1 : (u : Int) % 10 = (q : Int) := by omega
    have v1 : (u : Int) / 10 = (v : Int) := by omega
    have q9 : (q : Int) ≤ 9 := by omega
    have q0 : (0 : Int) ≤ (q : Int) := by omega
    have dq := dig_ext q (by omega)
    have sc : ((⟨#[dg q]⟩ : ByteArray) ++ ⟨S.toArray⟩) = ⟨R.toArray⟩ := by rw [hR, str_cons]
    have lR : R.length = S.length + 1 := by rw [hR]; rfl
    have zR := size_mk R
    have zS := size_mk S
    by_cases hz : v = 0
    · subst hz
      have v2 : (u : Int) / 10 = 0 := by omega
      have u2 : u = q := by omega
      have ER : Lib.itoa (c : Int) ++ T = R := by
        rcases HD.out with ⟨e1, e2⟩ | ⟨e0, e1, e2⟩
        · rw [hR, e2, itoa_dg c (by omega), show q = c by omega]; rfl
        · rw [hR, e2, itoa_two c (by omega) c9, show q = c / 10 by omega]; rfl
      rw [ER] at HB
      have HN := Lib.hid (fun (g : m < 0) => (show R.length ≤ 4 by
        have := nm g
        rcases HD.out with ⟨e1, e2⟩ | ⟨e0, e1, e2⟩
        · have := congrArg List.length e2; omega
        · omega))
      have bR : R.length ≤ 5 := by omega
      clear HD ER hq hR nm lT lR v1 hv h0 h1 u9 c9 u2
      by_cases hm : m < 0
      · obtain ⟨R2, hR2⟩ : ∃ R2, R2 = 45 :: R := ⟨_, rfl⟩
        have sd : ((⟨#[45]⟩ : ByteArray) ++ ⟨R.toArray⟩) = ⟨R2.toArray⟩ := by rw [hR2, str_cons]
        have lR2 : R2.length = R.length + 1 := by rw [hR2]; rfl
        have zR2 := size_mk R2
        rw [if_pos hm, show [45] ++ R = R2 from hR2.symm] at HB
        have bR2 : R2.length ≤ 5 := by have := HN.out hm; omega
        clear hR2 lR2 HN
        have SP := Lib.hid (fun w' => rspaces_any ((5 : Int) - (R2.length : Int)) w' (by omega))
        rw [show ((5 : Int) - (R2.length : Int)).toNat = 5 - R2.length by omega] at SP
        have EM := Lib.hid (show magL m = spL (5 - R2.length) ++ R2 by rw [HL.out, HB.out])
        have ls : (spL (5 - R2.length)).length ≤ 5 := by simp [spL]
        have se := str_app (spL (5 - R2.length)) R2
        clear HL HB
        generalize spL (5 - R2.length) = Q at *
        go_wp2_with (refine (SP.out _).mono ?_; rintro e w1 ⟨rfl, rfl⟩)
        go_ret
        exact ⟨by rw [EM.out]; rfl, drewN_below2 (Below.refl _ _) _⟩
      · rw [if_neg hm, List.nil_append] at HB
        clear HN
        have SP := Lib.hid (fun w' => rspaces_any ((5 : Int) - (R.length : Int)) w' (by omega))
        rw [show ((5 : Int) - (R.length : Int)).toNat = 5 - R.length by omega] at SP
        have EM := Lib.hid (show magL m = spL (5 - R.length) ++ R by rw [HL.out, HB.out])
        have ls : (spL (5 - R.length)).length ≤ 5 := by simp [spL]
        have se := str_app (spL (5 - R.length)) R
        clear HL HB
        generalize spL (5 - R.length) = Q at *
        go_wp2_with (refine (SP.out _).mono ?_; rintro e w1 ⟨rfl, rfl⟩)
        go_ret
        exact ⟨by rw [EM.out]; rfl, drewN_below2 (Below.refl _ _) _⟩
    · have vz : ¬ (v : Int) = 0 := by omega
      have D2 : 10 ≤ c ∧ v = c / 10 ∧ R = dg (c % 10) :: T ∧ R.length ≤ 4 := by
        rcases HD.out with ⟨e1, e2⟩ | ⟨e0, e1, e2⟩
        · exact ⟨by omega, by omega, by rw [hR, e2, show q = c % 10 by omega], by rw [lR, e2, lT]; omega⟩
        · omega
      have D3 := Lib.hid D2
      have vu : v < u := by omega
      clear HD hR HL HB D2 hq hv
      go_wp2_with fail
      go_roundw
      case rel => exact ⟨v, R, by first | go_num | rfl | trivial, by first | rfl | trivial, by first | rfl | trivial, D3.out.2.2.2, by omega, Lib.hid (Or.inr ⟨D3.out.1, D3.out.2.1, D3.out.2.2.1⟩)⟩
      case measure => simp [intOf]; omega
end Ow
end Go.Proofs.YtafeigpmldgifaaGreatDoor
