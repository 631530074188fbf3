/-
  Texts of numbers: strconv.Itoa and pad of package desig; letter, digit of the reference.
-/
import Derived.Test.YtdjndoafnoidbaaDoorDWhole
import Derived.Test.YtdjndoafnoidbaaDoorDWalk1
import Derived.Lib.SmallJoins
import Derived.Lib.LaidTab
import Derived.Laws.Concat
import Derived.Laws.IdiomStrings
import Derived.Lib.Join
import Derived.Lib.Repeat
import Derived.Lib.ItoaLen
import Derived.Sort.Grow
import Derived.Deep.OwnRows
namespace Go.Proofs.YtdjndoafnoidbaaDoor
namespace Dw
open Go.RowKit Dp Lw

theorem gPow : Tryd.prog.globalNamed "internal/strconv.uint64pow10" = some 2 := by kernel_rfl
/-- The tables hold what their initialisers lay. -/
structure Tb (w : World) : Prop where
  ord : Tab w
  pow : Lib.TabIs Tryd.prog w "internal/strconv.uint64pow10" .u64 Lib.pow10Tab
theorem Tb.below {w w' : World} (h : Tb w) (hb : Below w.heap.size w w') : Tb w' := ⟨h.ord.below hb, Joins.tab_stays gPow h.pow hb (Nat.le_refl _)⟩
theorem below_grow (w : World) (k : Nat) (os : Array Obj) : Below w.heap.size w (Go.Sort.grow (w.drewN k) os) :=
  ⟨rfl, rfl, rfl, by simp [Go.Sort.grow, World.drewN], fun j hj => by
    show (w.heap ++ os)[j]? = w.heap[j]?
    rw [Array.getElem?_append_left hj]⟩
theorem str_app (a b : List UInt8) : ((⟨a.toArray⟩ : ByteArray) ++ ⟨b.toArray⟩) = ⟨(a ++ b).toArray⟩ := by
  apply ByteArray.ext
  simp [ByteArray.data_append]
theorem size_mk (l : List UInt8) : (⟨l.toArray⟩ : ByteArray).size = l.length := by simp [ByteArray.size]
theorem itoa_any (n : Int) (w : World) (hT : Tb w) (h0 : 0 ≤ n) (h1 : n ≤ 1000000000000000000) :
    Calls Tryd.prog 34 #[.int .i64 n] w fun e w' => e = .returned (.string ⟨(Lib.itoa n).toArray⟩) ∧ Below w.heap.size w w' :=
  (Tryd.strconv_Itoa n (by omega) (by omega) w hT.pow).mono fun _ _ ⟨x, k, os, y⟩ => ⟨x, by rw [y]; exact below_grow w k os⟩

set_option maxRecDepth 100000 in
theorem pad_any (n : Int) (d : Nat) (w : World) (hT : Tb w) (h0 : 0 ≤ n) (h1 : n ≤ 1000000000000000000) (hd : d ≤ 20) :
    Calls Tryd.prog 38 #[.int .i64 n, .int .i64 d] w fun e w' => e = .returned (.string ⟨(padL n d).toArray⟩) ∧ Below w.heap.size w w' := by
  have hl := Lib.itoa_length_le n (by omega) (by omega)
  have F := Lib.hid (itoa_any n w hT h0 h1)
  have hp : padL n d = Lib.repeatL [48] (d - (Lib.itoa n).length) ++ Lib.itoa n := rfl
  have hp := Lib.hid hp
  have sz : (⟨(Lib.itoa n).toArray⟩ : ByteArray).size = (Lib.itoa n).length := by simp [ByteArray.size]
  generalize Lib.itoa n = L at *
  go_enter Tryd.func38, Tryd.ntmps38
  go_wp2_with fail
  go_at_call 34
  refine F.out.mono ?_
  rintro e w1 ⟨rfl, hB1⟩
  clear F hT
  have em : max (0 : Int) (↑d - ↑L.length) = ((d - L.length : Nat) : Int) := by omega
  have R := Lib.hid (Tryd.strings_Repeat ⟨#[48]⟩ (d - L.length) w1 (by omega) (by show 1 * _ ≤ _; omega))
  have rl := rep_len (d - L.length)
  have ls : (⟨#[48]⟩ : ByteArray).data.toList = [48] := rfl
  rw [ls] at R
  go_wp2_with fail
  go_at_call 54
  refine R.out.mono ?_
  rintro e w2 ⟨rfl, hB2⟩
  have hB := below_then hB1 hB2
  have sa := str_app (Lib.repeatL [48] (d - L.length)) L
  generalize Lib.repeatL [48] (d - L.length) = Q at *
  clear R em ls hB1 hB2
  go_wp2_with fail
  go_ret
  exact ⟨by rw [hp.out]; rfl, hB⟩
theorem b8_cell {x : Int} (h0 : 0 ≤ x) (h1 : x < 256) : Value.int .u8 x = .int .u8 ((b8 x).toNat : Int) := by rw [b8_of h0 h1]
/-- A new row of two bytes, as a string. -/
theorem conv2 (w : World) (x y : Int) (c : Nat) (h0 : 0 ≤ x) (h1 : x < 256) (k0 : 0 ≤ y) (k1 : y < 256) (g : Nat) (hg : w.cell? ⟨g, 0, none⟩ = some (.int .u8 x)) (hg1 : w.cell? ⟨g, 1, none⟩ = some (.int .u8 y)) :
    (convert 59 9 (.slice (some ⟨g, 0, none⟩) 2 c)).run Tryd.prog w = .ok (.string ⟨[b8 x, b8 y].toArray⟩) w :=
  run_convert_bytes_back (P := Tryd.prog) w 59 9 5 ⟨g, 0, none⟩ c [b8 x, b8 y] Tryd.underlying59 Tryd.underlying5 Tryd.underlying9 (fun j hj => by
    match j, hj with
    | 0, _ => show w.cell? ⟨g, 0, none⟩ = _; rw [hg, b8_cell h0 h1]; rfl
    | 1, _ => show w.cell? ⟨g, 1, none⟩ = _; rw [hg1, b8_cell k0 k1]; rfl)
theorem conv1 (w : World) (x : Int) (c : Nat) (h0 : 0 ≤ x) (h1 : x < 256) (g : Nat) (hg : w.cell? ⟨g, 0, none⟩ = some (.int .u8 x)) :
    (convert 59 9 (.slice (some ⟨g, 0, none⟩) 1 c)).run Tryd.prog w = .ok (.string ⟨[b8 x].toArray⟩) w :=
  run_convert_bytes_back (P := Tryd.prog) w 59 9 5 ⟨g, 0, none⟩ c [b8 x] Tryd.underlying59 Tryd.underlying5 Tryd.underlying9 (fun j hj => by
    match j, hj with
    | 0, _ => show w.cell? ⟨g, 0, none⟩ = _; rw [hg, b8_cell h0 h1]; rfl)
theorem letter_any (c : Int) (w : World) (h0 : 0 ≤ c) (h1 : c < 256) :
    Calls Tryd.prog 52 #[.int .u8 c] w fun e w' => e = .returned (.string ⟨[b8 c].toArray⟩) ∧ Below w.heap.size w w' := by
  have C := conv1 (w.alloc (.cells #[.int .u8 c] 5)) c 1 h0 h1 w.heap.size (World.cell?_alloc_mark w _ _ _ 0)
  go_enter Tryd.func52, Tryd.ntmps52
  go_wp2_with fail
  go_ret
  exact ⟨rfl, (Below.refl _ _).alloc (Nat.le_refl _) _⟩
end Dw
end Go.Proofs.YtdjndoafnoidbaaDoor
