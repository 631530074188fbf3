/-
  The tables of the program, out of a row's condition.
-/
import Derived.Test.YtdjndoafnoidbaaDoorDTLaw
import Derived.Test.YtdjndoafnoidbaaDoorRows
namespace Go.Proofs.YtdjndoafnoidbaaDoor
namespace Dw
open Go.RowKit Dp Lw

theorem laidMet_tail {P : Program} {W : World} {x : String × DataW Unit} {rest : List (String × DataW Unit)} (h : laidMet P (x :: rest) W) : laidMet P rest W := by
  obtain ⟨n, d⟩ := x
  obtain ⟨ps, ⟨g', t', cs, fuel, p, q, hg', ht', hvar, hd, hr, hp⟩, hn, ha⟩ := h
  subst hp
  exact ⟨q, hr, (List.nodup_append.1 hn).2.1, fun b off hm => ha b off (List.mem_append_right _ hm)⟩
theorem tb_of {W : World} (hL : laidMet Tryd.prog Rows.desigTextsRow.laid W) : Tb W :=
  ⟨Lib.tabIs_of_head (rest := []) (t := 56) (e := 21) (n := 25) gOrd (by kernel_rfl) (by kernel_rfl) (by kernel_rfl) (by kernel_rfl) (by kernel_rfl) (laidMet_tail (laidMet_tail (laidMet_tail hL))),
   Lib.tabIs_of_head (t := 110) (e := 99) (n := 20) gPow (by kernel_rfl) (by kernel_rfl) (by kernel_rfl) (by kernel_rfl) (by kernel_rfl) (laidMet_tail (laidMet_tail hL))⟩
theorem law_texts (n y u s c : Int) (p q : ByteArray) (w : World) (hT : Tb w) (h0 : 0 ≤ u ∧ u ≤ 255) (s0 : 0 ≤ s ∧ s ≤ 255) :
    Calls Tryd.prog 4 #[.agg #[.int .i64 n, .int .i64 y, .int .u8 u, .int .u8 s, .int .i64 c], .string p, .string q] w fun e w' => e = .returned (.bool true) ∧ Below w.heap.size w w' := by
  by_cases hp : p.size ≤ 40
  · by_cases hq : q.size ≤ 40
    · exact texts_any n y u s c p q w hT h0.1 (by omega) s0.1 (by omega) hp hq
    · have P1 : ¬ (40 : Int) < (p.size : Int) := by omega
      have P2 : (40 : Int) < (q.size : Int) := by omega
      have hB := Lib.hid (RS.box w (.cells (desigC n y u s c).toArray 23)).below
      clear hT
      go_enter Tryd.func4, Tryd.ntmps4
      go_wp2_with fail
      go_ret
      exact ⟨rfl, hB.out⟩
  · have P1 : (40 : Int) < (p.size : Int) := by omega
    have hB := Lib.hid (RS.box w (.cells (desigC n y u s c).toArray 23)).below
    clear hT
    go_enter Tryd.func4, Tryd.ntmps4
    go_wp2_with fail
    go_ret
    exact ⟨rfl, hB.out⟩
end Dw
end Go.Proofs.YtdjndoafnoidbaaDoor
