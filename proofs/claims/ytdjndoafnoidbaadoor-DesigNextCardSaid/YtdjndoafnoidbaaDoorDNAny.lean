/-
  DesigNext, for any list, year and half-month.
-/
import Derived.Test.YtdjndoafnoidbaaDoorDNWalk
import Derived.Test.YtdjndoafnoidbaaDoorDSlice
namespace Go.Proofs.YtdjndoafnoidbaaDoor
namespace Dw
open Go.RowKit Dp Lw

theorem law_next (x : Option Addr) (n cap : Nat) (y h : Int) (w : World) (hT : Tb w) (hh : 0 ≤ h ∧ h ≤ 255) (hl : n = 0 ∨ ∃ b off L, x = some ⟨b, off, none⟩ ∧ Lst w b off n L) :
    Calls Tryd.prog 9 #[.slice x n cap, .int .i64 y, .int .u8 h] w fun e w' => e = .returned (.bool true) ∧ Below w.heap.size w w' := by
  have key : ∃ L : Ls, n = 0 ∨ ∃ b off, x = some ⟨b, off, none⟩ ∧ Lst w b off n L := by
    rcases hl with h | ⟨b, off, L, h⟩
    · exact ⟨⟨fun _ => 0, fun _ => 0, fun _ => 0, fun _ => 0, fun _ => 0⟩, Or.inl h⟩
    · exact ⟨L, Or.inr ⟨b, off, h⟩⟩
  obtain ⟨L, hl⟩ := key
  by_cases hn : 100 < n
  · exact dnext_many x n cap y h w hT hn
  · exact dnext_few L x n cap y h w hT hl hh.1 (by omega) (by omega)
end Dw
end Go.Proofs.YtdjndoafnoidbaaDoor
