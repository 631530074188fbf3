/-
  strings.IndexRune at a rune that is no ASCII, in a string of ASCII: it is not there.
-/
import Derived.Test.YtdjndoafnoidbaaDoorLaw
import Derived.Test.YtdjndoafnoidbaaDoorDTxt
import Derived.Test.YtdjndoafnoidbaaDoorShelf
import Derived.ProofKit
import Derived.Outline
import Derived.Lib.Hide
import Derived.Laws.RangeAny
import Derived.Laws.Runes
import Derived.LoopTactic
import Derived.Deep.QuietTactic
import Derived.BigQuiet
import Derived.Lib.Bytealg
namespace Go.Proofs.YtdjndoafnoidbaaDoor
namespace Dw
open Go.RowKit Dp Lw

theorem idx_none (l : List UInt8) (c : UInt8) (h : ∀ b ∈ l, b ≠ c) : Lib.indexByte l c = -1 := by
  induction l with
  | nil => rfl
  | cons a l ih =>
    have h1 : (a == c) = false := by simpa using h a (List.mem_cons_self ..)
    rw [Lib.indexByte, h1, ih (fun b hb => h b (List.mem_cons_of_mem _ hb))]
    rfl
theorem idx_ascii (s : ByteArray) (a e : Nat) (c : UInt8) (hs : ∀ b ∈ s.data.toList, b.toNat < 128) (hc : 128 ≤ c.toNat) : Lib.indexByte (s.extract a e).data.toList c = -1 :=
  idx_none _ _ fun b hb hbc => by have := hs b (mem_extract hb); rw [hbc] at this; omega
theorem get_mem (s : ByteArray) (k : Nat) (h : k < s.size) : s[k] ∈ s.data.toList := Array.getElem_mem_toList (xs := s.data) h
theorem below_iter (w : World) (s : ByteArray) (k : Nat) : Below w.heap.size w (w.iter s k) := (Below.refl _ _).alloc (Nat.le_refl _) _
set_option maxRecDepth 100000 in
set_option maxHeartbeats 1000000 in
theorem idx_fffd (D : ByteArray) (w : World) (hD : ∀ b ∈ D.data.toList, b.toNat < 128) (_hs : D.size ≤ 62) :
    Calls Tryd.prog 56 #[.string D, .int .i32 65533] w fun e w' => e = .returned (.int .i64 (-1)) ∧ Below w.heap.size w w' := by
  go_enter Tryd.func56, Tryd.ntmps56
  go_wp2
  go_loopw [] (fun w' => ∃ k : Nat, k ≤ D.size ∧ w' = w.iter D k) (fun w' => D.size - w'.iterPos w.heap.size)
  case atStart => exact ⟨0, Nat.zero_le _, rfl⟩
  case round =>
    obtain ⟨k, hk, rfl⟩ := hrel
    by_cases hlt : k < D.size
    · have hnx : ∀ ty, (Instr.next (.pointer (some ⟨w.heap.size, 0, none⟩)) true ty).run Tryd.prog (w.iter D k) = _ := fun ty => run_next_any w D k ty hlt
      have ha := hD _ (get_mem D k hlt)
      rw [decode_ascii D k hlt ha] at hnx
      have e1 : ((D[k].toNat : Int) == 65533) = false := by rw [beq_eq_false_iff_ne]; omega
      go_wp2
      go_roundw
      case rel => exact ⟨k + 1, by omega, rfl⟩
      case measure => simp; omega
    · have hnx : ∀ ty, (Instr.next (.pointer (some ⟨w.heap.size, 0, none⟩)) true ty).run Tryd.prog (w.iter D k) = _ := fun ty => run_next_end w D k ty hlt
      go_wp2
      go_ret
      exact ⟨rfl, below_iter _ _ _⟩
end Dw
end Go.Proofs.YtdjndoafnoidbaaDoor
