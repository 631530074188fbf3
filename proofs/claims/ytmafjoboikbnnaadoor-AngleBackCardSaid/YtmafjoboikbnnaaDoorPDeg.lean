/-
  ParseDeg of package angle, for any text.
-/
import Derived.Test.YtmafjoboikbnnaaDoorPDegA
import Derived.Test.YtmafjoboikbnnaaDoorPDegB
namespace Go.Proofs.YtmafjoboikbnnaaDoor
namespace Ap
open Go.RowKit Lw

theorem body_size (s : ByteArray) : (bodyOf s).size ≤ s.size := by
  unfold bodyOf
  split
  · simp
  · exact Nat.le_refl _
theorem deg_any (s : ByteArray) (w : World) (m : Int) (hm : w.cell? ⟨0, 0, none⟩ = some (.int .i64 m)) (hs : s.size ≤ 100) :
    Calls Tryd.prog 11 #[.string s] w fun e w' => ∃ v c : Int, e = .returned (.tuple #[.int .i64 v, .int .i64 c]) ∧ DegT (negB s) (bodyOf s) (ptOf (bodyOf s)) v c ∧ Below w.heap.size w w' := by
  have hb := body_size s
  cases h : negB s with
  | true => exact deg_true s _ w m hm (by omega) rfl (by omega) h
  | false => exact deg_false s _ w m hm (by omega) rfl (by omega) h
end Ap
end Go.Proofs.YtmafjoboikbnnaaDoor
