/-
  ParseDeg of the reference, for any text.
-/
import Derived.Test.YtmafjoboikbnnaaDoorPRDegA
import Derived.Test.YtmafjoboikbnnaaDoorPRDegB
namespace Go.Proofs.YtmafjoboikbnnaaDoor
namespace Ap
open Go.RowKit Lw

theorem empty_of_size {s : ByteArray} (h : s.size = 0) : s = ByteArray.empty := by
  cases s with
  | mk d =>
    have : d = #[] := Array.eq_empty_of_size_eq_zero h
    rw [this]; rfl
set_option maxRecDepth 100000 in
set_option maxHeartbeats 4000000 in
theorem rdeg_0 (w : World) :
    Calls Tryd.prog 12 #[.string ByteArray.empty] w fun e w' => ∃ v c : Int, e = .returned (.tuple #[.int .i64 v, .int .i64 c]) ∧ DegT false ByteArray.empty (ptOf ByteArray.empty) v c ∧ Below w.heap.size w w' := by
  have hw := Lib.hid (show DegT false ByteArray.empty (ptOf ByteArray.empty) 0 12 from Or.inr ⟨fun g => by have := g.1.1; simp at this, rfl, rfl⟩)
  go_enter Tryd.func12, Tryd.ntmps12
  go_wp2_with fail
  go_loop [5] (fun i => i = .int .i64 0) (fun _ => 0)
  case atStart => rfl
  case round =>
    obtain rfl := hrel
    go_wp2
    go_ret2
    exact ⟨0, 12, rfl, hw.out, Below.refl _ _⟩
theorem rdeg_any (s : ByteArray) (w : World) (hs : s.size ≤ 100) :
    Calls Tryd.prog 12 #[.string s] w fun e w' => ∃ v c : Int, e = .returned (.tuple #[.int .i64 v, .int .i64 c]) ∧ DegT (negB s) (bodyOf s) (ptOf (bodyOf s)) v c ∧ Below w.heap.size w w' := by
  by_cases h : negP s
  · have h45 := h.2
    rw [at_of s 0 h.1] at h45
    have e1 : negB s = true := decide_eq_true h
    have e2 : bodyOf s = s.extract 1 s.size := if_pos h
    rw [e1, e2]
    exact rdeg_A s w hs h.1 h45
  · have e1 : negB s = false := decide_eq_false h
    have e2 : bodyOf s = s := if_neg h
    rw [e1, e2]
    by_cases h0 : 0 < s.size
    · exact rdeg_B s w hs h0 (fun g => h ⟨h0, by rw [at_of s 0 h0]; exact g⟩)
    · obtain rfl := empty_of_size (show s.size = 0 by omega)
      exact rdeg_0 w
end Ap
end Go.Proofs.YtmafjoboikbnnaaDoor
