/-
  Reading hours or degrees: package angle's read.
-/
import Derived.Test.YtmafjoboikbnnaaDoorPSpec
import Derived.Laws.IdiomStrings
import Derived.Deep.DeepCutAuto
namespace Go.Proofs.YtmafjoboikbnnaaDoor
namespace Ap
open Go.RowKit Lw

/-- The bytes of s lie in a block. -/
def Held (s : ByteArray) (B : Nat) (w' : World) : Prop := B < w'.heap.size ∧ ∀ j (h : j < s.size), w'.cell? ⟨B, j, none⟩ = some (.int .u8 (s[j].toNat : Int))
theorem held_below {s : ByteArray} {B : Nat} {a b : World} (h : Held s B a) (hb : Below a.heap.size a b) : Held s B b :=
  ⟨Nat.lt_of_lt_of_le h.1 hb.size, fun j hj => by rw [hb.cell (p := ⟨B, j, none⟩) h.1]; exact h.2 j hj⟩
theorem held_drew {s : ByteArray} {B : Nat} {a : World} (h : Held s B a) : Held s B a.drew := h
theorem bytes_in (w : World) (s : ByteArray) : ∃ (W : World) (cap : Nat), (convert 9 52 (.string s)).run Tryd.prog w = .ok (.slice (some ⟨w.heap.size, 0, none⟩) s.size cap) W ∧ Held s w.heap.size W ∧ Below w.heap.size w W ∧ s.size ≤ cap := by
  refine ⟨_, _, run_bytes_of_string (P := Tryd.prog) w 9 52 5 s Tryd.underlying9 Tryd.underlying52 Tryd.underlying5, ⟨by simp, fun j hj => ?_⟩, ((Below.refl _ w).drew).alloc (Nat.le_refl _) _, ?_⟩
  · rw [cell_of_row (World.alloc _ _) w.heap.size j (bytesRow s (grownCap w s.size 0 5)) 5 ((bytesRow s (grownCap w s.size 0 5)).size, (bytesRow s (grownCap w s.size 0 5)).size + 1) (by show (w.heap.push _)[w.heap.size]? = _; simp)]
    have hj' : j < s.data.size := hj
    unfold bytesRow
    rw [Array.getElem?_append_left (by simpa using hj'), Array.getElem?_map, Array.getElem?_eq_getElem hj']
    rfl
  · exact grownCap_ge w s.size 0 _
theorem back_any {s : ByteArray} {B : Nat} {w' : World} (h : Held s B w') (i n cap : Nat) (hin : i + n ≤ s.size) :
    (convert 52 9 (.slice (some ⟨B, i, none⟩) n cap)).run Tryd.prog w' = .ok (.string (s.extract i (i + n))) w' := by
  have hl : (s.extract i (i + n)).data.toList.length = n := by simp; omega
  have := run_convert_bytes_back (P := Tryd.prog) w' 52 9 5 ⟨B, i, none⟩ cap (s.extract i (i + n)).data.toList Tryd.underlying52 Tryd.underlying5 Tryd.underlying9 (fun j hj => by
    have := h.2 (i + j) (by rw [hl] at hj; omega)
    rw [Addr.add_mid, this]
    congr 3
    simp [ByteArray.getElem_eq_getElem_data])
  rw [hl] at this
  exact this
def ReadIs (s : ByteArray) (H a p : Int) (d : Nat) (ok : Bool) : Prop :=
  (ok = true ∧ validP s ∧ two s 0 ≤ H ∧ a = secs s ∧ p = numV (restOf s).data.toList ∧ d = (restOf s).size) ∨ (ok = false ∧ ¬ (validP s ∧ two s 0 ≤ H) ∧ (0 ≤ a ∧ a ≤ 1000000) ∧ (-1 ≤ p ∧ p ≤ 999999) ∧ d ≤ 6)
def ReadPost (s : ByteArray) (H : Int) (w : World) (e : Ending) (w' : World) : Prop := ∃ (a p : Int) (d : Nat) (ok : Bool), e = .returned (.tuple #[.int .i64 a, .int .i64 p, .int .i64 d, .bool ok]) ∧ ReadIs s H a p d ok ∧ Below w.heap.size w w'
end Ap
end Go.Proofs.YtmafjoboikbnnaaDoor
