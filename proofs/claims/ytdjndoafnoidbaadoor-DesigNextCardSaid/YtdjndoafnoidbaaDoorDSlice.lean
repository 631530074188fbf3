/-
  An argument that is a list of designations, opened.
-/
import Derived.Test.YtdjndoafnoidbaaDoorDNext
import Derived.Test.YtdjndoafnoidbaaDoorFrame
import Derived.Deep.Slices
import Derived.Deep.Fields
import Derived.ChangeSame
import Derived.OpenShut
namespace Go.Proofs.YtdjndoafnoidbaaDoor
namespace Dw
open Go.RowKit Dp Lw Go.ChangeShapes Go.WideShapes Go.Deep

section
variable {H : Type} {enc : TypeId × Value → H} {P : Program} {w : World} {base : Nat} {spare : Nat → Bool} {held : Bool}
theorem elem_fields {e : TypeId} {fs : Array Field} {fuel : Nat} {a : Addr} {cs : List Value} {x : DataW H × List MemPlace} (he : P.underlying e = some (.struct fs)) (hone : oneCellFields P fs = true) (hC : P.cellsOf e = fs.size)
    (hc : w.cells? base a (P.cellsOf e) = some cs) (ht : DataW.trod enc P w base spare held fuel e cs = some x) :
    ∃ n, ∀ j f, fs[j]? = some f → ∃ v y, w.cell? (a.add j) = some v ∧ DataW.trod enc P w base spare held n f.type [v] = some y := by
  rw [hC] at hc
  obtain ⟨ys, n, _, hy, hlen, hyl, hf⟩ := DataW.trod_struct he ht
  obtain ⟨_, hcl, hat⟩ := World.cells?_some hc
  refine ⟨n, fun j f hj => ?_⟩
  obtain ⟨ho, hk⟩ := hone_of hone j f hj
  have hjl : j < fs.size := (Array.getElem?_eq_some_iff.1 hj).1
  have h1 := hf j f hj
  rw [ho, hk, List.drop_eq_getElem_cons (show j < cs.length by omega)] at h1
  have hys : ys[j]? = some (ys[j]'(by omega)) := List.getElem?_eq_getElem (by omega)
  exact ⟨_, _, (hat j hjl).trans (List.getElem?_eq_getElem (by omega)), h1.trans hys⟩
end
theorem block_lt {w : World} {a : Addr} {v : Value} (h : w.cell? a = some v) : a.block < w.heap.size ∧ a.spot = none := by
  unfold World.cell? at h
  split at h
  · rename_i c _ _ hh
    refine ⟨(Array.getElem?_eq_some_iff.1 hh).1, ?_⟩
    cases hs : a.spot with
    | none => rfl
    | some s => simp [hs] at h
  · cases h
theorem at_add {w : World} {b off j : Nat} {v : Value} (h : w.cell? ((⟨b, off, none⟩ : Addr).add j) = some v) : w.cell? ⟨b, off + j, none⟩ = some v := by
  unfold Addr.add at h
  split at h
  · rename_i e; rw [e]; exact h
  · exact h
theorem add_none {b off k : Nat} : (⟨b, off, none⟩ : Addr).add k = ⟨b, off + k, none⟩ := by
  unfold Addr.add
  split
  · rename_i e; rw [e]; rfl
  · rfl
theorem one_of {a b : Value} (h : [a] = [b]) : a = b := by injection h

/-- One element. -/
theorem desig_elem {H : Type} {enc : TypeId × Value → H} {w : World} {base : Nat} {spare : Nat → Bool} {held : Bool} {m b off : Nat} {cs : List Value} {x : DataW H × List MemPlace}
    (hc : w.cells? base ⟨b, off, none⟩ (Tryd.prog.cellsOf 23) = some cs) (ht : DataW.trod enc Tryd.prog w base spare held m 23 cs = some x) :
    ∃ r : Int × Int × Int × Int × Int, (0 ≤ r.2.2.1 ∧ r.2.2.1 < 256) ∧ (0 ≤ r.2.2.2.1 ∧ r.2.2.2.1 < 256) ∧ w.rangeAt b off (desigC r.1 r.2.1 r.2.2.1 r.2.2.2.1 r.2.2.2.2) := by
  obtain ⟨n, hf⟩ := elem_fields Tryd.underlying23 (by kernel_rfl) (by kernel_rfl) hc ht
  obtain ⟨v0, y0, k0, t0⟩ := hf 0 _ rfl
  obtain ⟨v1, y1, k1, t1⟩ := hf 1 _ rfl
  obtain ⟨v2, y2, k2, t2⟩ := hf 2 _ rfl
  obtain ⟨v3, y3, k3, t3⟩ := hf 3 _ rfl
  obtain ⟨v4, y4, k4, t4⟩ := hf 4 _ rfl
  obtain ⟨a0, e0, _, w0⟩ := DataW.trod_int Tryd.underlying3 t0
  obtain ⟨a1, e1, _, w1⟩ := DataW.trod_int Tryd.underlying3 t1
  obtain ⟨a2, e2, _, w2⟩ := DataW.trod_int Tryd.underlying5 t2
  obtain ⟨a3, e3, _, w3⟩ := DataW.trod_int Tryd.underlying5 t3
  obtain ⟨a4, e4, _, w4⟩ := DataW.trod_int Tryd.underlying3 t4
  obtain rfl := one_of e0
  obtain rfl := one_of e1
  obtain rfl := one_of e2
  obtain rfl := one_of e3
  obtain rfl := one_of e4
  have b2 := bounds_u8 w2
  have b3 := bounds_u8 w3
  refine ⟨(a0, a1, a2, a3, a4), ⟨b2.1, by show a2 < 256; omega⟩, ⟨b3.1, by show a3 < 256; omega⟩, fun j v hv => ?_⟩
  match j, hv with
  | 0, hv => cases hv; exact at_add k0
  | 1, hv => cases hv; exact at_add k1
  | 2, hv => cases hv; exact at_add k2
  | 3, hv => cases hv; exact at_add k3
  | 4, hv => cases hv; exact at_add k4
  | k + 5, hv => simp at hv

theorem desig_list {H : Type} {enc : TypeId × Value → H} {w : World} {base : Nat} {spare : Nat → Bool} {held : Bool} {x : Option Addr} {len cap : Nat} {d : DataW H} {p : List MemPlace}
    (h : DataW.Trod enc Tryd.prog w base spare held 24 (.slice x len cap) d p) :
    len ≤ 9223372036854775807 ∧ (len = 0 ∨ ∃ b off L, x = some ⟨b, off, none⟩ ∧ Lst w b off len L) := by
  obtain ⟨fuel, hf⟩ := h
  rcases open_slice Tryd.underlying24 hf with ⟨hc, _⟩ | ⟨a, ln, cp, m, n, D, Pl, hcs, hb, hl, hmx, hmm, hx, hi⟩
  · have := one_of hc
    cases this
    exact ⟨by omega, Or.inl rfl⟩
  · have := one_of hcs
    cases this
    refine ⟨by unfold maxLen at hmx; omega, ?_⟩
    by_cases h0 : len = 0
    · exact Or.inl h0
    · right
      have hml : len ≤ m := by rw [hmm]; split <;> omega
      obtain ⟨b, off, spot⟩ := a
      obtain ⟨cs0, hc0, ht0⟩ := hi 0 (by omega)
      obtain ⟨n0, hf0⟩ := elem_fields Tryd.underlying23 (by kernel_rfl) (by kernel_rfl) hc0 ht0
      obtain ⟨v0, y0, k0, _⟩ := hf0 0 _ rfl
      have k0' : w.cell? ⟨b, off, spot⟩ = some v0 := by simpa [Addr.add] using k0
      obtain ⟨hlt, hsp⟩ := block_lt k0'
      obtain rfl : spot = none := hsp
      have hc5 : Tryd.prog.cellsOf 23 = 5 := by kernel_rfl
      have key : ∀ k, ∃ r : Int × Int × Int × Int × Int, k < len → (0 ≤ r.2.2.1 ∧ r.2.2.1 < 256) ∧ (0 ≤ r.2.2.2.1 ∧ r.2.2.2.1 < 256) ∧ w.rangeAt b (off + k * 5) (desigC r.1 r.2.1 r.2.2.1 r.2.2.2.1 r.2.2.2.2) := fun k => by
        by_cases hk : k < len
        · obtain ⟨cs', hc', ht'⟩ := hi k (by omega)
          have hc'' := hc'
          rw [add_none] at hc''
          obtain ⟨r, hr⟩ := desig_elem hc'' ht'
          rw [hc5] at hr
          exact ⟨r, fun _ => hr⟩
        · exact ⟨(0, 0, 0, 0, 0), fun g => absurd g hk⟩
      obtain ⟨R, hR⟩ := Classical.axiomOfChoice key
      exact ⟨b, off, ⟨fun k => (R k).1, fun k => (R k).2.1, fun k => (R k).2.2.1, fun k => (R k).2.2.2.1, fun k => (R k).2.2.2.2⟩, rfl, fun k hk => (hR k hk).2.2, hlt, fun k hk => (hR k hk).1.1, fun k hk => (hR k hk).1.2, fun k hk => (hR k hk).2.1.1, fun k hk => (hR k hk).2.1.2⟩
end Dw
end Go.Proofs.YtdjndoafnoidbaaDoor
