/-
  Lemmas and walks, texts joined: WSub, WStep, WDiv0, WDiv2, WAdd, WAdd2, WGcd, WDM, FReduce, FMake, MJd, RTrim, RMade, RFrom, RTimes, RMul, RCmp, RPlus, RMinus, RPlusZ, RSumZ, RLeft, RShort.
-/
import Derived.Laws.CopyOwn
import Derived.Deep.RegionHeld3
import Derived.Recover
import Derived.Defers
import Derived.Laws.AppendOwnNone
import Derived.Test.YtjgcbeihgeaimaaGreatDoorTa05
import Derived.Test.YtjgcbeihgeaimaaGreatDoorTa06
set_option linter.unusedSimpArgs false
set_option linter.unusedVariables false
/-
  The walk of subtract of package wide.
-/
namespace Go.Proofs.YtjgcbeihgeaimaaGreatDoor
namespace Wd
open Go.RowKit Lw

theorem Lim.grown {A B : World} {a : Option Addr} {n cap : Nat} {l : List Nat} {g : Nat} (h : Lim A a n cap l) (hg : A.grownBy B (some g)) (hne : ∀ b off, a = some ⟨b, off, none⟩ → b ≠ g) : Lim B a n cap l :=
  ⟨h.len, h.lb, h.cp, h.sm, fun p => by
    obtain ⟨b, off, e, lt, r⟩ := h.row p
    exact ⟨b, off, e, Nat.lt_of_lt_of_le lt hg.size, fun j v hv => hg.cell (r j v hv) (by have := hne b off e; simpa using this)⟩⟩
end Wd
end Go.Proofs.YtjgcbeihgeaimaaGreatDoor
/-
  The walk of step of package wide: one limb of a quotient.
-/
namespace Go.Proofs.YtjgcbeihgeaimaaGreatDoor
namespace Wd
open Go.RowKit Lw

theorem us_len (L : List Nat) : (us L).length = L.length := by simp [us]
theorem us_one (L : List Nat) : ∀ v ∈ us L, v.oneCell' = true := fun u hu => by obtain ⟨x, _, rfl⟩ := List.mem_map.1 hu; rfl
theorem below_grown {w w' : World} (h : Below w.heap.size w w') (row : Option Nat) : w.grownBy w' row := ⟨h.os, h.tape, h.output, h.size, fun k hk _ => h.block k hk⟩
/-- What step does: one limb of the quotient; the rest in the window. -/
structure StepPost (w : World) (g j n : Nat) (F v : List Nat) (e : Ending) (w' : World) : Prop where
  e : e = .returned (.int .u32 ((val (win F j n) / val v : Nat) : Int))
  r : ∃ r, r.length = n + 1 ∧ Lb r ∧ val r = val (win F j n) % val v ∧ Row w' g (put F j n r)
  g : w.grownBy w' (some g)
end Wd
end Go.Proofs.YtjgcbeihgeaimaaGreatDoor
/-
  What divide of package wide needs; its quick ways.
-/
namespace Go.Proofs.YtjgcbeihgeaimaaGreatDoor
namespace Wd
open Go.RowKit Lw

theorem win_run (g n cap j k : Nat) (h : j + k ≤ cap) (hk : 0 < k) (w : World) :
    (Instr.slice 91 (.slice (some ⟨g, 0, none⟩) n cap) (some (.int .i64 (j : Int))) (some (.int .i64 ((j : Int) + (k : Int)))) none).run Tryz.prog w = .ok (.slice (some ⟨g, j, none⟩) k (cap - j)) w := by
  rw [run_slice_lh w _ (some ⟨g, 0, none⟩) n cap el_us .i64 .i64 (j : Int) ((j : Int) + (k : Int)) (by omega) (by omega) (by omega), sz_us]
  have e1 : ((j : Int) + (k : Int)).toNat = j + k := by omega
  have e : sliced (some ⟨g, 0, none⟩) j (j + k) cap 1 = .slice (some ⟨g, j, none⟩) k (cap - j) := by
    unfold sliced
    have e2 : j + k - j = k := by omega
    have e3 : (⟨g, 0, none⟩ : Addr).add j = ⟨g, j, none⟩ := by simp [Addr.add]; omega
    rw [e2, if_neg (by omega), Option.map_some, Nat.mul_one, e3]
  simp only [Result.andThen, Int.toNat_natCast, e1, e]
end Wd
end Go.Proofs.YtjgcbeihgeaimaaGreatDoor
/-
  The long way of divide of package wide.
-/
namespace Go.Proofs.YtjgcbeihgeaimaaGreatDoor
namespace Wd
open Go.RowKit Lw

theorem Arr.grown {w w' : World} {g : Nat} {L : List Nat} {row : Option Nat} (h : Arr w g L) (hg : w.grownBy w' row) (hne : some g ≠ row) : Arr w' g L := by
  unfold Arr at h ⊢
  exact (hg.block g (lt_of_block h) hne).trans h
end Wd
end Go.Proofs.YtjgcbeihgeaimaaGreatDoor
/-
  The walks of add and Add of package wide.
-/
namespace Go.Proofs.YtjgcbeihgeaimaaGreatDoor
namespace Wd
open Go.RowKit Lw

theorem add_same {z1 z2 : Int} (h : decide (z1 < 0) = decide (z2 < 0)) : (z1 + z2).natAbs = z1.natAbs + z2.natAbs ∧ sgn (decide (z1 < 0)) (z1 + z2).natAbs = z1 + z2 := by
  by_cases h1 : z1 < 0
  · have h2 : z2 < 0 := by rw [decide_eq_true h1] at h; exact of_decide_eq_true h.symm
    simp only [h1, decide_true, sgn, if_true]; omega
  · have h2 : ¬ z2 < 0 := by rw [decide_eq_false h1] at h; exact of_decide_eq_false h.symm
    simp only [h1, decide_false, sgn, if_false, Bool.false_eq_true]; omega
theorem add_diff {z1 z2 : Int} (h : ¬ decide (z1 < 0) = decide (z2 < 0)) (hle : z2.natAbs ≤ z1.natAbs) : (z1 + z2).natAbs = z1.natAbs - z2.natAbs ∧ sgn (decide (z1 < 0)) (z1 + z2).natAbs = z1 + z2 := by
  by_cases h1 : z1 < 0 <;> by_cases h2 : z2 < 0
  · simp [h1, h2] at h
  · simp only [h1, decide_true, sgn, if_true]; omega
  · simp only [h1, decide_false, sgn, if_false, Bool.false_eq_true]; omega
  · simp [h1, h2] at h
theorem canon_mono {A B : Nat} (h : A ≤ B) : (canon A).length ≤ (canon B).length := by
  rcases Nat.lt_or_ge (canon B).length (canon A).length with g | g
  · have := canon_lt_of_len g; omega
  · exact g
end Wd
end Go.Proofs.YtjgcbeihgeaimaaGreatDoor
/-
  The walk of Add of package wide.
-/
namespace Go.Proofs.YtjgcbeihgeaimaaGreatDoor
namespace Wd
open Go.RowKit Lw

theorem num_fin2 {w w' : World} {x y : Bool} {u v : Value} {a : Option Addr} {k cap : Nat} {z : Int} (h : BX w x y u v w') (hM : Lim w' a k cap (canon z.natAbs)) (hg : ∀ b off, a = some ⟨b, off, none⟩ → w.heap.size + 3 ≤ b) :
    World.rangeAt (w'.setCells (w.heap.size + 2) 0 [.bool (decide (z < 0)), .slice a k cap]) (w.heap.size + 2) 0 [.bool (decide (z < 0)), .slice a k cap] ∧
    NumPost w z (.returned (.tuple #[.agg #[.bool (decide (z < 0)), .slice a k cap], .int .i64 0])) (w'.setCells (w.heap.size + 2) 0 [.bool (decide (z < 0)), .slice a k cap]) :=
  ⟨World.rangeAt_setCells_same _ _ _ _ h.th, _, rfl, ⟨_, k, cap, rfl, hM.setCells (fun b off e => by have := hg b off e; omega) _ _, fun b off e => by have := hg b off e; omega⟩, below_setCells _ (by omega) _ _ _ h.below⟩
end Wd
end Go.Proofs.YtjgcbeihgeaimaaGreatDoor
/-
  The walk of Gcd of package wide, of numbers above zero.
-/
namespace Go.Proofs.YtjgcbeihgeaimaaGreatDoor
namespace Wd
open Go.RowKit Lw

/-- The number in a slice, read off the memory. -/
def rdv (w : World) : Value → Nat
  | .slice (some a) n _ => val ((List.range n).map fun k => match w.cell? ⟨a.block, a.off + k, none⟩ with | some (.int _ x) => x.toNat | _ => 0)
  | _ => 0
theorem rdv_lim {w : World} {a : Option Addr} {n cap : Nat} {l : List Nat} (h : Lim w a n cap l) : rdv w (.slice a n cap) = val l := by
  have hl := h.len
  cases a with
  | none =>
    have : n = 0 := by
      rcases Nat.eq_zero_or_pos n with g | g
      · exact g
      · obtain ⟨_, _, e, _⟩ := h.row g; cases e
    subst this
    rw [List.length_eq_zero_iff.1 hl]; rfl
  | some a =>
    show val _ = val l
    congr 1
    apply List.ext_getElem
    · simp [hl]
    · intro i h1 h2
      obtain ⟨b, off, e, _, _⟩ := h.row (by omega)
      cases e
      rw [List.getElem_map, List.getElem_range]
      simp only [h.cell h2, Int.toNat_natCast]
theorem gcd_step (P Q : Nat) : Nat.gcd Q (P % Q) = Nat.gcd P Q := by rw [Nat.gcd_comm Q, ← Nat.gcd_rec, Nat.gcd_comm]
end Wd
end Go.Proofs.YtjgcbeihgeaimaaGreatDoor
/-
  The walk of DivMod of package wide, of numbers above zero.
-/
namespace Go.Proofs.YtjgcbeihgeaimaaGreatDoor
namespace Wd
open Go.RowKit Lw

section
variable {P : Program}
theorem ret_cell2_tmp {fn : Func} {p q u : Tmp} {ty : TypeId} (h : fn.results = #[.cell p ty, .cell q ty, .tmp u]) (tmps : Array Value) (w : World) (b c : Nat) (cs ds : List Value) (d : TypeDesc)
    (hp : tmps.getD p undef = .pointer (some ⟨b, 0, none⟩)) (hq : tmps.getD q undef = .pointer (some ⟨c, 0, none⟩)) (hr : w.rangeAt b 0 cs) (hs : w.rangeAt c 0 ds) (hu : P.underlying ty = some d) (hd : d.isRow = true) (hi : (P.info? ty).map (·.size) = some cs.length) (hj : (P.info? ty).map (·.size) = some ds.length) :
    (results fn tmps).run P w = .ok (.tuple #[.agg cs.toArray, .agg ds.toArray, tmps.getD u undef]) w := by
  have hp' : tmps[p]?.getD undef = .pointer (some ⟨b, 0, none⟩) := by simpa using hp
  have hq' : tmps[q]?.getD undef = .pointer (some ⟨c, 0, none⟩) := by simpa using hq
  simp [results, h, hp', hq', asAddr, run_loadVar_mid w b 0 ty cs d hr hu hd hi, run_loadVar_mid w c 0 ty ds d hs hu hd hj, Result.andThen]
end
theorem cell_same_set {w : World} {p : Addr} {v : Value} (h : w.cell? p = some v) (q : Addr) : (w.setCell p v).cell? q = w.cell? q := by
  by_cases e : q = p
  · subst e
    rw [World.cell?_setCell_same' w q v (by rw [h]; rfl), h]
  · exact World.cell?_setCell_other _ _ _ _ (Ne.symm e)
/-- Two whole numbers in boxes and two cells for results. -/
structure BY (w0 : World) (u v : Value) (w : World) : Prop where
  bx : BX w0 false false u v w
  size : w0.heap.size + 4 ≤ w.heap.size
  th2 : w.there (w0.heap.size + 3) 0 2
theorem BY.call {w0 w w' : World} {u v : Value} (h : BY w0 u v w) (hb : Below w.heap.size w w') : BY w0 u v w' := by
  have := h.size
  have := hb.size
  exact ⟨h.bx.call hb, by omega, there_below h.th2 hb (by omega)⟩
theorem BY.new (w0 : World) (u v : Value) : BY w0 u v ((((w0.alloc (.cells #[.bool false, u] 93)).alloc (.cells #[.bool false, v] 93)).alloc (.cells #[.bool false, .slice none 0 0] 93)).alloc (.cells #[.bool false, .slice none 0 0] 93)) := by
  have h := (BX.new w0 false false u v).call ((Below.refl _ _).alloc (Nat.le_refl _) (.cells #[.bool false, .slice none 0 0] 93))
  have t := there_new (((w0.alloc (.cells #[.bool false, u] 93)).alloc (.cells #[.bool false, v] 93)).alloc (.cells #[.bool false, .slice none 0 0] 93)) #[.bool false, .slice none 0 0] 93 2 (by simp)
  simp only [World.size_alloc] at t
  exact ⟨h, by simp, t⟩
structure DE (w0 : World) (aq ar : Option Addr) (kq cq kr cr Q R : Nat) (w : World) : Prop where
  below : Below w0.heap.size w0 w
  lq : Lim w aq kq cq (canon Q)
  lr : Lim w ar kr cr (canon R)
  fq : ∀ b off, aq = some ⟨b, off, none⟩ → w0.heap.size + 4 ≤ b
  fr : ∀ b off, ar = some ⟨b, off, none⟩ → w0.heap.size + 4 ≤ b
theorem DE.set {w0 w : World} {aq ar : Option Addr} {kq cq kr cr Q R : Nat} (h : DE w0 aq ar kq cq kr cr Q R w) {b : Nat} (h1 : w0.heap.size ≤ b) (h2 : b < w0.heap.size + 4) (o : Nat) (v : Value) : DE w0 aq ar kq cq kr cr Q R (w.setCell ⟨b, o, none⟩ v) :=
  ⟨h.below.setCell (p := ⟨b, o, none⟩) h1 _, h.lq.grown (grownBy_set2 _ _ _ _) (fun b' off e => by have := h.fq b' off e; omega), h.lr.grown (grownBy_set2 _ _ _ _) (fun b' off e => by have := h.fr b' off e; omega), h.fq, h.fr⟩
theorem DE.call {w0 w w' : World} {aq ar : Option Addr} {kq cq kr cr Q R : Nat} (h : DE w0 aq ar kq cq kr cr Q R w) (hb : Below w.heap.size w w') : DE w0 aq ar kq cq kr cr Q R w' :=
  ⟨below_then h.below hb, h.lq.below hb, h.lr.below hb, h.fq, h.fr⟩
abbrev DS (s : Nat) (vq vr : Value) (E : World → Prop) (w' : World) : Prop :=
  w'.cell? ⟨s + 1 + 1, 0, none⟩ = some (.bool false) ∧ w'.cell? ⟨s + 1 + 1, 1, none⟩ = some vq ∧ w'.cell? ⟨s + 1 + 1 + 1, 0, none⟩ = some (.bool false) ∧ w'.cell? ⟨s + 1 + 1 + 1, 1, none⟩ = some vr ∧
    w'.frozen? ⟨s + 1 + 1, 0, none⟩ = false ∧ w'.frozen? ⟨s + 1 + 1, 1, none⟩ = false ∧ w'.frozen? ⟨s + 1 + 1 + 1, 0, none⟩ = false ∧ w'.frozen? ⟨s + 1 + 1 + 1, 1, none⟩ = false ∧ E w'
theorem DS.st {s : Nat} {vq vr : Value} {E : World → Prop} {w' : World} (h : DS s vq vr E w') {p : Addr} {v : Value} (hp : w'.cell? p = some v) (hE : E (w'.setCell p v)) : DS s vq vr E (w'.setCell p v) := by
  obtain ⟨h1, h2, h3, h4, h5, h6, h7, h8, _⟩ := h
  exact ⟨(cell_same_set hp _).trans h1, (cell_same_set hp _).trans h2, (cell_same_set hp _).trans h3, (cell_same_set hp _).trans h4, by rw [World.frozen?_setCell]; exact h5, by rw [World.frozen?_setCell]; exact h6, by rw [World.frozen?_setCell]; exact h7, by rw [World.frozen?_setCell]; exact h8, hE⟩
theorem DS.dr {w w' : World} {vq vr : Value} {aq ar : Option Addr} {kq cq kr cr Q R : Nat} (h : DS w.heap.size vq vr (DE w aq ar kq cq kr cr Q R) w') : DS w.heap.size vq vr (DE w aq ar kq cq kr cr Q R) w'.drew :=
  ⟨h.1, h.2.1, h.2.2.1, h.2.2.2.1, h.2.2.2.2.1, h.2.2.2.2.2.1, h.2.2.2.2.2.2.1, h.2.2.2.2.2.2.2.1, h.2.2.2.2.2.2.2.2.call (Below.refl _ _).drew⟩
theorem range2 {w : World} {b : Nat} {x y : Value} (h0 : w.cell? ⟨b, 0, none⟩ = some x) (h1 : w.cell? ⟨b, 1, none⟩ = some y) : w.rangeAt b 0 [x, y] := fun j v hj => by
  match j, hj with
  | 0, hj => simp at hj; subst hj; exact h0
  | 1, hj => simp at hj; subst hj; exact h1
def DMPost (w : World) (q r : Int) (e : Ending) (w' : World) : Prop := ∃ V1 V2, e = .returned (.tuple #[V1, V2, .int .i64 0]) ∧ Wide w.heap.size w' V1 q ∧ Wide w.heap.size w' V2 r ∧ Below w.heap.size w w'
theorem DE.post {w0 w : World} {aq ar : Option Addr} {kq cq kr cr Q R : Nat} (h : DE w0 aq ar kq cq kr cr Q R w) : DMPost w0 (Q : Int) (R : Int) (.returned (.tuple #[.agg #[.bool false, .slice aq kq cq], .agg #[.bool false, .slice ar kr cr], .int .i64 0])) w :=
  ⟨_, _, rfl, ⟨aq, kq, cq, by rw [decide_eq_false (by omega)], by rw [Int.natAbs_natCast]; exact h.lq, fun b off e => by have := h.fq b off e; omega⟩,
    ⟨ar, kr, cr, by rw [decide_eq_false (by omega)], by rw [Int.natAbs_natCast]; exact h.lr, fun b off e => by have := h.fr b off e; omega⟩, h.below⟩
end Wd
end Go.Proofs.YtjgcbeihgeaimaaGreatDoor
/-
  The walk of reduce of package frac, of numbers above zero.
-/
namespace Go.Proofs.YtjgcbeihgeaimaaGreatDoor
namespace Wd
open Go.RowKit Lw

theorem infoF : (Tryz.prog.info? 95).map (·.size) = some 4 := by kernel_rfl
/-- The value of a fraction above zero, whose limbs lie at or behind block B. -/
def FracV (B : Nat) (w : World) (V : Value) (p q : Nat) : Prop := ∃ a k c a' k' c', V = .agg #[.bool false, .slice a k c, .bool false, .slice a' k' c'] ∧ Lim w a k c (canon p) ∧ Lim w a' k' c' (canon q) ∧ (∀ b off, a = some ⟨b, off, none⟩ → B ≤ b) ∧ (∀ b off, a' = some ⟨b, off, none⟩ → B ≤ b)
structure RX (w0 : World) (u v : Value) (w : World) : Prop where
  below : Below w0.heap.size w0 w
  size : w0.heap.size + 3 ≤ w.heap.size
  x0 : w.cell? ⟨w0.heap.size, 0, none⟩ = some (.bool false)
  x1 : w.cell? ⟨w0.heap.size, 1, none⟩ = some u
  y0 : w.cell? ⟨w0.heap.size + 1, 0, none⟩ = some (.bool false)
  y1 : w.cell? ⟨w0.heap.size + 1, 1, none⟩ = some v
  th : w.there (w0.heap.size + 2) 0 4
theorem RX.call {w0 w w' : World} {u v : Value} (h : RX w0 u v w) (hb : Below w.heap.size w w') : RX w0 u v w' := by
  have hs := h.size
  have := hb.size
  have q0 : w0.heap.size < w.heap.size := by omega
  have q1 : w0.heap.size + 1 < w.heap.size := by omega
  exact ⟨below_then h.below hb, by omega, (hb.cell (p := ⟨_, 0, none⟩) q0).trans h.x0, (hb.cell (p := ⟨_, 1, none⟩) q0).trans h.x1, (hb.cell (p := ⟨_, 0, none⟩) q1).trans h.y0, (hb.cell (p := ⟨_, 1, none⟩) q1).trans h.y1, there_below h.th hb (by omega)⟩
theorem RX.new (w0 : World) (u v : Value) : RX w0 u v (((w0.alloc (.cells #[.bool false, u] 93)).alloc (.cells #[.bool false, v] 93)).alloc (.cells #[.bool false, .slice none 0 0, .bool false, .slice none 0 0] 95)) := by
  have h1 := (Below.refl w0.heap.size w0).alloc (Nat.le_refl _) (.cells #[.bool false, u] 93)
  have h2 := h1.alloc h1.size (.cells #[.bool false, v] 93)
  have h3 := h2.alloc h2.size (.cells #[.bool false, .slice none 0 0, .bool false, .slice none 0 0] 95)
  have r1 := rangeAt_new w0 [.bool false, u] 93
  have r2 := rangeAt_new (w0.alloc (.cells #[.bool false, u] 93)) [.bool false, v] 93
  have b2 := (Below.refl _ (w0.alloc (.cells #[.bool false, u] 93))).alloc (Nat.le_refl _) (.cells #[.bool false, v] 93)
  have b3 := (Below.refl _ ((w0.alloc (.cells #[.bool false, u] 93)).alloc (.cells #[.bool false, v] 93))).alloc (Nat.le_refl _) (.cells #[.bool false, .slice none 0 0, .bool false, .slice none 0 0] 95)
  have r1' := rangeAt_below (rangeAt_below r1 b2 (by simp)) b3 (by simp; omega)
  have r2' := rangeAt_below r2 b3 (by simp)
  have t := there_new ((w0.alloc (.cells #[.bool false, u] 93)).alloc (.cells #[.bool false, v] 93)) #[.bool false, .slice none 0 0, .bool false, .slice none 0 0] 95 4 (by simp)
  simp only [World.size_alloc] at r2' t
  exact ⟨h3, by simp, r1' 0 _ rfl, r1' 1 _ rfl, r2' 0 _ rfl, r2' 1 _ rfl, t⟩
theorem wideN {B : Nat} {w : World} {a : Option Addr} {k c p : Nat} (h : Lim w a k c (canon p)) (hg : ∀ b off, a = some ⟨b, off, none⟩ → B ≤ b) : Wide B w (.agg #[.bool false, .slice a k c]) (p : Int) :=
  ⟨a, k, c, by rw [decide_eq_false (by omega)], by rw [Int.natAbs_natCast]; exact h, hg⟩
theorem wideN_inv {B : Nat} {w : World} {V : Value} {p : Nat} (h : Wide B w V (p : Int)) : ∃ a k c, V = .agg #[.bool false, .slice a k c] ∧ Lim w a k c (canon p) ∧ ∀ b off, a = some ⟨b, off, none⟩ → B ≤ b := by
  obtain ⟨a, k, c, rfl, hL, hg⟩ := h
  rw [Int.natAbs_natCast] at hL
  exact ⟨a, k, c, by rw [decide_eq_false (by omega)], hL, hg⟩
end Wd
end Go.Proofs.YtjgcbeihgeaimaaGreatDoor
/-
  The walks of catch (where nothing falls) and Make of package frac.
-/
namespace Go.Proofs.YtjgcbeihgeaimaaGreatDoor
namespace Wd
open Go.RowKit Lw

section
variable {P : Program}
end
/-- The boxes of Make, and its error. -/
structure MX (w0 : World) (u v : Value) (w : World) : Prop where
  rx : RX w0 u v w
  e : w.heap[w0.heap.size + 3]? = some (.cells #[.int .i64 0] 27 (0, 0))
theorem MX.call {w0 w w' : World} {u v : Value} (h : MX w0 u v w) (hb : Below w.heap.size w w') : MX w0 u v w' :=
  ⟨h.rx.call hb, (hb.block _ (lt_of_block h.e)).trans h.e⟩
theorem MX.new (w0 : World) (u v : Value) : MX w0 u v ((((w0.alloc (.cells #[.bool false, u] 93)).alloc (.cells #[.bool false, v] 93)).alloc (.cells #[.bool false, .slice none 0 0, .bool false, .slice none 0 0] 95)).alloc (.cells #[.int .i64 0] 27)) := by
  refine ⟨(RX.new w0 u v).call ((Below.refl _ _).alloc (Nat.le_refl _) _), ?_⟩
  have := heap_alloc_new (((w0.alloc (.cells #[.bool false, u] 93)).alloc (.cells #[.bool false, v] 93)).alloc (.cells #[.bool false, .slice none 0 0, .bool false, .slice none 0 0] 95)) (.cells #[.int .i64 0] 27)
  simp only [World.size_alloc] at this
  exact this
end Wd
end Go.Proofs.YtjgcbeihgeaimaaGreatDoor
/-
  The walk of Jd of package moment.
-/
namespace Go.Proofs.YtjgcbeihgeaimaaGreatDoor
namespace Wd
open Go.RowKit Lw

structure JX (w0 : World) (w : World) : Prop where
  below : Below w0.heap.size w0 w
  th : w.there w0.heap.size 0 4
theorem JX.call {w0 w w' : World} (h : JX w0 w) (hb : Below w.heap.size w w') (hs : w0.heap.size + 1 ≤ w.heap.size) : JX w0 w' := ⟨below_then h.below hb, there_below h.th hb (by omega)⟩
end Wd
end Go.Proofs.YtjgcbeihgeaimaaGreatDoor
/-
  The reference's whole numbers: trim.
-/
namespace Go.Proofs.YtjgcbeihgeaimaaGreatDoor
namespace Wd
open Go.RowKit Lw

/-- What a call returns as a row of its own: never nil. -/
def RowPost (w : World) (L : List Nat) (e : Ending) (w' : World) : Prop :=
  ∃ g cp, e = .returned (.slice (some ⟨g, 0, none⟩) L.length cp) ∧ OwnL w' w.heap.size (.slice (some ⟨g, 0, none⟩) L.length cp) L ∧ Lim w' (some ⟨g, 0, none⟩) L.length cp L ∧ w.heap.size ≤ g ∧ g < w'.heap.size ∧ Below w.heap.size w w'
theorem RowPost.of {w w' : World} {V : Value} {L : List Nat} (h : OwnL w' w.heap.size V L) (hne : V ≠ .slice none 0 0) (hl : Lb L) (hs : L.length ≤ 1000000) (hb : Below w.heap.size w w') : RowPost w L (.returned V) w' := by
  rcases h.2 with ⟨h0, -⟩ | ⟨g, cap, cur, rfl, hg, hh, h1, h2, h3, h4⟩
  · exact absurd h0 hne
  · exact ⟨g, cap, rfl, h, Row.lim0 ⟨cur, hh, by simpa using h4⟩ hl h1 hs, hg, lt_of_block hh, hb⟩
set_option maxRecDepth 100000 in
set_option maxHeartbeats 1000000 in
theorem rtrim_row (l : List Nat) (b off : Nat) (n cap : Nat) (w : World) (hL : Lim w (some ⟨b, off, none⟩) n cap l) (hb : b < w.heap.size) :
    Calls Tryz.prog 124 #[.slice (some ⟨b, off, none⟩) n cap] w (RowPost w (canon (val l))) := by
  obtain ⟨i0', hi, hzz⟩ := Option.map_eq_some_iff.1 info4
  simp only [Prod.mk.injEq] at hzz
  obtain ⟨hz0, hz1, hz2⟩ := hzz
  have HL := Lib.hid hL
  have hlen := hL.len
  have hcp := hL.cp
  have hsm := hL.sm
  clear hL
  go_enter Tryz.func124, Tryz.ntmps124
  go_wp2
  go_loopw [3] (fun i wr => ∃ k : Nat, k ≤ n ∧ i = .int .i64 k ∧ wr = w ∧ ∀ j (h : j < l.length), k ≤ j → l[j] = 0) (fun i _ => (intOf i).toNat)
  case atStart => exact ⟨n, Nat.le_refl _, rfl, rfl, fun j h g => by omega⟩
  case round =>
    obtain ⟨k, hk, rfl, rfl, hz⟩ := hrel
    have ht := take_run (some ⟨b, off, none⟩) n cap k (by omega)
    have fin : (k = 0 ∨ ∃ h : k - 1 < l.length, l[k - 1] ≠ 0) → Lim wr (some ⟨b, off, none⟩) k cap (canon (val l)) := fun g => by
      rw [← cut_canon HL.out.lb (by omega) hz g]
      exact HL.out.take hk
    by_cases kz : ∃ h : 0 < k, l[k - 1]'(by omega) = 0
    · obtain ⟨k0, kz⟩ := kz
      have hz' : ∀ j (h : j < l.length), k - 1 ≤ j → l[j] = 0 := fun j h g => by
        by_cases e : j = k - 1
        · subst e; exact kz
        · exact hz j h (by omega)
      have Hz := Lib.hid hz'
      have ce := HL.out.cell (k := k - 1) (by omega)
      rw [kz] at ce
      have e1 : IntKind.i64.wrap ((k : Int) - 1) = ((k - 1 : Nat) : Int) := by rw [IntWalk.i64_in _ (by omega)]; omega
      have k1 : (0 : Int) < (k : Int) := by omega
      have k2 : ((k - 1 : Nat) : Int) < (n : Int) := by omega
      clear hz hz' kz fin ht
      go_wp2
      go_roundw
      case rel => exact ⟨k - 1, by omega, by first | rfl | trivial, by first | rfl | trivial, Hz.out⟩
      case measure => simp [intOf]; omega
    · have hl := fin (by
        rcases Nat.eq_zero_or_pos k with h | h
        · exact Or.inl h
        · exact Or.inr ⟨by omega, fun e => kz ⟨h, e⟩⟩)
      have hkl := hl.len
      have HO := World.ownsRow_made wr #[] 0 (base := wr.heap.size) (e := 119) (size := 1) (Nat.le_refl _) (by unfold maxLen; omega) rfl
      have hB := (Below.refl wr.heap.size wr).alloc (Nat.le_refl _) (.cells #[] 119)
      have hsrc : ∀ j u, (us (canon (val l)))[j]? = some u → (wr.alloc (.cells #[] 119)).cell? ((⟨b, off, none⟩ : Addr).add j) = some u := fun j u hu => by
        have hj : j < (canon (val l)).length := by have := (List.getElem?_eq_some_iff.1 hu).1; simpa [us] using this
        have e : (⟨b, off, none⟩ : Addr).add j = ⟨b, off + j, none⟩ := by simp [Addr.add]
        rw [e, hB.cell (p := ⟨b, off + j, none⟩) hb, hl.cell hj]
        simpa [us, hj] using hu
      have HB := Lib.hid hB
      have HSrc := Lib.hid hsrc
      have HO := Lib.hid HO
      clear hz fin hB hsrc
      by_cases k0 : k = 0
      · subst k0
        go_wp2_with (at_builtin; refine wpList_append_own _ rfl (.tmp 18) (.tmp 21) 91 rfl wr.heap.size 119 i0' (.int .u32 0) 1 4 Tryz.underlying91 hi hz0 hz1 hz2 rfl (by decide) _ _ _ rfl HO.out ⟨b, off, none⟩ _ _ (us (canon (val l))) rfl (by rw [us_len, hkl, Nat.mul_one]) HSrc.out (us_one _) (by unfold maxLen; omega) (by omega) (by simp) ?_)
        intro v' w1 hown' hgrow hnn
        have hne : v' ≠ .slice none 0 0 := hnn
        have hB1 := HB.out.grown hgrow (by simp) (fun k e => (HO.out.lt k e).1)
        have hO1 : OwnL w1 wr.heap.size v' (canon (val l)) := by
          show w1.ownsRow _ _ 1 v' (canon (val l)).length (us (canon (val l)))
          rw [hkl]
          simpa using hown'
        have Fin := Lib.hid (RowPost.of hO1 hne (lb_canon (val l)) (by omega) hB1)
        clear hown' hgrow hB1 hO1 hne hnn
        go_wp2
        refine bodyPost_ret (results_tmp rfl _ _ _) rfl ?_
        exact Fin.out
      · have kz' : ¬ ((l[k - 1]'(by omega) : Nat) : Int) = 0 := fun e => kz ⟨by omega, by omega⟩
        have ce := HL.out.cell (k := k - 1) (by omega)
        have e1 : IntKind.i64.wrap ((k : Int) - 1) = ((k - 1 : Nat) : Int) := by rw [IntWalk.i64_in _ (by omega)]; omega
        have k1 : (0 : Int) < (k : Int) := by omega
        have k2 : ((k - 1 : Nat) : Int) < (n : Int) := by omega
        clear kz
        go_wp2_with (at_builtin; refine wpList_append_own _ rfl (.tmp 18) (.tmp 21) 91 rfl wr.heap.size 119 i0' (.int .u32 0) 1 4 Tryz.underlying91 hi hz0 hz1 hz2 rfl (by decide) _ _ _ rfl HO.out ⟨b, off, none⟩ _ _ (us (canon (val l))) rfl (by rw [us_len, hkl, Nat.mul_one]) HSrc.out (us_one _) (by unfold maxLen; omega) (by omega) (by simp) ?_)
        intro v' w1 hown' hgrow hnn
        have hne : v' ≠ .slice none 0 0 := hnn
        have hB1 := HB.out.grown hgrow (by simp) (fun k e => (HO.out.lt k e).1)
        have hO1 : OwnL w1 wr.heap.size v' (canon (val l)) := by
          show w1.ownsRow _ _ 1 v' (canon (val l)).length (us (canon (val l)))
          rw [hkl]
          simpa using hown'
        have Fin := Lib.hid (RowPost.of hO1 hne (lb_canon (val l)) (by omega) hB1)
        clear hown' hgrow hB1 hO1 hne hnn
        go_wp2
        refine bodyPost_ret (results_tmp rfl _ _ _) rfl ?_
        exact Fin.out
theorem rtrim_walk (l : List Nat) (b off : Nat) (n cap : Nat) (w : World) (hL : Lim w (some ⟨b, off, none⟩) n cap l) (hb : b < w.heap.size) :
    Calls Tryz.prog 124 #[.slice (some ⟨b, off, none⟩) n cap] w fun e w' => ∃ V, e = .returned V ∧ OwnL w' w.heap.size V (canon (val l)) ∧ Below w.heap.size w w' :=
  (rtrim_row l b off n cap w hL hb).mono fun e w' ⟨g, cp, h1, h2, _, _, _, h3⟩ => ⟨_, h1, h2, h3⟩
theorem run_app_none {P : Program} {w : World} (base : Nat) (t ty e : TypeId) (i : TypeInfo) (size : Nat) (ht : P.underlying t = some (.slice e)) (hi : P.info? e = some i)
    (v : Value) (n : Nat) (xs : List Value) (hown : w.ownsRow base e size v n xs) (c : Nat) : (Builtin.append_ #[t, t] ty #[v, .slice none 0 c]).run P w = .ok v w := by
  rcases hown.2 with ⟨rfl, rfl⟩ | ⟨g, cap, cur, rfl, _, _, hnc, _⟩
  · simp [Builtin.append_, run_underlying ht, sizeOf, typeInfo, hi, Builtin.lenOf, Builtin.firstCells]
  · simp [Builtin.append_, run_underlying ht, sizeOf, typeInfo, hi, Builtin.lenOf, Builtin.firstCells, hnc, storeCells]
theorem wp_app_none {P : Program} {w : World} {ops : Array Oper} {rest : List Oper} {o : Oper} {a : Act} {Q : Exit → Act → World → Prop} (hgd : o.guard = none) (s x : Operand) (t : TypeId)
    (ho : o.op = .call { callee := .builtin .append, args := #[s, x], argTypes := #[t, t] })
    (base : Nat) (e : TypeId) (i : TypeInfo) (size : Nat) (ht : P.underlying t = some (.slice e)) (hi : P.info? e = some i)
    (v : Value) (n : Nat) (xs : List Value) (hs : a.eval s = v) (hown : w.ownsRow base e size v n xs) (c : Nat) (hx : a.eval x = .slice none 0 c)
    (h : wpList P ops Q rest (a.put o.dst v) w) : wpList P ops Q (o :: rest) a w := by
  refine wpList_plain hgd fun K hK => ?_
  have hrun := run_app_none (P := P) (w := w) base t o.type e i size ht hi v n xs hown c
  unfold Oper.wp
  simp [execOp, ho, resolve, invoke, builtin, hs, hx, hrun, Result.andThen]
  exact hK _ _ h
set_option maxRecDepth 100000 in
set_option maxHeartbeats 1000000 in
theorem rtrim_none (cap : Nat) (w : World) : Calls Tryz.prog 124 #[.slice none 0 cap] w (RowPost w []) := by
  obtain ⟨i0', hi, hzz⟩ := Option.map_eq_some_iff.1 info4
  simp only [Prod.mk.injEq] at hzz
  obtain ⟨hz0, hz1, hz2⟩ := hzz
  have ht := take_run none 0 cap 0 (by omega)
  have HO := Lib.hid (World.ownsRow_made w #[] 0 (base := w.heap.size) (e := 119) (size := 1) (Nat.le_refl _) (by unfold maxLen; omega) rfl)
  have HB := Lib.hid ((Below.refl w.heap.size w).alloc (Nat.le_refl _) (.cells #[] 119))
  go_enter Tryz.func124, Tryz.ntmps124
  go_wp2
  go_loopw [3] (fun i wr => i = .int .i64 0 ∧ wr = w) (fun i _ => (intOf i).toNat)
  case atStart => exact ⟨rfl, rfl⟩
  case round =>
    obtain ⟨rfl, rfl⟩ := hrel
    go_wp2_with (at_builtin; refine wp_app_none rfl (.tmp 18) (.tmp 21) 91 rfl wr.heap.size 119 i0' 1 Tryz.underlying91 hi _ _ _ rfl HO.out _ rfl ?_)
    refine bodyPost_ret (results_tmp rfl _ _ _) rfl ?_
    exact RowPost.of (L := []) HO.out (by intro e; cases e) (by intro x hx; cases hx) (by simp) HB.out
theorem rtrim_nil (w : World) : Calls Tryz.prog 124 #[.slice none 0 0] w (RowPost w []) := rtrim_none 0 w
set_option maxRecDepth 100000 in
set_option maxHeartbeats 1000000 in
theorem rtrim_zero (p : Addr) (cap : Nat) (w : World) : Calls Tryz.prog 124 #[.slice (some p) 0 cap] w (RowPost w []) := by
  obtain ⟨i0', hi, hzz⟩ := Option.map_eq_some_iff.1 info4
  simp only [Prod.mk.injEq] at hzz
  obtain ⟨hz0, hz1, hz2⟩ := hzz
  have ht := take_run (some p) 0 cap 0 (by omega)
  have HO := Lib.hid (World.ownsRow_made w #[] 0 (base := w.heap.size) (e := 119) (size := 1) (Nat.le_refl _) (by unfold maxLen; omega) rfl)
  have HB := Lib.hid ((Below.refl w.heap.size w).alloc (Nat.le_refl _) (.cells #[] 119))
  go_enter Tryz.func124, Tryz.ntmps124
  go_wp2
  go_loopw [3] (fun i wr => i = .int .i64 0 ∧ wr = w) (fun i _ => (intOf i).toNat)
  case atStart => exact ⟨rfl, rfl⟩
  case round =>
    obtain ⟨rfl, rfl⟩ := hrel
    go_wp2_with (at_builtin; refine wpList_append_own _ rfl (.tmp 18) (.tmp 21) 91 rfl wr.heap.size 119 i0' (.int .u32 0) 1 4 Tryz.underlying91 hi hz0 hz1 hz2 rfl (by decide) _ _ _ rfl HO.out p _ _ [] rfl rfl (by intro j u hj; simp at hj) (by intro u hu; simp at hu) (by unfold maxLen; omega) (by omega) (by simp) ?_)
    intro v' w1 hown' hgrow hnn
    have hne : v' ≠ .slice none 0 0 := hnn
    have hB1 := HB.out.grown hgrow (by simp) (fun k e => (HO.out.lt k e).1)
    have hO1 : OwnL w1 wr.heap.size v' [] := by
      exact hown'
    have Fin := Lib.hid (RowPost.of hO1 hne (by intro x hx; cases hx) (by simp) hB1)
    clear hown' hgrow hB1 hO1 hne hnn
    go_wp2
    refine bodyPost_ret (results_tmp rfl _ _ _) rfl ?_
    exact Fin.out
/-- A slice that is nil, or lies at a block that is there. -/
def Adr (w : World) (A : Option Addr) (cap : Nat) : Prop := (∃ b off, A = some ⟨b, off, none⟩ ∧ b < w.heap.size) ∨ (A = none ∧ cap = 0)
theorem Adr.below {w w' : World} {A : Option Addr} {cap B : Nat} (h : Adr w A cap) (hb : Below B w w') : Adr w' A cap := by
  rcases h with ⟨b, off, h1, h2⟩ | h
  · exact Or.inl ⟨b, off, h1, Nat.lt_of_lt_of_le h2 hb.size⟩
  · exact Or.inr h
theorem rtrim_any (l : List Nat) (A : Option Addr) (n cap : Nat) (w : World) (hL : Lim w A n cap l) (hA : Adr w A cap) : Calls Tryz.prog 124 #[.slice A n cap] w (RowPost w (canon (val l))) := by
  rcases hA with ⟨b, off, rfl, hb⟩ | ⟨rfl, rfl⟩
  · exact rtrim_row l b off n cap w hL hb
  · obtain rfl : n = 0 := by
      rcases Nat.eq_zero_or_pos n with h | h
      · exact h
      · obtain ⟨b, off, e, -⟩ := hL.row h; cases e
    obtain rfl := List.length_eq_zero_iff.1 hL.len
    rw [show canon (val []) = [] by rw [val]; exact canon_zero]
    exact rtrim_nil w
/-- trim of any limbs. -/
theorem rtrim_all (l : List Nat) (A : Option Addr) (n cap : Nat) (w : World) (hL : Lim w A n cap l) : Calls Tryz.prog 124 #[.slice A n cap] w (RowPost w (canon (val l))) := by
  rcases Nat.eq_zero_or_pos n with rfl | h
  · obtain rfl := List.length_eq_zero_iff.1 hL.len
    rw [show canon (val []) = [] by rw [val]; exact canon_zero]
    cases A with
    | none => exact rtrim_none cap w
    | some p => exact rtrim_zero p cap w
  · obtain ⟨b, off, e, hb, -⟩ := hL.row h
    exact rtrim_any l A n cap w hL (Or.inl ⟨b, off, e, hb⟩)
end Wd
end Go.Proofs.YtjgcbeihgeaimaaGreatDoor
/-
  The reference's whole numbers: made, From, Check, both.
-/
namespace Go.Proofs.YtjgcbeihgeaimaaGreatDoor
namespace Wd
open Go.RowKit Lw

set_option maxRecDepth 100000 in
set_option maxHeartbeats 1000000 in
theorem rmade_all (neg : Bool) (l : List Nat) (A : Option Addr) (n cap : Nat) (w : World) (hL : Lim w A n cap l) (hm : (canon (val l)).length ≤ 4096) :
    Calls Tryz.prog 111 #[.bool neg, .slice A n cap] w (NumPost w (sgn neg (val l))) := by
  have b0 := (Below.refl w.heap.size w).alloc (Nat.le_refl _) (.cells #[.bool false, .slice none 0 0] 93)
  have t0 := there_new w #[.bool false, .slice none 0 0] 93 2 (by simp)
  have tw := rtrim_all l A n cap (w.alloc (.cells #[.bool false, .slice none 0 0] 93)) (hL.below b0)
  have TW := Lib.hid tw
  have B0 := Lib.hid b0
  have T0 := Lib.hid t0
  have hlb := lb_canon (val l)
  clear tw b0 t0 hL
  go_enter Tryz.func111, Tryz.ntmps111
  go_wp2_with fail
  refine TW.out.mono ?_
  rintro e w1 ⟨gg, c, rfl, -, hL1, hgg, -, hb1⟩
  obtain ⟨a, ha⟩ : ∃ a : Option Addr, a = some ⟨gg, 0, none⟩ := ⟨_, rfl⟩
  have hf : ∀ b off, a = some ⟨b, off, none⟩ → (w.alloc (.cells #[.bool false, .slice none 0 0] 93)).heap.size ≤ b := fun b off e => by rw [ha] at e; cases e; exact hgg
  rw [← ha] at hL1 ⊢
  clear hgg ha
  have t1 := there_below T0.out hb1 (by simp)
  have q0 := cellOf_some (t1 0 (by omega)).1
  have q1 := cellOf_some (t1 1 (by omega)).1
  have r0 := (t1 0 (by omega)).2
  have r1 := (t1 1 (by omega)).2
  have HP := made_pick neg _ l rfl
  have HB1 := Lib.hid (below_then B0.out hb1)
  have L1 := Lib.hid hL1
  have T1 := Lib.hid t1
  have hz := sgn_abs neg (val l)
  generalize hk : (canon (val l)).length = k at *
  have G : ∀ B : Bool, B = decide (sgn neg (val l) < 0) → World.rangeAt (w1.setCells w.heap.size 0 [.bool B, .slice a k c]) w.heap.size 0 [.bool B, .slice a k c] ∧ NumPost w (sgn neg (val l)) (.returned (.tuple #[.agg #[.bool B, .slice a k c], .int .i64 0])) (w1.setCells w.heap.size 0 [.bool B, .slice a k c]) := fun B hB => by
    simp only [World.size_alloc] at hf
    refine ⟨World.rangeAt_setCells_same _ _ _ _ T1.out, _, rfl, ⟨a, k, c, by rw [hB], ?_, fun b off e => by have := hf b off e; omega⟩, below_setCells _ (Nat.le_refl _) _ _ _ HB1.out⟩
    rw [hz]
    exact L1.out.setCells (fun b off e => by have := hf b off e; omega) _ _
  have GG := Lib.hid G
  have HP := Lib.hid HP
  have k2 : ¬ (4096 : Int) < (k : Int) := by omega
  clear G hb1 hL1 t1 hz hf
  go_wp2_with fail
  · have e : decide (0 < k) = decide (sgn neg (val l) < 0) := by
      rw [← HP.out, if_pos ‹_›]
      simp
    exact bodyPost_ret (ret_cell_tmp Tryz.results111 _ _ w.heap.size [.bool _, .slice _ _ _] _ rfl (GG.out _ e).1 Tryz.underlying93 rfl infoW) rfl (GG.out _ e).2
  · have e : false = decide (sgn neg (val l) < 0) := by
      rw [← HP.out, if_neg (by simp_all)]
    exact bodyPost_ret (ret_cell_tmp Tryz.results111 _ _ w.heap.size [.bool _, .slice _ _ _] _ rfl (GG.out _ e).1 Tryz.underlying93 rfl infoW) rfl (GG.out _ e).2
theorem rmade_any (neg : Bool) (l : List Nat) (A : Option Addr) (n cap : Nat) (w : World) (hL : Lim w A n cap l) (_hb : Adr w A cap) (hm : (canon (val l)).length ≤ 4096) :
    Calls Tryz.prog 111 #[.bool neg, .slice A n cap] w (NumPost w (sgn neg (val l))) := rmade_all neg l A n cap w hL hm
theorem rmade_walk (neg : Bool) (l : List Nat) (b off n cap : Nat) (w : World) (hL : Lim w (some ⟨b, off, none⟩) n cap l) (hb : b < w.heap.size) (hm : (canon (val l)).length ≤ 4096) :
    Calls Tryz.prog 111 #[.bool neg, .slice (some ⟨b, off, none⟩) n cap] w (NumPost w (sgn neg (val l))) :=
  rmade_any neg l _ n cap w hL (Or.inl ⟨b, off, rfl, hb⟩) hm
set_option maxRecDepth 100000 in
set_option maxHeartbeats 2000000 in
theorem rcheck_walk (V : Value) (z : Int) (w : World) (hV : Wide 0 w V z) (hz : (canon z.natAbs).length ≤ 4096) :
    Calls Tryz.prog 107 #[V] w fun e w' => e = .returned (.int .i64 0) ∧ Below w.heap.size w w' := by
  obtain ⟨a, m, c, rfl, hL, -⟩ := hV
  have hlen := hL.len
  have hB := (Below.refl w.heap.size w).alloc (Nat.le_refl _) (.cells #[.bool (decide (z < 0)), .slice a m c] 93)
  have HB := Lib.hid hB
  have HL := Lib.hid (hL.below hB)
  have m1 : ¬ (4096 : Int) < (m : Int) := by omega
  clear hL hB
  by_cases m0 : m = 0
  · subst m0
    have zz : decide (z < 0) = false := by
      have := (canon_spec z.natAbs).2.2.1.1 (List.length_eq_zero_iff.1 hlen)
      exact decide_eq_false (by omega)
    rw [zz] at HB HL ⊢
    clear zz m1
    go_enter Tryz.func107, Tryz.ntmps107
    go_wp2_with fail
    exact bodyPost_ret (results_tmp rfl _ _ _) rfl ⟨rfl, HB.out⟩
  · obtain ⟨b, off, rfl, -, -⟩ := HL.out.row (by omega)
    have cl := HL.out.cell (k := m - 1) (by omega)
    have kz := canon_last hlen (by omega)
    generalize (canon z.natAbs)[m - 1]'(by omega) = q at kz cl
    have q0 : ¬ (q : Int) = 0 := by omega
    have e1 : IntKind.i64.wrap ((m : Int) - 1) = ((m - 1 : Nat) : Int) := by
      have := hlen
      rw [IntWalk.i64_in _ (by omega)]; omega
    have k1 : (0 : Int) < (m : Int) := by omega
    have k2 : ((m - 1 : Nat) : Int) < (m : Int) := by omega
    have k3 : ¬ (m : Int) = 0 := by omega
    go_enter Tryz.func107, Tryz.ntmps107
    go_wp2_with fail
    exact bodyPost_ret (results_tmp rfl _ _ _) rfl ⟨rfl, HB.out⟩
set_option maxRecDepth 100000 in
set_option maxHeartbeats 2000000 in
theorem rboth_walk (V1 V2 : Value) (z1 z2 : Int) (w : World) (h1 : Wide 0 w V1 z1) (h2 : Wide 0 w V2 z2) (hz1 : (canon z1.natAbs).length ≤ 4096) (hz2 : (canon z2.natAbs).length ≤ 4096) :
    Calls Tryz.prog 110 #[V1, V2] w fun e w' => e = .returned (.int .i64 0) ∧ Below w.heap.size w w' := by
  have C1 := Lib.hid (fun w' (hb : Below w.heap.size w w') => rcheck_walk V1 z1 w' (h1.below hb) hz1)
  have C2 := Lib.hid (fun w' (hb : Below w.heap.size w w') => rcheck_walk V2 z2 w' (h2.below hb) hz2)
  obtain ⟨a, n, ca, rfl, hA, -⟩ := h1
  obtain ⟨d, m, cd, rfl, hD, -⟩ := h2
  have b0 := ((Below.refl w.heap.size w).alloc (Nat.le_refl _) (.cells #[.bool (decide (z1 < 0)), .slice a n ca] 93)).alloc (by simp) (.cells #[.bool (decide (z2 < 0)), .slice d m cd] 93)
  have r2 := rangeAt_new (w.alloc (.cells #[.bool (decide (z1 < 0)), .slice a n ca] 93)) [.bool (decide (z2 < 0)), .slice d m cd] 93
  rw [World.size_alloc] at r2
  have B0 := Lib.hid b0
  have R2 := Lib.hid r2
  clear hA hD b0 r2
  generalize decide (z1 < 0) = n1 at *
  generalize decide (z2 < 0) = n2 at *
  go_enter Tryz.func110, Tryz.ntmps110
  go_wp2_with fail
  refine (C1.out _ B0.out).mono ?_
  rintro e w1 ⟨rfl, hb⟩
  have d0 := (hb.cell (p := ⟨w.heap.size + 1, 0, none⟩) (by simp)).trans (R2.out 0 _ rfl)
  have d1 := (hb.cell (p := ⟨w.heap.size + 1, 1, none⟩) (by simp)).trans (R2.out 1 _ rfl)
  have B1 := Lib.hid (below_then B0.out hb)
  clear hb
  go_wp2_with fail
  refine (C2.out _ B1.out).mono ?_
  rintro e w2 ⟨rfl, hb⟩
  have B2 := Lib.hid (below_then B1.out hb)
  clear hb
  go_wp2_with fail
  exact bodyPost_ret (results_tmp rfl _ _ _) rfl ⟨rfl, B2.out⟩
end Wd
end Go.Proofs.YtjgcbeihgeaimaaGreatDoor
/-
  The reference's whole numbers: From.
-/
namespace Go.Proofs.YtjgcbeihgeaimaaGreatDoor
namespace Wd
open Go.RowKit Lw

set_option maxRecDepth 100000 in
set_option maxHeartbeats 1000000 in
theorem rfrom_walk (t : Int) (w : World) (h0 : -9223372036854775808 ≤ t) (h1 : t < 9223372036854775808) :
    Calls Tryz.prog 96 #[.int .i64 t] w (FromPost w t) := by
  have th := there_new w #[.bool false, .slice none 0 0] 93 2 (by simp)
  have hB := (Below.refl w.heap.size w).alloc (Nat.le_refl _) (.cells #[.bool false, .slice none 0 0] 93)
  generalize hn : t.natAbs = n
  have hn64 : n < 18446744073709551616 := by omega
  obtain ⟨v1, v2⟩ := two_val n hn64
  have hL := Lim.new (w.alloc (.cells #[.bool false, .slice none 0 0] 93)) [n % 4294967296, n / 4294967296] 119 2 v2 (by simp) (by simp)
  have hM := rmade_walk (decide (t < 0)) _ _ _ 2 2 _ hL (by simp) (by rw [v1]; exact Nat.le_trans (canon_len 2 n (by omega)) (by decide))
  rw [v1, show sgn (decide (t < 0)) n = t by rw [← hn]; exact from_sgn t] at hM
  have r1 : (IntKind.u32.wrap (n : Int)) = ((n % 4294967296 : Nat) : Int) := by rw [IntKind.wrap_u32]; omega
  have hM1 : Calls Tryz.prog 111 #[.bool (decide (t < 0)), .slice (some ⟨w.heap.size + 1, 0, none⟩) 2 2] ((w.alloc (.cells #[.bool false, .slice none 0 0] 93)).alloc (.cells #[.int .u32 ((n : Int) % 4294967296), .int .u32 ((n : Int) / 4294967296)] 119)) (NumPost ((w.alloc (.cells #[.bool false, .slice none 0 0] 93)).alloc (.cells #[.int .u32 ((n : Int) % 4294967296), .int .u32 ((n : Int) / 4294967296)] 119)) t) := by
    simpa [us, u4] using hM
  have hB1 := hB.alloc (by simp) (.cells #[.int .u32 ((n : Int) % 4294967296), .int .u32 ((n : Int) / 4294967296)] 119)
  have th1 := World.there_alloc th (.cells #[.int .u32 ((n : Int) % 4294967296), .int .u32 ((n : Int) / 4294967296)] 119)
  clear hM hL v2 hB th
  generalize hW : (w.alloc (.cells #[.bool false, .slice none 0 0] 93)).alloc (.cells #[.int .u32 ((n : Int) % 4294967296), .int .u32 ((n : Int) / 4294967296)] 119) = W at hM1 hB1 th1
  have hsz : W.heap.size = w.heap.size + 2 := by rw [← hW]; simp
  have HW := Lib.hid hW
  have TH1 := Lib.hid th1
  have HB1 := Lib.hid hB1
  clear hW th1 hB1
  have fin : ∀ (a : Option Addr) (k c : Nat) (w2 : World) (bb : Bool), bb = decide (t < 0) → Lim w2 a k c (canon t.natAbs) → (∀ b off, a = some ⟨b, off, none⟩ → W.heap.size ≤ b) → Below W.heap.size W w2 → World.rangeAt ((w2.alloc (.cells #[.bool bb, .slice a k c] 93)).setCells w.heap.size 0 [.bool bb, .slice a k c]) w.heap.size 0 [.bool bb, .slice a k c] ∧ FromPost w t (.returned (.agg #[.bool bb, .slice a k c])) ((w2.alloc (.cells #[.bool bb, .slice a k c] 93)).setCells w.heap.size 0 [.bool bb, .slice a k c]) := by
    intro a k c w2 bb hbb hV hf hb
    have hbe := below_then HB1.out hb
    have ths := World.there_alloc (there_below TH1.out hb (by omega)) (.cells #[.bool bb, .slice a k c] 93)
    refine ⟨World.rangeAt_setCells_same _ _ _ _ ths, _, rfl, ⟨a, k, c, by rw [hbb], (hV.below ((Below.refl _ w2).alloc (Nat.le_refl _) _)).setCells (fun b off e => by have := hf b off e; omega) _ _, fun b off e => by have := hf b off e; omega⟩, below_setCells _ (Nat.le_refl _) _ _ _ (hbe.alloc hbe.size _)⟩
  have Fin := Lib.hid fin
  clear fin
  by_cases g : t < 0
  · have r2 : IntKind.u64.wrap t = t + 18446744073709551616 := by rw [IntKind.wrap_u64]; omega
    have r3 : IntKind.u64.wrap (-(t + 18446744073709551616)) = (n : Int) := by rw [IntKind.wrap_u64]; omega
    have dg : decide (t < 0) = true := decide_eq_true g
    rw [dg] at hM1
    have Dg := Lib.hid dg
    have HM1 := Lib.hid hM1
    clear hM1 dg
    go_enter Tryz.func96, Tryz.ntmps96
    go_wp2_with fail
    rw [HW.out]
    refine HM1.out.mono ?_
    rintro e w2 ⟨V, rfl, ⟨a, k, c, rfl, hV, hf⟩, hb⟩
    rw [Dg.out]
    have th2 := there_below TH1.out hb (by omega)
    have F2 := Lib.hid (Fin.out a k c w2 true Dg.out.symm hV hf hb)
    have q0 := cellOf_some (World.there_alloc th2 (.cells #[.bool true, .slice a k c] 93) 0 (by omega)).1
    have q1 := cellOf_some (World.there_alloc th2 (.cells #[.bool true, .slice a k c] 93) 1 (by omega)).1
    have f0 := (World.there_alloc th2 (.cells #[.bool true, .slice a k c] 93) 0 (by omega)).2
    have f1 := (World.there_alloc th2 (.cells #[.bool true, .slice a k c] 93) 1 (by omega)).2
    clear hV hf hb th2
    go_wp2_with fail
    exact bodyPost_ret (ret_cell Tryz.results96 _ _ w.heap.size [.bool true, .slice a k c] _ rfl F2.out.1 Tryz.underlying93 rfl infoW) rfl F2.out.2
  · have r2 : IntKind.u64.wrap t = (n : Int) := by rw [IntKind.wrap_u64]; omega
    have dg : decide (t < 0) = false := decide_eq_false g
    rw [dg] at hM1
    have Dg := Lib.hid dg
    have HM1 := Lib.hid hM1
    clear hM1 dg
    go_enter Tryz.func96, Tryz.ntmps96
    go_wp2_with fail
    rw [HW.out]
    refine HM1.out.mono ?_
    rintro e w2 ⟨V, rfl, ⟨a, k, c, rfl, hV, hf⟩, hb⟩
    rw [Dg.out]
    have th2 := there_below TH1.out hb (by omega)
    have F2 := Lib.hid (Fin.out a k c w2 false Dg.out.symm hV hf hb)
    have q0 := cellOf_some (World.there_alloc th2 (.cells #[.bool false, .slice a k c] 93) 0 (by omega)).1
    have q1 := cellOf_some (World.there_alloc th2 (.cells #[.bool false, .slice a k c] 93) 1 (by omega)).1
    have f0 := (World.there_alloc th2 (.cells #[.bool false, .slice a k c] 93) 0 (by omega)).2
    have f1 := (World.there_alloc th2 (.cells #[.bool false, .slice a k c] 93) 1 (by omega)).2
    clear hV hf hb th2
    go_wp2_with fail
    exact bodyPost_ret (ret_cell Tryz.results96 _ _ w.heap.size [.bool false, .slice a k c] _ rfl F2.out.1 Tryz.underlying93 rfl infoW) rfl F2.out.2
end Wd
end Go.Proofs.YtjgcbeihgeaimaaGreatDoor
/-
  The reference's whole numbers: times, Mul.
-/
namespace Go.Proofs.YtjgcbeihgeaimaaGreatDoor
namespace Wd
open Go.RowKit Lw

set_option maxRecDepth 100000 in
set_option maxHeartbeats 4000000 in
theorem rtimes_walk (a b : List Nat) (A D : Option Addr) (na ca nb cb : Nat) (w : World) (hA : Lim w A na ca a) (hD : Lim w D nb cb b) (hn : na + nb ≤ 1000000) :
    Calls Tryz.prog 112 #[.slice A na ca, .slice D nb cb] w (FreshPost w (na + nb) fun L => val L = val a * val b) := by
  have la := hA.len
  have lb := hD.len
  have HA := Lib.hid hA
  have HD := Lib.hid hD
  clear hA hD
  have hmk : ∀ w, (Instr.makeSlice 91 (.int .i64 ((na : Int) + (nb : Int))) (.int .i64 ((na : Int) + (nb : Int)))).run Tryz.prog w = .ok (.slice (some ⟨w.heap.size, 0, none⟩) (na + nb) (na + nb)) (w.alloc (.cells (nu (na + nb)) 119)) := fun w => by
    have := make_nu (na + nb) hn w
    rwa [Int.natCast_add] at this
  go_enter Tryz.func112, Tryz.ntmps112
  go_wp2
  have st : TOut a b (List.replicate (na + nb) 0) 0 := by rw [← la, ← lb]; exact TOut.zero a b
  have hA0 := Arr.nu w (na + nb)
  have hB0 := (Below.refl w.heap.size w).alloc (Nat.le_refl _) (.cells (nu (na + nb)) 119)
  clear hmk
  go_loopw [6] (fun i wr => ∃ (k : Nat) (L : List Nat), k ≤ na ∧ i = .int .i64 k ∧ TOut a b L k ∧ Arr wr w.heap.size L ∧ Below w.heap.size w wr) (fun i _ => na - (intOf i).toNat)
  case atStart => exact ⟨0, _, by omega, rfl, st, hA0, hB0⟩
  case round =>
    clear hA0 hB0 st
    obtain ⟨i, L, hi, rfl, hT, hR, hB⟩ := hrel
    by_cases hlt : i < na
    · have hAw := HA.out.below hB
      obtain ⟨bA, oA, rfl, -, -⟩ := hAw.row (by omega)
      have cA := hAw.cell (k := i) (by omega)
      have i1 : (i : Int) < (na : Int) := by omega
      have xb := lb_get hAw.lb (k := i) (by omega)
      generalize hx : a[i]'(by omega) = x at cA xb
      have T0 := Lib.hid (hT.start x)
      have HR := Lib.hid hR
      have HB := Lib.hid hB
      clear hT hR hB hAw
      go_wp2
      go_loopw [7, 8] (fun c j w2 => ∃ (k cc : Nat) (L : List Nat), k ≤ nb ∧ j = .int .i64 k ∧ c = .int .u64 cc ∧ TIn a b L i k cc x ∧ Arr w2 w.heap.size L ∧ Below w.heap.size w w2) (fun _ j _ => nb - (intOf j).toNat)
      case atStart => exact ⟨0, 0, _, by omega, rfl, rfl, T0.out, HR.out, HB.out⟩
      case round =>
        clear T0 HR HB
        obtain ⟨k, cc, L, hk, rfl, rfl, hT, hR, hB⟩ := hrel
        have hLl := hT.len
        by_cases hlk : k < nb
        · have cA2 := (HA.out.below hB).cell (k := i) (by omega)
          rw [hx] at cA2
          have hDw := HD.out.below hB
          obtain ⟨bD, oD, rfl, -, -⟩ := hDw.row (by omega)
          have cD := hDw.cell (k := k) (by omega)
          have k1 : (k : Int) < (nb : Int) := by omega
          have yb := lb_get hDw.lb (k := k) (by omega)
          have cL := hR.cell (k := i + k) (by omega)
          have fL := hR.free (i + k)
          have lbd := lb_get hT.lb (k := i + k) (by omega)
          have ts := hT.step (by omega) (by omega) hDw.lb xb (by omega)
          have ccb := hT.c1
          have pb := prod_bd xb yb ccb lbd
          generalize b[k]'(by omega) = y at cD yb ts pb
          generalize L[i + k]'(by omega) = l at cL lbd ts pb
          have r1 : IntKind.u64.wrap ((x : Int) * (y : Int)) = ((x * y : Nat) : Int) := by rw [← Int.natCast_mul]; exact IntWalk.u64_in _ (by omega)
          generalize x * y = p at ts pb r1
          have ev : (((cc + (p + l)) % 4294967296 : Nat) : Int) = ((cc : Int) + ((p : Int) + (l : Int))) % 4294967296 := by omega
          have ed : (((cc + (p + l)) / 4294967296 : Nat) : Int) = ((cc : Int) + ((p : Int) + (l : Int))) / 4294967296 := by omega
          have rs := fun N => (hR.drewN N).set (i + k) ((cc + (p + l)) % 4294967296)
          rw [ev] at rs
          have fin : ∀ N, ∃ (k' cc' : Nat) (L' : List Nat), k' ≤ nb ∧ Value.int .i64 ((k : Int) + 1) = .int .i64 (k' : Int) ∧ Value.int .u64 (((cc : Int) + ((p : Int) + (l : Int))) / 4294967296) = .int .u64 (cc' : Int) ∧ TIn a b L' i k' cc' x ∧ Arr ((wr.drewN N).setCell ⟨w.heap.size, i + k, none⟩ (.int .u32 (((cc : Int) + ((p : Int) + (l : Int))) % 4294967296))) w.heap.size L' ∧ Below w.heap.size w ((wr.drewN N).setCell ⟨w.heap.size, i + k, none⟩ (.int .u32 (((cc : Int) + ((p : Int) + (l : Int))) % 4294967296))) :=
            fun N => ⟨k + 1, _, _, by omega, by simp, by rw [← ed], ts, rs N, (below_drewN hB N).setCell (p := ⟨w.heap.size, i + k, none⟩) (Nat.le_refl _) _⟩
          have Fin := Lib.hid fin
          obtain ⟨-, pb2⟩ := pb
          clear fin ts rs ev ed hT hR hB hDw
          go_wp2
          go_quiet (fail)
          go_wp2
          go_roundw
          case rel => exact Fin.out nq
          case measure => simp [intOf]; omega
        · obtain rfl : k = nb := by omega
          have rs := hR.set (i + k) cc
          have cL := hR.cell (k := i + k) (by omega)
          have fL := hR.free (i + k)
          have ccb := hT.c1
          have bs : Below w.heap.size w (wr.setCell ⟨w.heap.size, i + k, none⟩ (.int .u32 (cc : Int))) := hB.setCell (p := ⟨w.heap.size, i + k, none⟩) (Nat.le_refl _) _
          have tf : TOut a b (L.set (i + k) cc) (i + 1) := by
            have := TIn.fin (a := a) (b := b) (L := L) (i := i) (c := cc) (by omega) (by rw [hx, lb]; exact hT)
            rwa [lb] at this
          have fin : ∃ (k' : Nat) (L' : List Nat), k' ≤ na ∧ Value.int .i64 ((i : Int) + 1) = .int .i64 (k' : Int) ∧ TOut a b L' k' ∧ Arr (wr.setCell ⟨w.heap.size, i + k, none⟩ (.int .u32 (cc : Int))) w.heap.size L' ∧ Below w.heap.size w (wr.setCell ⟨w.heap.size, i + k, none⟩ (.int .u32 (cc : Int))) :=
            ⟨i + 1, _, by omega, by simp, tf, rs, bs⟩
          have Fin := Lib.hid fin
          clear fin tf rs bs hT hR hB
          go_wp2
          go_roundw
          case rel => exact Fin.out
          case measure => simp [intOf]; omega
    · obtain rfl : i = na := by omega
      go_wp2
      refine bodyPost_ret (results_tmp rfl _ _ _) rfl ⟨L, rfl, by rw [hT.len]; omega, hT.lb, ?_, hR, hB⟩
      show val L = val a * val b
      rw [hT.v, ← la, List.take_length]
end Wd
end Go.Proofs.YtjgcbeihgeaimaaGreatDoor
/-
  The reference's whole numbers: Mul.
-/
namespace Go.Proofs.YtjgcbeihgeaimaaGreatDoor
namespace Wd
open Go.RowKit Lw

set_option maxRecDepth 100000 in
set_option maxHeartbeats 4000000 in
theorem rmul_walk (V1 V2 : Value) (z1 z2 : Int) (w : World) (h1 : Wide 0 w V1 z1) (h2 : Wide 0 w V2 z2) (hn : (canon z1.natAbs).length + (canon z2.natAbs).length ≤ 4096) :
    Calls Tryz.prog 92 #[V1, V2] w (NumPost w (z1 * z2)) := by
  have RB := Lib.hid (fun w' (hb : Below w.heap.size w w') => rboth_walk V1 V2 z1 z2 w' (h1.below hb) (h2.below hb) (by omega) (by omega))
  obtain ⟨a, n, ca, rfl, hA, -⟩ := h1
  obtain ⟨d, m, cd, rfl, hD, -⟩ := h2
  have la := hA.len
  have ld := hD.len
  have hS0 := BX.new w (decide (z1 < 0)) (decide (z2 < 0)) (.slice a n ca) (.slice d m cd)
  have HA := Lib.hid hA
  have HD := Lib.hid hD
  have HS := Lib.hid hS0
  have NV : val (canon z1.natAbs) * val (canon z2.natAbs) = (z1 * z2).natAbs := by rw [val_canon, val_canon, Int.natAbs_mul]
  have NV := Lib.hid NV
  have SM := Lib.hid (sgn_mul z1 z2)
  clear hA hD hS0
  generalize decide (z1 < 0) = n1 at *
  generalize decide (z2 < 0) = n2 at *
  go_enter Tryz.func92, Tryz.ntmps92
  go_wp2_with fail
  refine (RB.out _ HS.out.below).mono ?_
  rintro e w1 ⟨rfl, hb⟩
  have hS := HS.out.call hb
  clear hb HS RB
  go_wp2_with fail
  have KA := fun w' (h : BXS w n1 n2 (.slice a n ca) (.slice d m cd) w') => HA.out.below h.2.2.2.2.2.2.2.2.below
  have KD := fun w' (h : BXS w n1 n2 (.slice a n ca) (.slice d m cd) w') => HD.out.below h.2.2.2.2.2.2.2.2.below
  have KC := fun w' w2 (h : BXS w n1 n2 (.slice a n ca) (.slice d m cd) w') (hb : Below w'.heap.size w' w2) => h.2.2.2.2.2.2.2.2.call hb
  have nl : ∀ L : List Nat, Lb L → L.length = n + m → (canon (val L)).length ≤ 4096 := fun L h1 h2 => by have := canon_le L h1; omega
  have nc : ∀ L : List Nat, ∀ w2 g, Arr w2 g L → Lb L → L.length = n + m → Lim w2 (some ⟨g, 0, none⟩) (n + m) (n + m) L := fun L w2 g h1 h2 h3 => by have := h1.lim (cap := n + m) h2 (by omega) (by omega); rwa [h3] at this
  go_region_held3 (fun w' => w'.cell? ⟨w.heap.size, 0, none⟩ = some (.bool n1) ∧ w'.cell? ⟨w.heap.size, 1, none⟩ = some (.slice a n ca) ∧ w'.cell? ⟨w.heap.size + 1, 0, none⟩ = some (.bool n2) ∧ w'.cell? ⟨w.heap.size + 1, 1, none⟩ = some (.slice d m cd) ∧ w'.cell? ⟨w.heap.size + 2, 0, none⟩ = some (cellOf w' ⟨w.heap.size + 2, 0, none⟩) ∧ w'.cell? ⟨w.heap.size + 2, 1, none⟩ = some (cellOf w' ⟨w.heap.size + 2, 1, none⟩) ∧ w'.frozen? ⟨w.heap.size + 2, 0, none⟩ = false ∧ w'.frozen? ⟨w.heap.size + 2, 1, none⟩ = false ∧ BX w n1 n2 (.slice a n ca) (.slice d m cd) w') (first | exact BX.s (BX.drew hS) | exact BX.s hS | exact BX.s hk2 | exact BX.s hk | exact BX.s (BX.set (BX.set hk2 _ _) _ _) | exact BX.s (by assumption)) (first | (go_at_call 112; refine (rtimes_walk _ _ _ _ n ca m cd _ (KA _ (by assumption)) (KD _ (by assumption)) (by omega)).mono ?_; rintro e w' ⟨L, rfl, hL1, hL2, hL3, hL4, hb⟩; have hk := KC _ _ (by assumption) hb; have HL3 := Lib.hid hL3; clear hb hL3) | (go_at_call 111; refine (rmade_walk _ L _ 0 _ _ _ (nc L _ _ hL4 hL2 hL1) hL4.lt (nl L hL2 hL1)).mono ?_; rintro e w' ⟨V, rfl, ⟨a', k', c', rfl, hM, hf⟩, hb⟩; have hk2 := BX.call hk hb; clear hb))
  have e : sgn (!(n1 == n2)) (val L) = z1 * z2 := by rw [HL3.out, NV.out]; exact SM.out
  have hs := hS.size
  have hks := hk.size
  rw [e] at hM ⊢
  have FF := Lib.hid (num_fin2 hk2 hM (fun b off e => Nat.le_trans hks (hf b off e)))
  clear hM hf e
  go_wp2_with fail
  exact bodyPost_ret (ret_cell_tmp Tryz.results92 _ _ (w.heap.size + 2) [.bool _, .slice _ _ _] _ rfl FF.out.1 Tryz.underlying93 rfl infoW) rfl FF.out.2
end Wd
end Go.Proofs.YtjgcbeihgeaimaaGreatDoor
/-
  The reference's whole numbers: compare.
-/
namespace Go.Proofs.YtjgcbeihgeaimaaGreatDoor
namespace Wd
open Go.RowKit Lw

theorem drop_eq_cons {a b : List Nat} {p : Nat} (ha : p < a.length) (hb : p < b.length) (h : a.drop (p + 1) = b.drop (p + 1)) (e : a[p] = b[p]) : a.drop p = b.drop p := by
  rw [List.drop_eq_getElem_cons ha, List.drop_eq_getElem_cons hb, h, e]
set_option maxRecDepth 100000 in
set_option maxHeartbeats 4000000 in
theorem rcompare_walk (X Y : Nat) (A D : Option Addr) (na ca nb cb : Nat) (w : World) (hA : Lim w A na ca (canon X)) (hD : Lim w D nb cb (canon Y)) :
    Calls Tryz.prog 116 #[.slice A na ca, .slice D nb cb] w fun e w' => e = .returned (.int .i64 (cmpN X Y)) ∧ Below w.heap.size w w' := by
  have la := hA.len
  have lb := hD.len
  have sa := hA.sm
  have HA := Lib.hid hA
  have HD := Lib.hid hD
  clear hA hD
  by_cases hne : na = nb
  · subst hne
    go_enter Tryz.func116, Tryz.ntmps116
    go_wp2
    go_loopw [5] (fun i wr => ∃ j : Nat, j ≤ na ∧ i = .int .i64 ((j : Int) - 1) ∧ (canon X).drop j = (canon Y).drop j ∧ Below w.heap.size w wr) (fun i _ => (intOf i + 1).toNat)
    case atStart => exact ⟨na, Nat.le_refl _, rfl, by rw [List.drop_of_length_le (by omega), List.drop_of_length_le (by omega)], Below.refl _ _⟩
    case round =>
      obtain ⟨j, hj, rfl, hd, hB⟩ := hrel
      cases j with
      | succ p =>
        have hAw := HA.out.below hB
        have hDw := HD.out.below hB
        obtain ⟨bA, oA, rfl, -, -⟩ := hAw.row (by omega)
        obtain ⟨bD, oD, rfl, -, -⟩ := hDw.row (by omega)
        have cA := hAw.cell (k := p) (by omega)
        have cD := hDw.cell (k := p) (by omega)
        have e1 : (((p + 1 : Nat)) : Int) - 1 = (p : Int) := by omega
        have e2 : IntKind.i64.wrap ((p : Int) - 1) = (p : Int) - 1 := IntWalk.i64_in _ (by omega)
        have k0 : (0 : Int) ≤ (p : Int) := by omega
        have k1 : (p : Int) < (na : Int) := by omega
        have hlt : (canon X)[p]'(by omega) < (canon Y)[p]'(by omega) → X < Y := fun h => by
          have := lt_of_top (lb_canon X) (by omega) (show p < (canon X).length by omega) hd h
          rwa [val_canon, val_canon] at this
        have hgt : (canon Y)[p]'(by omega) < (canon X)[p]'(by omega) → Y < X := fun h => by
          have := lt_of_top (lb_canon Y) (by omega) (show p < (canon Y).length by omega) hd.symm h
          rwa [val_canon, val_canon] at this
        have heq : (canon X)[p]'(by omega) = (canon Y)[p]'(by omega) → (canon X).drop p = (canon Y).drop p := fun h => drop_eq_cons (by omega) (by omega) hd h
        generalize (canon X)[p]'(by omega) = x at cA hlt hgt heq
        generalize (canon Y)[p]'(by omega) = y at cD hlt hgt heq
        have HB := Lib.hid hB
        clear hd hAw hDw hB
        rw [e1]
        rcases Nat.lt_trichotomy x y with h | h | h
        · have hc := Lib.hid (cmp_lt (hlt h))
          have g1 : (x : Int) < (y : Int) := by omega
          clear hlt hgt heq
          go_wp2
          go_quiet (fail)
          go_wp2
          exact bodyPost_ret (results_tmp rfl _ _ _) rfl ⟨by rw [hc.out]; rfl, below_drewN HB.out _⟩
        · have hc := Lib.hid (heq h)
          have g1 : ¬ (x : Int) < (y : Int) := by omega
          have g2 : ¬ (y : Int) < (x : Int) := by omega
          clear hlt hgt heq
          go_wp2
          go_quiet (fail)
          go_wp2
          go_quiet (fail)
          go_wp2
          go_roundw
          case rel => exact ⟨p, by omega, rfl, hc.out, by first | exact below_drewN HB.out _ | exact below_drewN (below_drewN HB.out _) _⟩
          case measure => simp [intOf]
        · have hc := Lib.hid (cmp_gt (hgt h))
          have g1 : ¬ (x : Int) < (y : Int) := by omega
          have g2 : (y : Int) < (x : Int) := by omega
          clear hlt hgt heq
          go_wp2
          go_quiet (fail)
          go_wp2
          go_quiet (fail)
          go_wp2
          exact bodyPost_ret (results_tmp rfl _ _ _) rfl ⟨by rw [hc.out]; rfl, by first | exact below_drewN HB.out _ | exact below_drewN (below_drewN HB.out _) _⟩
      | zero =>
        have hXY : X = Y := by
          simp only [List.drop_zero] at hd
          rw [← val_canon X, hd, val_canon]
        have hc := Lib.hid (show cmpN X Y = 0 by rw [hXY, cmp_eq])
        have HB := Lib.hid hB
        clear hd hXY hB
        go_wp2
        exact bodyPost_ret (results_tmp rfl _ _ _) rfl ⟨by rw [hc.out]; rfl, HB.out⟩
  · have ne1 : ¬ (na : Int) = (nb : Int) := by omega
    rcases Nat.lt_or_gt_of_ne hne with g | g
    · have hc := Lib.hid (cmp_lt (canon_lt_of_len (A := X) (B := Y) (by omega)))
      have g1 : (na : Int) < (nb : Int) := by omega
      clear HA HD la lb
      go_enter Tryz.func116, Tryz.ntmps116
      go_wp2
      exact bodyPost_ret (results_tmp rfl _ _ _) rfl ⟨by rw [hc.out]; rfl, Below.refl _ _⟩
    · have hc := Lib.hid (cmp_gt (canon_lt_of_len (A := Y) (B := X) (by omega)))
      have g1 : ¬ (na : Int) < (nb : Int) := by omega
      clear HA HD la lb
      go_enter Tryz.func116, Tryz.ntmps116
      go_wp2
      exact bodyPost_ret (results_tmp rfl _ _ _) rfl ⟨by rw [hc.out]; rfl, Below.refl _ _⟩
end Wd
end Go.Proofs.YtjgcbeihgeaimaaGreatDoor
/-
  The reference's whole numbers: plus.
-/
namespace Go.Proofs.YtjgcbeihgeaimaaGreatDoor
namespace Wd
open Go.RowKit Lw

/-- plus, by appending. -/
structure RPIn (a b L : List Nat) (i c : Nat) : Prop where
  len : L.length = i
  lb : Lb L
  c1 : c ≤ 1
  v : val L + c * 4294967296 ^ i = val (a.take i) + val (b.take i)
theorem RPIn.zero (a b : List Nat) : RPIn a b [] 0 0 := ⟨rfl, fun x hx => by simp at hx, by omega, by simp [val]⟩
theorem RPIn.step {a b L : List Nat} {i c : Nat} (h : RPIn a b L i c) (ha : Lb a) (hb : Lb b) : RPIn a b (L ++ [(c + at0 a i + at0 b i) % 4294967296]) (i + 1) ((c + at0 a i + at0 b i) / 4294967296) := by
  have hlen := h.len
  subst hlen
  have hx := at0_lt ha L.length
  have hy := at0_lt hb L.length
  have hc := h.c1
  have hv := h.v
  refine ⟨by simp, lb_snoc h.lb (Nat.mod_lt _ (by decide)), by omega, ?_⟩
  rw [val_snoc, val_take0, val_take0, Nat.pow_succ]
  generalize at0 a L.length = x at *
  generalize at0 b L.length = y at *
  have e := split_pow (4294967296 ^ L.length) (c + x + y)
  have e2 : 4294967296 ^ L.length * (c + x + y) = c * 4294967296 ^ L.length + 4294967296 ^ L.length * x + 4294967296 ^ L.length * y := by rw [Nat.mul_add, Nat.mul_add, Nat.mul_comm _ c]
  omega
theorem RPIn.fin {a b L : List Nat} {c n : Nat} (h : RPIn a b L n c) (ha : a.length ≤ n) (hb : b.length ≤ n) : val (L ++ [c]) = val a + val b ∧ Lb (L ++ [c]) ∧ (L ++ [c]).length = n + 1 := by
  have hv := h.v
  rw [List.take_of_length_le ha, List.take_of_length_le hb] at hv
  exact ⟨by rw [val_snoc, h.len, ← hv, Nat.mul_comm c], lb_snoc h.lb (by have := h.c1; omega), by simp [h.len]⟩
theorem own_snoc {w1 : World} {B : Nat} {v' : Value} {L : List Nat} {x : Nat} (h : w1.ownsRow B 119 1 v' (L.length + 1) (us L ++ [.int .u32 (x : Int)])) : OwnL w1 B v' (L ++ [x]) := by
  show w1.ownsRow _ _ 1 v' (L ++ [x]).length (us (L ++ [x]))
  rw [List.length_append, us, List.map_append]
  exact h
end Wd
end Go.Proofs.YtjgcbeihgeaimaaGreatDoor
/-
  The reference's whole numbers: minus.
-/
namespace Go.Proofs.YtjgcbeihgeaimaaGreatDoor
namespace Wd
open Go.RowKit Lw

/-- minus, by appending. -/
structure RMIn (a b L : List Nat) (i c : Nat) : Prop where
  len : L.length = i
  lb : Lb L
  c1 : c ≤ 1
  v : val L + val (b.take i) = val (a.take i) + c * 4294967296 ^ i
theorem RMIn.zero (a b : List Nat) : RMIn a b [] 0 0 := ⟨rfl, fun x hx => by simp at hx, by omega, by simp [val]⟩
theorem RMIn.step {a b L : List Nat} {i c x y : Nat} (h : RMIn a b L i c) (ha : Lb a) (hb : Lb b) (hx : at0 a i = x) (hy : at0 b i = y) : RMIn a b (L ++ [(x + 4294967296 - y - c) % 4294967296]) (i + 1) (if x < y + c then 1 else 0) := by
  have hlen := h.len
  subst hlen
  have bx := at0_lt ha L.length
  have by' := at0_lt hb L.length
  rw [hx] at bx
  rw [hy] at by'
  have hc := h.c1
  have hv := h.v
  refine ⟨by simp, lb_snoc h.lb (Nat.mod_lt _ (by decide)), br_le _ _ _, ?_⟩
  rw [val_snoc, val_take0, val_take0, Nat.pow_succ, hx, hy]
  have e := sub_pow (4294967296 ^ L.length) bx by' hc
  generalize (if x < y + c then 1 else 0 : Nat) = g at *
  omega
theorem RMIn.lt {a b L : List Nat} {i c x y : Nat} (h : RMIn a b L i c) (ha : Lb a) (hb : Lb b) (hx : at0 a i = x) (hy : at0 b i = y) (hl : x < y + c) : RMIn a b (L ++ [x + 4294967296 - y - c]) (i + 1) 1 := by
  have := h.step ha hb hx hy
  have bx := at0_lt ha i
  have by' := at0_lt hb i
  rwa [if_pos hl, Nat.mod_eq_of_lt (by omega)] at this
theorem RMIn.ge {a b L : List Nat} {i c x y : Nat} (h : RMIn a b L i c) (ha : Lb a) (hb : Lb b) (hx : at0 a i = x) (hy : at0 b i = y) (hl : ¬ x < y + c) : RMIn a b (L ++ [x - y - c]) (i + 1) 0 := by
  have := h.step ha hb hx hy
  have bx := at0_lt ha i
  rwa [if_neg hl, show (x + 4294967296 - y - c) % 4294967296 = x - y - c by omega] at this
theorem RMIn.fin {a b L : List Nat} {c n : Nat} (h : RMIn a b L n c) (ha : a.length = n) (hb : b.length ≤ n) (hle : val b ≤ val a) : val L = val a - val b := by
  have hv := h.v
  have hl := h.len
  have hlt := val_lt L h.lb
  have h1 : b.take n = b := List.take_of_length_le hb
  have h2 : a.take n = a := List.take_of_length_le (by omega)
  rw [h1, h2] at hv
  rw [hl] at hlt

  have hc := h.c1
  rcases Nat.eq_zero_or_pos c with rfl | h0
  · omega
  · obtain rfl : c = 1 := by omega
    omega
theorem own_mono {w : World} {B B' : Nat} {V : Value} {L : List Nat} (h : OwnL w B V L) (hb : B' ≤ B) : OwnL w B' V L := by
  refine ⟨h.1, h.2.imp id ?_⟩
  rintro ⟨g, cap, cur, h1, h2, h3⟩
  exact ⟨g, cap, cur, h1, by omega, h3⟩
set_option maxRecDepth 100000 in
set_option maxHeartbeats 4000000 in
theorem rminus_walk (a b : List Nat) (A D : Option Addr) (na ca nb cb : Nat) (w : World) (hA : Lim w A na ca a) (hD : Lim w D nb cb b) (hp : 0 < na) (hle : nb ≤ na) (hv : val b ≤ val a) :
    Calls Tryz.prog 126 #[.slice A na ca, .slice D nb cb] w fun e w' => ∃ V, e = .returned V ∧ OwnL w' w.heap.size V (canon (val a - val b)) ∧ Below w.heap.size w w' := by
  have la := hA.len
  have lb := hD.len
  have sa := hA.sm
  have HA := Lib.hid hA
  have HD := Lib.hid hD
  obtain ⟨i0', hi, hzz⟩ := Option.map_eq_some_iff.1 info4
  simp only [Prod.mk.injEq] at hzz
  obtain ⟨hz0, hz1, hz2⟩ := hzz
  have HV := Lib.hid hv
  clear hA hD hv
  go_enter Tryz.func126, Tryz.ntmps126
  go_wp2
  have hA0 : OwnL w w.heap.size (.slice none 0 0) [] := World.ownsRow_nil _ _ _ _
  have hB0 := Below.refl w.heap.size w
  go_loopw [5, 6, 7] (fun V c i wr => ∃ (k cc : Nat) (L : List Nat), k ≤ na ∧ c = .int .i64 cc ∧ i = .int .i64 k ∧ RMIn a b L k cc ∧ OwnL wr w.heap.size V L ∧ Below w.heap.size w wr) (fun _ _ i _ => na - (intOf i).toNat)
  case atStart => exact ⟨0, 0, [], by omega, rfl, rfl, RMIn.zero a b, hA0, hB0⟩
  case round =>
    clear hA0 hB0
    obtain ⟨k, c, L, hk, rfl, rfl, hF, hO, hB⟩ := hrel
    have hL := hF.len
    have hc := hF.c1
    have hsz := hB.size
    have HO := Lib.hid hO
    have HB := Lib.hid hB
    clear hO hB
    by_cases hlt : k < na
    · have hAw := HA.out.below HB.out
      obtain ⟨bA, oA, rfl, -, -⟩ := hAw.row (by omega)
      have cA := hAw.cell (k := k) (by omega)
      have i1 : (k : Int) < (na : Int) := by omega
      have xb := lb_get hAw.lb (k := k) (by omega)
      have hx := at0_in (b := a) (i := k) (by omega)
      generalize a[k]'(by omega) = x at cA xb hx
      by_cases hib : k < nb
      · have hDw := HD.out.below HB.out
        obtain ⟨bD, oD, rfl, -, -⟩ := hDw.row (by omega)
        have cD := hDw.cell (k := k) (by omega)
        have j1 : (k : Int) < (nb : Int) := by omega
        have yb := lb_get hDw.lb (k := k) (by omega)
        have hy := at0_in (b := b) (i := k) (by omega)
        generalize b[k]'(by omega) = y at cD yb hy
        by_cases ht : x < y + c
        · have St := Lib.hid (hF.lt HA.out.lb HD.out.lb hx hy ht)
          have t1 : ((x : Int) - (c : Int) - (y : Int)) < 0 := by omega
          have Ev := Lib.hid (show (((x + 4294967296 - y - c) : Nat) : Int) = ((x : Int) - (c : Int) - (y : Int)) + 4294967296 by omega)
          clear hF hAw hx hDw hy
          go_wp2_with (at_builtin; refine wpList_append_own _ rfl (.tmp 37) (.tmp 40) 91 rfl w.heap.size 119 i0' (.int .u32 0) 1 4 Tryz.underlying91 hi hz0 hz1 hz2 rfl (by decide) _ _ _ rfl (HO.out.alloc _) ⟨wr.heap.size, 0, none⟩ 1 1 [.int .u32 (((x : Int) - (c : Int) - (y : Int)) + 4294967296)] rfl rfl (by intro j u hj; match j, hj with | 0, hj => (simp at hj; subst hj; simp [Addr.add])) (by intro u hu; simp at hu; subst hu; rfl) (by unfold maxLen; omega) (by omega) (by simp; omega) ?_)
          intro v' w1 hown' hgrow _
          have hB1 := (HB.out.alloc (Nat.le_of_lt_succ (by omega)) (.cells #[.int .u32 (((x : Int) - (c : Int) - (y : Int)) + 4294967296)] 119)).grown hgrow (by simp; omega) (fun k e => (HO.out.lt k e).1)
          rw [← Ev.out] at hown'
          have Fin := Lib.hid (show ∃ (k' c' : Nat) (L' : List Nat), k' ≤ na ∧ Value.int .i64 1 = .int .i64 (c' : Int) ∧ Value.int .i64 ((k : Int) + 1) = .int .i64 (k' : Int) ∧ RMIn a b L' k' c' ∧ OwnL w1 w.heap.size v' L' ∧ Below w.heap.size w w1 from ⟨k + 1, _, _, by omega, by rfl, by simp, St.out, own_snoc (by rw [hL]; exact hown'), hB1⟩)
          clear hown' hgrow hB1
          go_wp2
          go_roundw
          case rel => exact Fin.out
          case measure => simp [intOf]; omega
        · have St := Lib.hid (hF.ge HA.out.lb HD.out.lb hx hy ht)
          have t1 : ¬ ((x : Int) - (c : Int) - (y : Int)) < 0 := by omega
          have t2 := decide_eq_false t1
          have Ev := Lib.hid (show (((x - y - c) : Nat) : Int) = ((x : Int) - (c : Int) - (y : Int)) by omega)
          clear hF hAw hx hDw hy
          go_wp2_with (at_builtin; refine wpList_append_own _ rfl (.tmp 37) (.tmp 40) 91 rfl w.heap.size 119 i0' (.int .u32 0) 1 4 Tryz.underlying91 hi hz0 hz1 hz2 rfl (by decide) _ _ _ rfl (HO.out.alloc _) ⟨wr.heap.size, 0, none⟩ 1 1 [.int .u32 (((x : Int) - (c : Int) - (y : Int)))] rfl rfl (by intro j u hj; match j, hj with | 0, hj => (simp at hj; subst hj; simp [Addr.add])) (by intro u hu; simp at hu; subst hu; rfl) (by unfold maxLen; omega) (by omega) (by simp; omega) ?_)
          intro v' w1 hown' hgrow _
          have hB1 := (HB.out.alloc (Nat.le_of_lt_succ (by omega)) (.cells #[.int .u32 (((x : Int) - (c : Int) - (y : Int)))] 119)).grown hgrow (by simp; omega) (fun k e => (HO.out.lt k e).1)
          rw [← Ev.out] at hown'
          have Fin := Lib.hid (show ∃ (k' c' : Nat) (L' : List Nat), k' ≤ na ∧ Value.int .i64 0 = .int .i64 (c' : Int) ∧ Value.int .i64 ((k : Int) + 1) = .int .i64 (k' : Int) ∧ RMIn a b L' k' c' ∧ OwnL w1 w.heap.size v' L' ∧ Below w.heap.size w w1 from ⟨k + 1, _, _, by omega, by rfl, by simp, St.out, own_snoc (by rw [hL]; exact hown'), hB1⟩)
          clear hown' hgrow hB1
          go_wp2
          go_roundw
          case rel => exact Fin.out
          case measure => simp [intOf]; omega
      · have j1 : ¬ (k : Int) < (nb : Int) := by omega
        have hy := at0_out (b := b) (i := k) (by omega)
        by_cases ht : x < 0 + c
        · have St := Lib.hid (hF.lt HA.out.lb HD.out.lb hx hy ht)
          have t1 : ((x : Int) - (c : Int)) < 0 := by omega
          have Ev := Lib.hid (show (((x + 4294967296 - 0 - c) : Nat) : Int) = ((x : Int) - (c : Int)) + 4294967296 by omega)
          clear hF hAw hx
          go_wp2_with (at_builtin; refine wpList_append_own _ rfl (.tmp 37) (.tmp 40) 91 rfl w.heap.size 119 i0' (.int .u32 0) 1 4 Tryz.underlying91 hi hz0 hz1 hz2 rfl (by decide) _ _ _ rfl (HO.out.alloc _) ⟨wr.heap.size, 0, none⟩ 1 1 [.int .u32 (((x : Int) - (c : Int)) + 4294967296)] rfl rfl (by intro j u hj; match j, hj with | 0, hj => (simp at hj; subst hj; simp [Addr.add])) (by intro u hu; simp at hu; subst hu; rfl) (by unfold maxLen; omega) (by omega) (by simp; omega) ?_)
          intro v' w1 hown' hgrow _
          have hB1 := (HB.out.alloc (Nat.le_of_lt_succ (by omega)) (.cells #[.int .u32 (((x : Int) - (c : Int)) + 4294967296)] 119)).grown hgrow (by simp; omega) (fun k e => (HO.out.lt k e).1)
          rw [← Ev.out] at hown'
          have Fin := Lib.hid (show ∃ (k' c' : Nat) (L' : List Nat), k' ≤ na ∧ Value.int .i64 1 = .int .i64 (c' : Int) ∧ Value.int .i64 ((k : Int) + 1) = .int .i64 (k' : Int) ∧ RMIn a b L' k' c' ∧ OwnL w1 w.heap.size v' L' ∧ Below w.heap.size w w1 from ⟨k + 1, _, _, by omega, by rfl, by simp, St.out, own_snoc (by rw [hL]; exact hown'), hB1⟩)
          clear hown' hgrow hB1
          go_wp2
          go_roundw
          case rel => exact Fin.out
          case measure => simp [intOf]; omega
        · have St := Lib.hid (hF.ge HA.out.lb HD.out.lb hx hy ht)
          have t1 : ¬ ((x : Int) - (c : Int)) < 0 := by omega
          have t2 := decide_eq_false t1
          have Ev := Lib.hid (show (((x - 0 - c) : Nat) : Int) = ((x : Int) - (c : Int)) by omega)
          clear hF hAw hx
          go_wp2_with (at_builtin; refine wpList_append_own _ rfl (.tmp 37) (.tmp 40) 91 rfl w.heap.size 119 i0' (.int .u32 0) 1 4 Tryz.underlying91 hi hz0 hz1 hz2 rfl (by decide) _ _ _ rfl (HO.out.alloc _) ⟨wr.heap.size, 0, none⟩ 1 1 [.int .u32 (((x : Int) - (c : Int)))] rfl rfl (by intro j u hj; match j, hj with | 0, hj => (simp at hj; subst hj; simp [Addr.add])) (by intro u hu; simp at hu; subst hu; rfl) (by unfold maxLen; omega) (by omega) (by simp; omega) ?_)
          intro v' w1 hown' hgrow _
          have hB1 := (HB.out.alloc (Nat.le_of_lt_succ (by omega)) (.cells #[.int .u32 (((x : Int) - (c : Int)))] 119)).grown hgrow (by simp; omega) (fun k e => (HO.out.lt k e).1)
          rw [← Ev.out] at hown'
          have Fin := Lib.hid (show ∃ (k' c' : Nat) (L' : List Nat), k' ≤ na ∧ Value.int .i64 0 = .int .i64 (c' : Int) ∧ Value.int .i64 ((k : Int) + 1) = .int .i64 (k' : Int) ∧ RMIn a b L' k' c' ∧ OwnL w1 w.heap.size v' L' ∧ Below w.heap.size w w1 from ⟨k + 1, _, _, by omega, by rfl, by simp, St.out, own_snoc (by rw [hL]; exact hown'), hB1⟩)
          clear hown' hgrow hB1
          go_wp2
          go_roundw
          case rel => exact Fin.out
          case measure => simp [intOf]; omega
    · obtain rfl : k = na := by omega
      have FF := Lib.hid (hF.fin (a := a) (b := b) (by omega) (by omega) HV.out)
      have hlb := hF.lb
      clear hF
      obtain ⟨g, cp, rfl, hcp, hg, hrow⟩ := own_row HO.out (by omega)
      have hgl := (HO.out.lt g rfl).2
      have tw := rtrim_walk L g 0 L.length cp wr (Row.lim0 hrow hlb hcp (by omega)) hgl
      rw [FF.out, hL] at tw
      have TW := Lib.hid tw
      clear tw hrow
      simp only [hL]
      go_wp2_with fail
      refine TW.out.mono ?_
      rintro e w1 ⟨V, rfl, hO, hb1⟩
      have Fin := Lib.hid (show ∃ V', Ending.returned V = .returned V' ∧ OwnL w1 w.heap.size V' (canon (val a - val b)) ∧ Below w.heap.size w w1 from ⟨V, rfl, own_mono hO hsz, below_then HB.out hb1⟩)
      clear hO hb1
      go_wp2
      refine bodyPost_ret (results_tmp rfl _ _ _) rfl ?_
      exact Fin.out
end Wd
end Go.Proofs.YtjgcbeihgeaimaaGreatDoor
/-
  The reference's whole numbers: plus, of any two numbers.
-/
namespace Go.Proofs.YtjgcbeihgeaimaaGreatDoor
namespace Wd
open Go.RowKit Lw

set_option maxRecDepth 100000 in
set_option maxHeartbeats 4000000 in
theorem rplus_all (a b : List Nat) (A D : Option Addr) (na ca nb cb : Nat) (w : World) (hA : Lim w A na ca a) (hD : Lim w D nb cb b) (n : Nat) (ha : na ≤ n) (hb : nb ≤ n) (hnn : n ≤ na ∨ n ≤ nb) (hn : n + 1 ≤ 1000000) :
    Calls Tryz.prog 125 #[.slice A na ca, .slice D nb cb] w fun e w' => ∃ V L, e = .returned V ∧ L.length = n + 1 ∧ Lb L ∧ val L = val a + val b ∧ OwnL w' w.heap.size V L ∧ Below w.heap.size w w' := by
  have la := hA.len
  have lb := hD.len
  have HA := Lib.hid hA
  have HD := Lib.hid hD
  obtain ⟨i0', hi, hzz⟩ := Option.map_eq_some_iff.1 info4
  simp only [Prod.mk.injEq] at hzz
  obtain ⟨hz0, hz1, hz2⟩ := hzz
  clear hA hD
  go_enter Tryz.func125, Tryz.ntmps125
  go_wp2
  have hA0 : OwnL w w.heap.size (.slice none 0 0) [] := World.ownsRow_nil _ _ _ _
  have hB0 := Below.refl w.heap.size w
  go_loopw [5, 6, 7] (fun V c i wr => ∃ (k cc : Nat) (L : List Nat), k ≤ n ∧ c = .int .u64 cc ∧ i = .int .i64 k ∧ RPIn a b L k cc ∧ OwnL wr w.heap.size V L ∧ Below w.heap.size w wr) (fun _ _ i _ => n - (intOf i).toNat)
  case atStart => exact ⟨0, 0, [], by omega, rfl, rfl, RPIn.zero a b, hA0, hB0⟩
  case round =>
    clear hA0 hB0
    obtain ⟨k, c, L, hk, rfl, rfl, hF, hO, hB⟩ := hrel
    have hL := hF.len
    have hc := hF.c1
    have hsz := hB.size
    have HO := Lib.hid hO
    have HB := Lib.hid hB
    clear hO hB
    by_cases hlt : k < na
    · have hAw := HA.out.below HB.out
      obtain ⟨bA, oA, rfl, -, -⟩ := hAw.row (by omega)
      have cA := hAw.cell (k := k) (by omega)
      have i1 : (k : Int) < (na : Int) := by omega
      have xb := lb_get hAw.lb (k := k) (by omega)
      have st := hF.step hAw.lb HD.out.lb
      have yb := at0_lt HD.out.lb k
      rw [at0_in (b := a) (by omega)] at st
      generalize a[k]'(by omega) = x at cA xb st
      by_cases hib : k < nb
      · have hDw := HD.out.below HB.out
        obtain ⟨bD, oD, rfl, -, -⟩ := hDw.row (by omega)
        have cD := hDw.cell (k := k) (by omega)
        have j1 : (k : Int) < (nb : Int) := by omega
        rw [at0_in (b := b) (by omega)] at st yb
        generalize b[k]'(by omega) = y at cD st yb
        have Ev := Lib.hid (show (((c + x + y) % 4294967296 : Nat) : Int) = ((c : Int) + (x : Int) + (y : Int)) % 4294967296 by omega)
        have Ed := Lib.hid (show (((c + x + y) / 4294967296 : Nat) : Int) = ((c : Int) + (x : Int) + (y : Int)) / 4294967296 by omega)
        have St := Lib.hid st
        clear st hF hAw hDw
        go_wp2_with (at_builtin; refine wpList_append_own _ rfl (.tmp 42) (.tmp 45) 91 rfl w.heap.size 119 i0' (.int .u32 0) 1 4 Tryz.underlying91 hi hz0 hz1 hz2 rfl (by decide) _ _ _ rfl (HO.out.alloc _) ⟨wr.heap.size, 0, none⟩ 1 1 [.int .u32 (((c : Int) + (x : Int) + (y : Int)) % 4294967296)] rfl rfl (by intro j u hj; match j, hj with | 0, hj => (simp at hj; subst hj; simp [Addr.add])) (by intro u hu; simp at hu; subst hu; rfl) (by unfold maxLen; omega) (by omega) (by simp; omega) ?_)
        intro v' w1 hown' hgrow _
        have hB1 := (HB.out.alloc (Nat.le_of_lt_succ (by omega)) (.cells #[.int .u32 (((c : Int) + (x : Int) + (y : Int)) % 4294967296)] 119)).grown hgrow (by simp; omega) (fun k e => (HO.out.lt k e).1)
        rw [← Ev.out] at hown'
        have Fin := Lib.hid (show ∃ (k' c' : Nat) (L' : List Nat), k' ≤ n ∧ Value.int .u64 (((c : Int) + (x : Int) + (y : Int)) / 4294967296) = .int .u64 (c' : Int) ∧ Value.int .i64 ((k : Int) + 1) = .int .i64 (k' : Int) ∧ RPIn a b L' k' c' ∧ OwnL w1 w.heap.size v' L' ∧ Below w.heap.size w w1 from ⟨k + 1, _, _, by omega, by rw [← Ed.out], by simp, St.out, own_snoc (by rw [hL]; exact hown'), hB1⟩)
        clear hown' hgrow hB1
        go_wp2
        go_roundw
        case rel => exact Fin.out
        case measure => simp [intOf]; omega
      · have j1 : ¬ (k : Int) < (nb : Int) := by omega
        rw [at0_out (b := b) (by omega), Nat.add_zero] at st
        have Ev := Lib.hid (show (((c + x) % 4294967296 : Nat) : Int) = ((c : Int) + (x : Int)) % 4294967296 by omega)
        have Ed := Lib.hid (show (((c + x) / 4294967296 : Nat) : Int) = ((c : Int) + (x : Int)) / 4294967296 by omega)
        have St := Lib.hid st
        clear st hF hAw
        go_wp2_with (at_builtin; refine wpList_append_own _ rfl (.tmp 42) (.tmp 45) 91 rfl w.heap.size 119 i0' (.int .u32 0) 1 4 Tryz.underlying91 hi hz0 hz1 hz2 rfl (by decide) _ _ _ rfl (HO.out.alloc _) ⟨wr.heap.size, 0, none⟩ 1 1 [.int .u32 (((c : Int) + (x : Int)) % 4294967296)] rfl rfl (by intro j u hj; match j, hj with | 0, hj => (simp at hj; subst hj; simp [Addr.add])) (by intro u hu; simp at hu; subst hu; rfl) (by unfold maxLen; omega) (by omega) (by simp; omega) ?_)
        intro v' w1 hown' hgrow _
        have hB1 := (HB.out.alloc (Nat.le_of_lt_succ (by omega)) (.cells #[.int .u32 (((c : Int) + (x : Int)) % 4294967296)] 119)).grown hgrow (by simp; omega) (fun k e => (HO.out.lt k e).1)
        rw [← Ev.out] at hown'
        have Fin := Lib.hid (show ∃ (k' c' : Nat) (L' : List Nat), k' ≤ n ∧ Value.int .u64 (((c : Int) + (x : Int)) / 4294967296) = .int .u64 (c' : Int) ∧ Value.int .i64 ((k : Int) + 1) = .int .i64 (k' : Int) ∧ RPIn a b L' k' c' ∧ OwnL w1 w.heap.size v' L' ∧ Below w.heap.size w w1 from ⟨k + 1, _, _, by omega, by rw [← Ed.out], by simp, St.out, own_snoc (by rw [hL]; exact hown'), hB1⟩)
        clear hown' hgrow hB1
        go_wp2
        go_roundw
        case rel => exact Fin.out
        case measure => simp [intOf]; omega
    · by_cases hib : k < nb
      · have hDw := HD.out.below HB.out
        obtain ⟨bD, oD, rfl, -, -⟩ := hDw.row (by omega)
        have cD := hDw.cell (k := k) (by omega)
        have i1 : ¬ (k : Int) < (na : Int) := by omega
        have j1 : (k : Int) < (nb : Int) := by omega
        have st := hF.step HA.out.lb hDw.lb
        have yb := lb_get hDw.lb (k := k) (by omega)
        rw [at0_out (b := a) (by omega), Nat.add_zero, at0_in (b := b) (by omega)] at st
        generalize b[k]'(by omega) = y at cD st yb
        have Ev := Lib.hid (show (((c + y) % 4294967296 : Nat) : Int) = ((c : Int) + (y : Int)) % 4294967296 by omega)
        have Ed := Lib.hid (show (((c + y) / 4294967296 : Nat) : Int) = ((c : Int) + (y : Int)) / 4294967296 by omega)
        have St := Lib.hid st
        clear st hF hDw
        go_wp2_with (at_builtin; refine wpList_append_own _ rfl (.tmp 42) (.tmp 45) 91 rfl w.heap.size 119 i0' (.int .u32 0) 1 4 Tryz.underlying91 hi hz0 hz1 hz2 rfl (by decide) _ _ _ rfl (HO.out.alloc _) ⟨wr.heap.size, 0, none⟩ 1 1 [.int .u32 (((c : Int) + (y : Int)) % 4294967296)] rfl rfl (by intro j u hj; match j, hj with | 0, hj => (simp at hj; subst hj; simp [Addr.add])) (by intro u hu; simp at hu; subst hu; rfl) (by unfold maxLen; omega) (by omega) (by simp; omega) ?_)
        intro v' w1 hown' hgrow _
        have hB1 := (HB.out.alloc (Nat.le_of_lt_succ (by omega)) (.cells #[.int .u32 (((c : Int) + (y : Int)) % 4294967296)] 119)).grown hgrow (by simp; omega) (fun k e => (HO.out.lt k e).1)
        rw [← Ev.out] at hown'
        have Fin := Lib.hid (show ∃ (k' c' : Nat) (L' : List Nat), k' ≤ n ∧ Value.int .u64 (((c : Int) + (y : Int)) / 4294967296) = .int .u64 (c' : Int) ∧ Value.int .i64 ((k : Int) + 1) = .int .i64 (k' : Int) ∧ RPIn a b L' k' c' ∧ OwnL w1 w.heap.size v' L' ∧ Below w.heap.size w w1 from ⟨k + 1, _, _, by omega, by rw [← Ed.out], by simp, St.out, own_snoc (by rw [hL]; exact hown'), hB1⟩)
        clear hown' hgrow hB1
        go_wp2
        go_roundw
        case rel => exact Fin.out
        case measure => simp [intOf]; omega
      · obtain rfl : k = n := by omega
        have i1 : ¬ (k : Int) < (na : Int) := by omega
        have hcb : (c : Int) % 4294967296 = c := by omega
        have j1 : ¬ (k : Int) < (nb : Int) := by omega
        have FF := Lib.hid (hF.fin (a := a) (b := b) (by omega) (by omega))
        clear hF
        go_wp2_with (at_builtin; refine wpList_append_own _ rfl (.tmp 49) (.tmp 52) 91 rfl w.heap.size 119 i0' (.int .u32 0) 1 4 Tryz.underlying91 hi hz0 hz1 hz2 rfl (by decide) _ _ _ rfl (HO.out.alloc _) ⟨wr.heap.size, 0, none⟩ 1 1 [.int .u32 (c : Int)] rfl rfl (by intro j u hj; match j, hj with | 0, hj => (simp at hj; subst hj; simp [Addr.add])) (by intro u hu; simp at hu; subst hu; rfl) (by unfold maxLen; omega) (by omega) (by simp; omega) ?_)
        intro v' w1 hown' hgrow _
        have hB1 := (HB.out.alloc (Nat.le_of_lt_succ (by omega)) (.cells #[.int .u32 (c : Int)] 119)).grown hgrow (by simp; omega) (fun k e => (HO.out.lt k e).1)
        have Fin := Lib.hid (show ∃ V L', Ending.returned v' = .returned V ∧ L'.length = k + 1 ∧ Lb L' ∧ val L' = val a + val b ∧ OwnL w1 w.heap.size V L' ∧ Below w.heap.size w w1 from ⟨v', L ++ [c], rfl, FF.out.2.2, FF.out.2.1, FF.out.1, own_snoc (by rw [hL]; exact hown'), hB1⟩)
        clear hown' hgrow hB1
        go_wp2
        refine bodyPost_ret (results_tmp rfl _ _ _) rfl ?_
        exact Fin.out
end Wd
end Go.Proofs.YtjgcbeihgeaimaaGreatDoor
/-
  The reference's whole numbers: sum, Add and Sub of any two numbers.
-/
namespace Go.Proofs.YtjgcbeihgeaimaaGreatDoor
namespace Wd
open Go.RowKit Lw

theorem rplus_arm2 (X Y : Nat) (A D : Option Addr) (na ca nb cb : Nat) (w : World) (hA : Lim w A na ca (canon X)) (hD : Lim w D nb cb (canon Y)) (hn : na + 1 ≤ 4096) (hm : nb + 1 ≤ 4096) :
    Calls Tryz.prog 125 #[.slice A na ca, .slice D nb cb] w fun e w' => ∃ g cp n L, e = .returned (.slice (some ⟨g, 0, none⟩) n cp) ∧ Lim w' (some ⟨g, 0, none⟩) n cp L ∧ g < w'.heap.size ∧ (canon (val L)).length ≤ 4096 ∧ val L = X + Y ∧ Below w.heap.size w w' := by
  refine (rplus_all _ _ A D na ca nb cb w hA hD (max na nb) (by omega) (by omega) (by omega) (by omega)).mono ?_
  rintro e w' ⟨V, L, rfl, h1, h2, h3, hO, hb⟩
  obtain ⟨g, cp, rfl, hcp, hg, hrow⟩ := own_row hO (by omega)
  rw [val_canon, val_canon] at h3
  have := canon_le L h2
  exact ⟨g, cp, _, L, rfl, Row.lim0 hrow h2 hcp (by omega), (hO.lt g rfl).2, by omega, h3, hb⟩
theorem rminus_arm2 (X Y : Nat) (A D : Option Addr) (na ca nb cb : Nat) (w : World) (hA : Lim w A na ca (canon X)) (hD : Lim w D nb cb (canon Y)) (hn : na ≤ 4096) (hp : 0 < na) (hle : Y ≤ X) :
    Calls Tryz.prog 126 #[.slice A na ca, .slice D nb cb] w fun e w' => ∃ a cp n L, e = .returned (.slice a n cp) ∧ Lim w' a n cp L ∧ (canon (val L)).length ≤ 4096 ∧ val L = X - Y ∧ Below w.heap.size w w' := by
  have la := hA.len
  have lb := hD.len
  have hm := canon_mono hle
  have hm2 := canon_mono (Nat.sub_le X Y)
  refine (rminus_walk _ _ A D na ca nb cb w hA hD hp (by omega) (by rw [val_canon, val_canon]; omega)).mono ?_
  rintro e w' ⟨V, rfl, hO, hb⟩
  rw [val_canon, val_canon] at hO
  obtain ⟨a, cp, rfl, hL, -⟩ := own_lim hO (lb_canon _) (by omega)
  exact ⟨a, cp, _, _, rfl, hL, by rw [val_canon]; omega, val_canon _, hb⟩
set_option maxRecDepth 100000 in
set_option maxHeartbeats 4000000 in
theorem rsum_all (V1 V2 : Value) (z1 z2 : Int) (w : World) (h1 : Wide 0 w V1 z1) (h2 : Wide 0 w V2 z2) (hn : (canon z1.natAbs).length + 1 ≤ 4096) (hm : (canon z2.natAbs).length + 1 ≤ 4096) :
    Calls Tryz.prog 113 #[V1, V2] w (NumPost w (z1 + z2)) := by
  obtain ⟨a, n, ca, rfl, hA, -⟩ := h1
  obtain ⟨d, m, cd, rfl, hD, -⟩ := h2
  have la := hA.len
  have ld := hD.len
  rw [la] at hn
  rw [ld] at hm
  have PA := (canon_lenpos z1.natAbs).2
  have PD := (canon_lenpos z2.natAbs).2
  rw [la] at PA
  rw [ld] at PD
  have PA := Lib.hid PA
  have PD := Lib.hid PD
  have hS0 := BX.new w (decide (z1 < 0)) (decide (z2 < 0)) (.slice a n ca) (.slice d m cd)
  have HA := Lib.hid hA
  have HD := Lib.hid hD
  have HS := Lib.hid hS0
  have SS := Lib.hid (add_same (z1 := z1) (z2 := z2))
  have SD := Lib.hid (add_diff (z1 := z1) (z2 := z2))
  have SD2 := Lib.hid (add_diff (z1 := z2) (z2 := z1))
  clear hA hD hS0 la ld
  have MP0 : ¬ decide (z1 < 0) = decide (z2 < 0) → z2.natAbs ≤ z1.natAbs → 0 < z1.natAbs := fun h g => by
    rcases Nat.eq_zero_or_pos z1.natAbs with e | e
    · have e1 : z1 = 0 := by omega
      have e2 : z2 = 0 := by omega
      rw [e1, e2] at h
      exact absurd rfl h
    · exact e
  have MP0 := Lib.hid MP0
  generalize decide (z1 < 0) = n1 at *
  generalize decide (z2 < 0) = n2 at *
  go_enter Tryz.func113, Tryz.ntmps113
  have hS := HS.out
  have hSL := hS.s
  obtain ⟨s1, s2, s3, s4, -⟩ := hSL
  by_cases hq : n1 = n2
  · subst hq
    have T := Lib.hid (SS.out rfl)
    clear SS SD SD2 HS
    go_wp2_with fail
    clear s1 s2 s3 s4
    have KA := fun w' (h : BXS w n1 n1 (.slice a n ca) (.slice d m cd) w') => HA.out.below h.2.2.2.2.2.2.2.2.below
    have KD := fun w' (h : BXS w n1 n1 (.slice a n ca) (.slice d m cd) w') => HD.out.below h.2.2.2.2.2.2.2.2.below
    have KC := fun w' w2 (h : BXS w n1 n1 (.slice a n ca) (.slice d m cd) w') (hb : Below w'.heap.size w' w2) => h.2.2.2.2.2.2.2.2.call hb
    go_region_held3 (fun w' => w'.cell? ⟨w.heap.size, 0, none⟩ = some (.bool n1) ∧ w'.cell? ⟨w.heap.size, 1, none⟩ = some (.slice a n ca) ∧ w'.cell? ⟨w.heap.size + 1, 0, none⟩ = some (.bool n1) ∧ w'.cell? ⟨w.heap.size + 1, 1, none⟩ = some (.slice d m cd) ∧ w'.cell? ⟨w.heap.size + 2, 0, none⟩ = some (cellOf w' ⟨w.heap.size + 2, 0, none⟩) ∧ w'.cell? ⟨w.heap.size + 2, 1, none⟩ = some (cellOf w' ⟨w.heap.size + 2, 1, none⟩) ∧ w'.frozen? ⟨w.heap.size + 2, 0, none⟩ = false ∧ w'.frozen? ⟨w.heap.size + 2, 1, none⟩ = false ∧ BX w n1 n1 (.slice a n ca) (.slice d m cd) w') (first | exact BX.s (BX.drew hS) | exact BX.s hS | exact BX.s hk2 | exact BX.s hk | exact BX.s (BX.set (BX.set hk2 _ _) _ _) | exact BX.s (by assumption)) (first | (go_at_call 125; refine (rplus_arm2 _ _ _ _ n ca m cd _ (KA _ (by assumption)) (KD _ (by assumption)) hn hm).mono ?_; rintro e w' ⟨g, cp, nn, L, rfl, hL1, hL2, hL4, hL3, hb⟩; have hk := KC _ _ (by assumption) hb; have HL3 := Lib.hid hL3; clear hb hL3) | (go_at_call 111; refine (rmade_walk _ L _ 0 _ _ _ hL1 hL2 hL4).mono ?_; rintro e w' ⟨V, rfl, ⟨a', k', c', rfl, hM, hf⟩, hb⟩; have hk2 := BX.call hk hb; clear hb))
    have e : sgn n1 (val L) = z1 + z2 := by rw [HL3.out, ← T.out.1]; exact T.out.2
    have hs := hS.size
    have hks := hk.size
    rw [e] at hM ⊢
    have FF := Lib.hid (num_fin2 hk2 hM (fun b off e => Nat.le_trans hks (hf b off e)))
    clear hM hf e
    go_wp2_with fail
    exact bodyPost_ret (ret_cell_tmp Tryz.results113 _ _ (w.heap.size + 2) [.bool _, .slice _ _ _] _ rfl FF.out.1 Tryz.underlying93 rfl infoW) rfl FF.out.2
  · have hq2 : ¬ n2 = n1 := fun e => hq e.symm
    rcases Nat.lt_or_ge z1.natAbs z2.natAbs with hlt | hge
    · have T := Lib.hid (SD2.out hq2 (Nat.le_of_lt hlt))
      have CC := Lib.hid (fun w' (hb : Below w.heap.size w w') => rcompare_walk z1.natAbs z2.natAbs a d n ca m cd w' (HA.out.below hb) (HD.out.below hb))
      have HLT := Lib.hid hlt
      have mp := PD.out (Nat.lt_of_le_of_lt (Nat.zero_le _) HLT.out)
      clear SS SD SD2 hlt
      go_wp2_with fail
      · exact absurd (eq_of_beq ‹(n1 == n2) = true›) hq
      refine (CC.out _ HS.out.below).mono ?_
      rintro e w1 ⟨rfl, hb⟩
      rw [cmp_lt HLT.out]
      have hS := HS.out.call hb
      clear hb HS CC s1 s2 s3 s4
      go_wp2_with fail
      have KA := fun w' (h : BXS w n1 n2 (.slice a n ca) (.slice d m cd) w') => HA.out.below h.2.2.2.2.2.2.2.2.below
      have KD := fun w' (h : BXS w n1 n2 (.slice a n ca) (.slice d m cd) w') => HD.out.below h.2.2.2.2.2.2.2.2.below
      have KC := fun w' w2 (h : BXS w n1 n2 (.slice a n ca) (.slice d m cd) w') (hb : Below w'.heap.size w' w2) => h.2.2.2.2.2.2.2.2.call hb
      go_region_held3 (fun w' => w'.cell? ⟨w.heap.size, 0, none⟩ = some (.bool n1) ∧ w'.cell? ⟨w.heap.size, 1, none⟩ = some (.slice a n ca) ∧ w'.cell? ⟨w.heap.size + 1, 0, none⟩ = some (.bool n2) ∧ w'.cell? ⟨w.heap.size + 1, 1, none⟩ = some (.slice d m cd) ∧ w'.cell? ⟨w.heap.size + 2, 0, none⟩ = some (cellOf w' ⟨w.heap.size + 2, 0, none⟩) ∧ w'.cell? ⟨w.heap.size + 2, 1, none⟩ = some (cellOf w' ⟨w.heap.size + 2, 1, none⟩) ∧ w'.frozen? ⟨w.heap.size + 2, 0, none⟩ = false ∧ w'.frozen? ⟨w.heap.size + 2, 1, none⟩ = false ∧ BX w n1 n2 (.slice a n ca) (.slice d m cd) w') (first | exact BX.s (BX.drew hS) | exact BX.s hS | exact BX.s hk2 | exact BX.s hk | exact BX.s (BX.set (BX.set hk2 _ _) _ _) | exact BX.s (by assumption)) (first | (go_at_call 126; refine (rminus_arm2 _ _ _ _ m cd n ca _ (KD _ (by assumption)) (KA _ (by assumption)) (Nat.le_of_succ_le hm) mp (Nat.le_of_lt HLT.out)).mono ?_; rintro e w' ⟨g, cp, nn, L, rfl, hL1, hL4, hL3, hb⟩; have hk := KC _ _ (by assumption) hb; have HL3 := Lib.hid hL3; clear hb hL3) | (go_at_call 111; refine (rmade_all _ L _ _ _ _ hL1 hL4).mono ?_; rintro e w' ⟨V, rfl, ⟨a', k', c', rfl, hM, hf⟩, hb⟩; have hk2 := BX.call hk hb; clear hb))
      have e : sgn n2 (val L) = z1 + z2 := by rw [HL3.out, ← T.out.1, Int.add_comm z1 z2]; exact T.out.2
      have hs := hS.size
      have hks := hk.size
      rw [e] at hM ⊢
      have FF := Lib.hid (num_fin2 hk2 hM (fun b off e => Nat.le_trans hks (hf b off e)))
      clear hM hf e
      go_wp2_with fail
      exact bodyPost_ret (ret_cell_tmp Tryz.results113 _ _ (w.heap.size + 2) [.bool _, .slice _ _ _] _ rfl FF.out.1 Tryz.underlying93 rfl infoW) rfl FF.out.2

    · have T := Lib.hid (SD.out hq hge)
      have CC := Lib.hid (fun w' (hb : Below w.heap.size w w') => rcompare_walk z1.natAbs z2.natAbs a d n ca m cd w' (HA.out.below hb) (HD.out.below hb))
      have HGE := Lib.hid hge
      have mp := PA.out (MP0.out hq HGE.out)
      have ck : (0 : Int) ≤ cmpN z1.natAbs z2.natAbs := by
        rcases Nat.lt_or_eq_of_le HGE.out with g | g
        · rw [cmp_gt g]; omega
        · rw [g, cmp_eq]; omega
      generalize cmpN z1.natAbs z2.natAbs = cc at *
      clear SS SD SD2 hge
      go_wp2_with fail
      · exact absurd (eq_of_beq ‹(n1 == n2) = true›) hq
      refine (CC.out _ HS.out.below).mono ?_
      rintro e w1 ⟨rfl, hb⟩
      have hS := HS.out.call hb
      clear hb HS CC s1 s2 s3 s4
      go_wp2_with fail
      have KA := fun w' (h : BXS w n1 n2 (.slice a n ca) (.slice d m cd) w') => HA.out.below h.2.2.2.2.2.2.2.2.below
      have KD := fun w' (h : BXS w n1 n2 (.slice a n ca) (.slice d m cd) w') => HD.out.below h.2.2.2.2.2.2.2.2.below
      have KC := fun w' w2 (h : BXS w n1 n2 (.slice a n ca) (.slice d m cd) w') (hb : Below w'.heap.size w' w2) => h.2.2.2.2.2.2.2.2.call hb
      go_region_held3 (fun w' => w'.cell? ⟨w.heap.size, 0, none⟩ = some (.bool n1) ∧ w'.cell? ⟨w.heap.size, 1, none⟩ = some (.slice a n ca) ∧ w'.cell? ⟨w.heap.size + 1, 0, none⟩ = some (.bool n2) ∧ w'.cell? ⟨w.heap.size + 1, 1, none⟩ = some (.slice d m cd) ∧ w'.cell? ⟨w.heap.size + 2, 0, none⟩ = some (cellOf w' ⟨w.heap.size + 2, 0, none⟩) ∧ w'.cell? ⟨w.heap.size + 2, 1, none⟩ = some (cellOf w' ⟨w.heap.size + 2, 1, none⟩) ∧ w'.frozen? ⟨w.heap.size + 2, 0, none⟩ = false ∧ w'.frozen? ⟨w.heap.size + 2, 1, none⟩ = false ∧ BX w n1 n2 (.slice a n ca) (.slice d m cd) w') (first | exact BX.s (BX.drew hS) | exact BX.s hS | exact BX.s hk2 | exact BX.s hk | exact BX.s (BX.set (BX.set hk2 _ _) _ _) | exact BX.s (by assumption)) (first | (go_at_call 126; refine (rminus_arm2 _ _ _ _ n ca m cd _ (KA _ (by assumption)) (KD _ (by assumption)) (Nat.le_of_succ_le hn) mp HGE.out).mono ?_; rintro e w' ⟨g, cp, nn, L, rfl, hL1, hL4, hL3, hb⟩; have hk := KC _ _ (by assumption) hb; have HL3 := Lib.hid hL3; clear hb hL3) | (go_at_call 111; refine (rmade_all _ L _ _ _ _ hL1 hL4).mono ?_; rintro e w' ⟨V, rfl, ⟨a', k', c', rfl, hM, hf⟩, hb⟩; have hk2 := BX.call hk hb; clear hb))
      have e : sgn n1 (val L) = z1 + z2 := by rw [HL3.out, ← T.out.1]; exact T.out.2
      have hs := hS.size
      have hks := hk.size
      rw [e] at hM ⊢
      have FF := Lib.hid (num_fin2 hk2 hM (fun b off e => Nat.le_trans hks (hf b off e)))
      clear hM hf e
      go_wp2_with fail
      exact bodyPost_ret (ret_cell_tmp Tryz.results113 _ _ (w.heap.size + 2) [.bool _, .slice _ _ _] _ rfl FF.out.1 Tryz.underlying93 rfl infoW) rfl FF.out.2
set_option maxRecDepth 100000 in
set_option maxHeartbeats 4000000 in
theorem radd_all (V1 V2 : Value) (z1 z2 : Int) (w : World) (h1 : Wide 0 w V1 z1) (h2 : Wide 0 w V2 z2) (hn : (canon z1.natAbs).length + 1 ≤ 4096) (hm : (canon z2.natAbs).length + 1 ≤ 4096) :
    Calls Tryz.prog 93 #[V1, V2] w (NumPost w (z1 + z2)) := by
  have RB := Lib.hid (fun w' (hb : Below w.heap.size w w') => rboth_walk V1 V2 z1 z2 w' (h1.below hb) (h2.below hb) (by omega) (by omega))
  have AW := Lib.hid (fun w' (hb : Below w.heap.size w w') => rsum_all V1 V2 z1 z2 w' (h1.below hb) (h2.below hb) hn hm)
  obtain ⟨a, n, ca, rfl, hA, -⟩ := h1
  obtain ⟨d, m, cd, rfl, hD, -⟩ := h2
  have HS := Lib.hid (BX.new w (decide (z1 < 0)) (decide (z2 < 0)) (.slice a n ca) (.slice d m cd))
  clear hA hD hn hm
  generalize decide (z1 < 0) = n1 at *
  generalize decide (z2 < 0) = n2 at *
  go_enter Tryz.func93, Tryz.ntmps93
  go_wp2_with fail
  refine (RB.out _ HS.out.below).mono ?_
  rintro e w1 ⟨rfl, hb⟩
  have hS := HS.out.call hb
  obtain ⟨s1, s2, s3, s4, -⟩ := hS.s
  have hs := hS.size
  have aw := AW.out w1 hS.below
  have HSS := Lib.hid hS
  clear hb HS RB hS AW
  go_wp2_with fail
  refine aw.mono ?_
  rintro e w2 ⟨V, rfl, ⟨a', k, cap, rfl, hM, hg⟩, hb⟩
  have hS2 := HSS.out.call hb
  obtain ⟨-, -, -, -, s5, s6, s7, s8, -⟩ := hS2.s
  have F := Lib.hid (num_fin2 hS2 hM (fun b off e => Nat.le_trans hs (hg b off e)))
  clear s1 s2 s3 s4 aw hb hM hg HSS hS2
  go_wp2_with fail
  exact bodyPost_ret (ret_cell_tmp Tryz.results93 _ _ (w.heap.size + 2) [.bool _, .slice _ _ _] _ rfl F.out.1 Tryz.underlying93 rfl infoW) rfl F.out.2
end Wd
end Go.Proofs.YtjgcbeihgeaimaaGreatDoor
/-
  The reference's whole numbers: left, at less than 32 bits.
-/
namespace Go.Proofs.YtjgcbeihgeaimaaGreatDoor
namespace Wd
open Go.RowKit Lw

set_option maxRecDepth 100000 in
set_option maxHeartbeats 4000000 in
theorem rleft_walk (l : List Nat) (A : Option Addr) (n cap s : Nat) (w : World) (hA : Lim w A n cap l) (hs : s < 32) (hn : n + 1 ≤ 1000000) :
    Calls Tryz.prog 134 #[.slice A n cap, .int .u64 (s : Int)] w fun e w' => ∃ V L, e = .returned V ∧ L.length = n + 1 ∧ Lb L ∧ val L = val l * 2 ^ s ∧ OwnL w' w.heap.size V L ∧ Below w.heap.size w w' := by
  have la := hA.len
  obtain ⟨i0', hi, hzz⟩ := Option.map_eq_some_iff.1 info4
  simp only [Prod.mk.injEq] at hzz
  obtain ⟨hz0, hz1, hz2⟩ := hzz
  have HA := Lib.hid hA
  clear hA
  go_enter Tryz.func134, Tryz.ntmps134
  go_wp2
  have hA0 : OwnL w w.heap.size (.slice none 0 0) [] := World.ownsRow_nil _ _ _ _
  have hB0 := Below.refl w.heap.size w
  go_loopw [5, 6, 7] (fun V c i wr => ∃ (k cc : Nat) (L : List Nat), k ≤ n ∧ c = .int .u64 cc ∧ i = .int .i64 k ∧ FIn l L s k cc ∧ OwnL wr w.heap.size V L ∧ Below w.heap.size w wr) (fun _ _ i _ => n - (intOf i).toNat)
  case atStart => exact ⟨0, 0, [], by omega, rfl, rfl, FIn.zero l s, hA0, hB0⟩
  case round =>
    clear hA0 hB0
    obtain ⟨k, c, L, hk, rfl, rfl, hF, hO, hB⟩ := hrel
    have hL := hF.len
    have hc := hF.c1
    have hsz := hB.size
    have h31 : (2 : Nat) ^ s ≤ 2147483648 := Nat.pow_le_pow_right (show 0 < 2 by decide) (show s ≤ 31 by omega)
    have HO := Lib.hid hO
    have HB := Lib.hid hB
    clear hO hB
    by_cases hlt : k < n
    · have hAw := HA.out.below HB.out
      obtain ⟨bA, oA, rfl, -, -⟩ := hAw.row (by omega)
      have cA := hAw.cell (k := k) (by omega)
      have i1 : (k : Int) < (n : Int) := by omega
      have xb := lb_get hAw.lb (k := k) (by omega)
      have st := hF.step (by omega) hAw.lb
      generalize l[k]'(by omega) = x at cA xb st
      have hp : x * 2 ^ s ≤ 4294967295 * 2147483648 := Nat.mul_le_mul (by omega) h31
      have r1 : IntKind.u64.wrap ((x : Int) * 2 ^ s) = ((x * 2 ^ s : Nat) : Int) := by
        rw [show (x : Int) * 2 ^ s = ((x * 2 ^ s : Nat) : Int) by rw [Int.natCast_mul, Int.natCast_pow]; rfl]
        exact IntWalk.u64_in _ (by omega)
      generalize x * 2 ^ s = p at *
      have ev : (((c + p) % 4294967296 : Nat) : Int) = ((c : Int) + (p : Int)) % 4294967296 := by omega
      have ed : (((c + p) / 4294967296 : Nat) : Int) = ((c : Int) + (p : Int)) / 4294967296 := by omega
      have St := Lib.hid st
      have Ev := Lib.hid ev
      have Ed := Lib.hid ed
      clear st hF hAw ev ed
      go_wp2_with (at_builtin; refine wpList_append_own _ rfl (.tmp 23) (.tmp 26) 91 rfl w.heap.size 119 i0' (.int .u32 0) 1 4 Tryz.underlying91 hi hz0 hz1 hz2 rfl (by decide) _ _ _ rfl (HO.out.alloc _) ⟨wr.heap.size, 0, none⟩ 1 1 [.int .u32 (((c : Int) + (p : Int)) % 4294967296)] rfl rfl (by intro j u hj; match j, hj with | 0, hj => (simp at hj; subst hj; simp [Addr.add])) (by intro u hu; simp at hu; subst hu; rfl) (by unfold maxLen; omega) (by omega) (by simp; omega) ?_)
      intro v' w1 hown' hgrow _
      have hB1 := (HB.out.alloc (Nat.le_of_lt_succ (by omega)) (.cells #[.int .u32 (((c : Int) + (p : Int)) % 4294967296)] 119)).grown hgrow (by simp; omega) (fun k e => (HO.out.lt k e).1)
      rw [← Ev.out] at hown'
      have Fin := Lib.hid (show ∃ (k' c' : Nat) (L' : List Nat), k' ≤ n ∧ Value.int .u64 (((c : Int) + (p : Int)) / 4294967296) = .int .u64 (c' : Int) ∧ Value.int .i64 ((k : Int) + 1) = .int .i64 (k' : Int) ∧ FIn l L' s k' c' ∧ OwnL w1 w.heap.size v' L' ∧ Below w.heap.size w w1 from
        ⟨k + 1, (c + p) / 4294967296, _, by omega, by rw [Ed.out], by simp, St.out, own_snoc (by rw [hL]; exact hown'), hB1⟩)
      clear hown' hgrow hB1
      go_wp2
      go_roundw
      case rel => exact Fin.out
      case measure => simp [intOf]; omega
    · obtain rfl : k = n := by omega
      have hcb : (c : Int) % 4294967296 = c := by omega
      have ff : val (L ++ [c]) = val l * 2 ^ s ∧ Lb (L ++ [c]) ∧ (L ++ [c]).length = l.length + 1 := by rw [← la] at hF; exact hF.fin (by omega)
      have FF := Lib.hid ff
      clear ff hF
      go_wp2_with (at_builtin; refine wpList_append_own _ rfl (.tmp 30) (.tmp 33) 91 rfl w.heap.size 119 i0' (.int .u32 0) 1 4 Tryz.underlying91 hi hz0 hz1 hz2 rfl (by decide) _ _ _ rfl (HO.out.alloc _) ⟨wr.heap.size, 0, none⟩ 1 1 [.int .u32 (c : Int)] rfl rfl (by intro j u hj; match j, hj with | 0, hj => (simp at hj; subst hj; simp [Addr.add])) (by intro u hu; simp at hu; subst hu; rfl) (by unfold maxLen; omega) (by omega) (by simp; omega) ?_)
      intro v' w1 hown' hgrow _
      have hB1 := (HB.out.alloc (Nat.le_of_lt_succ (by omega)) (.cells #[.int .u32 (c : Int)] 119)).grown hgrow (by simp; omega) (fun k e => (HO.out.lt k e).1)
      have Fin := Lib.hid (show ∃ V L', Ending.returned v' = .returned V ∧ L'.length = k + 1 ∧ Lb L' ∧ val L' = val l * 2 ^ s ∧ OwnL w1 w.heap.size V L' ∧ Below w.heap.size w w1 from ⟨v', L ++ [c], rfl, by rw [FF.out.2.2, la], FF.out.2.1, FF.out.1, own_snoc (by rw [hL]; exact hown'), hB1⟩)
      clear hown' hgrow hB1
      go_wp2
      refine bodyPost_ret (results_tmp rfl _ _ _) rfl ?_
      exact Fin.out
end Wd
end Go.Proofs.YtjgcbeihgeaimaaGreatDoor
/-
  The reference's whole numbers: short.
-/
namespace Go.Proofs.YtjgcbeihgeaimaaGreatDoor
namespace Wd
open Go.RowKit Lw

/-- Two rows of limbs. -/
def TwoPost (w : World) (q r : List Nat) (e : Ending) (w' : World) : Prop :=
  ∃ A ca D cd, e = .returned (.tuple #[.slice A q.length ca, .slice D r.length cd]) ∧ Lim w' A q.length ca q ∧ Lim w' D r.length cd r ∧ Adr w' A ca ∧ Adr w' D cd ∧ Below w.heap.size w w'
theorem cast_mod {q : Nat} (h : q < 4294967296) : (q : Int) = (q : Int) % 4294967296 := by omega
set_option maxRecDepth 100000 in
set_option maxHeartbeats 4000000 in
theorem rshort_walk (l : List Nat) (A : Option Addr) (n cap d : Nat) (w : World) (hA : Lim w A n cap l) (hd0 : 0 < d) (hd : d < 4294967296) :
    Calls Tryz.prog 133 #[.slice A n cap, .int .u32 (d : Int)] w (TwoPost w (canon (val l / d)) (canon (val l % d))) := by
  have la := hA.len
  have HA := Lib.hid hA
  have hmk := make_nu n hA.sm
  have sa := hA.sm
  clear hA
  go_enter Tryz.func133, Tryz.ntmps133
  go_wp2
  have st0 : DIn l (List.replicate n 0) d n 0 := by have := DIn.zero l hd0; rwa [la] at this
  have hA0 := Arr.nu w n
  have hB0 := (Below.refl w.heap.size w).alloc (Nat.le_refl _) (.cells (nu n) 119)
  clear hmk
  go_loopw [7, 8] (fun c i wr => ∃ (k r : Nat) (L : List Nat), k ≤ n ∧ c = .int .u64 r ∧ i = .int .i64 ((k : Int) - 1) ∧ DIn l L d k r ∧ Arr wr w.heap.size L ∧ Below w.heap.size w wr) (fun _ i _ => (intOf i + 1).toNat)
  case atStart => exact ⟨n, 0, _, by omega, rfl, rfl, st0, hA0, hB0⟩
  case round =>
    clear hA0 hB0 st0
    obtain ⟨k, r, L, hk, rfl, rfl, hD, hR, hB⟩ := hrel
    by_cases hlt : 0 < k
    · obtain ⟨j, rfl⟩ : ∃ j, k = j + 1 := ⟨k - 1, by omega⟩
      have ej : ((j + 1 : Nat) : Int) - 1 = (j : Int) := by omega
      simp only [ej]
      have hAw := HA.out.below hB
      obtain ⟨bA, oA, rfl, -, -⟩ := hAw.row (by omega)
      have cA := hAw.cell (k := j) (by omega)
      have xb := lb_get hAw.lb (k := j) (by omega)
      have rb := hD.r1
      have ll := hD.len
      have cL := hR.cell (k := j) (by omega)
      have fL := hR.free j
      have st := hD.step (by omega) hAw.lb
      have qb := quo_lt rb xb
      generalize l[j]'(by omega) = x at cA xb st qb
      generalize L[j]'(by omega) = o at cL
      have ev : (((r * 4294967296 + x) / d : Nat) : Int) = ((r : Int) * 4294967296 + (x : Int)) / (d : Int) % 4294967296 := by
        rw [show ((r : Int) * 4294967296 + (x : Int)) = ((r * 4294967296 + x : Nat) : Int) by omega, ← Int.natCast_ediv]
        exact cast_mod qb
      have em : (((r * 4294967296 + x) % d : Nat) : Int) = ((r : Int) * 4294967296 + (x : Int)) % (d : Int) := by rw [Int.natCast_emod, show ((r * 4294967296 + x : Nat) : Int) = ((r : Int) * 4294967296 + (x : Int)) by omega]
      have rs := hR.set j ((r * 4294967296 + x) / d)
      have bs : Below w.heap.size w (wr.setCell ⟨w.heap.size, j, none⟩ (.int .u32 (((r * 4294967296 + x) / d : Nat) : Int))) := hB.setCell (p := ⟨w.heap.size, j, none⟩) (Nat.le_refl _) _
      rw [ev] at rs bs
      have Fin := Lib.hid (show ∃ (k' r' : Nat) (L' : List Nat), k' ≤ n ∧ Value.int .u64 (((r : Int) * 4294967296 + (x : Int)) % (d : Int)) = .int .u64 (r' : Int) ∧ Value.int .i64 ((j : Int) - 1) = .int .i64 ((k' : Int) - 1) ∧ DIn l L' d k' r' ∧ Arr (wr.setCell ⟨w.heap.size, j, none⟩ (.int .u32 (((r : Int) * 4294967296 + (x : Int)) / (d : Int) % 4294967296))) w.heap.size L' ∧ Below w.heap.size w (wr.setCell ⟨w.heap.size, j, none⟩ (.int .u32 (((r : Int) * 4294967296 + (x : Int)) / (d : Int) % 4294967296))) from
        ⟨j, _, _, by omega, by rw [← em], rfl, st, rs, bs⟩)
      clear st rs bs hD hR hAw hB ev em
      have j1 : (j : Int) < (n : Int) := by omega
      go_wp2_with fail
      go_roundw
      case rel => exact Fin.out
      case measure => simp [intOf]
    · obtain rfl : k = 0 := by omega
      have rb := hD.r1
      have ll := hD.len
      have F := hD.fin
      obtain ⟨F1, F2⟩ := F
      have t1 := rtrim_row L w.heap.size 0 n n wr (by have := hR.lim hD.lb (cap := n) (by omega) (by omega); rwa [ll, la] at this) hR.lt
      rw [F1] at t1
      have t2 := fun w1 : World => rtrim_row [r] w1.heap.size 0 1 1 (w1.alloc (.cells #[.int .u32 (r : Int)] 119)) (by have := Lim.new w1 [r] 119 1 (by intro x hx; simp at hx; omega) (by simp) (by simp); simpa [us] using this) (by simp)
      have e1 : val [r] = val l % d := by simp [val, F2]
      rw [e1] at t2
      have T1 := Lib.hid t1
      have T2 := Lib.hid t2
      have HB := Lib.hid hB
      have r32 : (r : Int) % 4294967296 = r := by omega
      clear t1 t2 hD hR hB F1 F2 e1
      go_wp2_with fail
      refine T1.out.mono ?_
      rintro e w1 ⟨g, cp, rfl, -, hL1, hg1, hg2, hb1⟩
      have B1 := Lib.hid (below_then HB.out hb1)
      have L1 := Lib.hid hL1
      clear hb1 hL1
      go_wp2_with fail
      refine (T2.out w1).mono ?_
      rintro e w2 ⟨g', cp', rfl, -, hL2, hg3, hg4, hb2⟩
      have ba := (Below.refl w1.heap.size w1).alloc (Nat.le_refl _) (.cells #[.int .u32 (r : Int)] 119)
      have b12 := below_then ba hb2
      have Fin := Lib.hid (show TwoPost w (canon (val l / d)) (canon (val l % d)) (.returned (.tuple #[.slice (some ⟨g, 0, none⟩) (canon (val l / d)).length cp, .slice (some ⟨g', 0, none⟩) (canon (val l % d)).length cp'])) w2 from
        ⟨_, cp, _, cp', rfl, L1.out.below b12, hL2, Or.inl ⟨g, 0, rfl, Nat.lt_of_lt_of_le hg2 b12.size⟩, Or.inl ⟨g', 0, rfl, hg4⟩, below_then B1.out b12⟩)
      clear ba b12 hb2 hL2 B1 L1
      go_wp2
      refine bodyPost_ret (results_tmp2 rfl _ _ _) rfl ?_
      exact Fin.out
end Wd
end Go.Proofs.YtjgcbeihgeaimaaGreatDoor
