/-
  Lemmas and walks, texts joined: KRBlk, KRDig.
-/
import Derived.StillTailTactics
import Derived.Deep.QuietTactic
import Derived.BigQuiet
import Derived.Deep.DeepCutAuto
import Derived.Test.YtafeigpmldgifaaDoorKt09
import Derived.Test.YtafeigpmldgifaaDoorKt07
set_option linter.unusedSimpArgs false
set_option linter.unusedVariables false
/-
  The walk of block of the reference.
-/
namespace Go.Proofs.YtafeigpmldgifaaDoor
namespace Arw
open Go.RowKit Lw Go.Proofs.YtafeigpmldgifaaDoor.Arp

theorem turn_at (x k : Nat) (w : World) (a n : Nat) (hx : x < 4294967296) (h0 : 1 ≤ k) (h1 : k ≤ 31) :
    Calls Tryd.prog 57 #[.int .u32 (x : Int), .int .i64 (k : Int)] (w.drewN (a + n)) fun e w' => e = .returned (.int .u32 (rotr x k : Int)) ∧ ∃ m, w' = w.drewN (a + m) :=
  (turn_q x k _ hx h0 h1).mono fun e w' ⟨he, m, hm⟩ => ⟨he, n + m, by rw [hm, World.drewN_drewN, Nat.add_assoc]⟩
theorem turn_at0 (x k : Nat) (w : World) (n : Nat) (hx : x < 4294967296) (h0 : 1 ≤ k) (h1 : k ≤ 31) :
    Calls Tryd.prog 57 #[.int .u32 (x : Int), .int .i64 (k : Int)] (w.drewN n) fun e w' => e = .returned (.int .u32 (rotr x k : Int)) ∧ ∃ m, w' = w.drewN m :=
  (turn_q x k _ hx h0 h1).mono fun e w' ⟨he, m, hm⟩ => ⟨he, n + m, by rw [hm, World.drewN_drewN]⟩
/-- What the words' loop keeps. -/
structure RB (w0 : World) (s : St) (l : List Nat) (w : World) : Prop where
  st : Rw w w0.heap.size (w32L s.l)
  res : Rw w (w0.heap.size + 1) (w32L (List.replicate 8 0))
  ws : Rw w (w0.heap.size + 2) (w32L (fillL l 64))
  below : Below w0.heap.size w0 w
theorem RB.call {w0 w w' : World} {s : St} {l : List Nat} (h : RB w0 s l w) (hb : Below w.heap.size w w') : RB w0 s l w' := ⟨h.st.call hb, h.res.call hb, h.ws.call hb, below_then h.below hb⟩
theorem RB.put {w0 w : World} {s : St} {l l' : List Nat} (h : RB w0 s l w) (i : Nat) (v : Value) (hi : i < 64) (hl : l.length ≤ 64) (e : (w32L (fillL l 64)).set i v = w32L (fillL l' 64)) : RB w0 s l' (w.setCell ⟨w0.heap.size + 2, i, none⟩ v) := by
  have s1 := h.ws.set i v (by rw [w32L_len, fillL_len hl]; exact hi)
  rw [e] at s1
  exact ⟨h.st.apart (by omega) i v, h.res.apart (by omega) i v, s1, h.below.setCell (p := ⟨w0.heap.size + 2, i, none⟩) (by show w0.heap.size ≤ w0.heap.size + 2; omega) v⟩
theorem u32one (l : List Nat) : ((w32L l).toArray).all (·.oneCell') = true := all_oneCell_toArray (fun v hv => by
    obtain ⟨x, _, rfl⟩ := List.mem_map.1 hv
    rfl)
theorem info64a : (Tryd.prog.info? 102).map (·.size) = some (w32L keyL).toArray.size := info64
/-- What the rounds' loop keeps. -/
structure RC (w0 : World) (s : St) (ws : List Nat) (kb vb : Nat) (T : St) (w : World) : Prop where
  b : RB w0 s ws w
  ks : Rw w kb (w32L keyL)
  v : Rw w vb (w32L T.l)
theorem RC.call {w0 w w' : World} {s : St} {ws : List Nat} {kb vb : Nat} {T : St} (h : RC w0 s ws kb vb T w) (hb : Below w.heap.size w w') : RC w0 s ws kb vb T w' := ⟨h.b.call hb, h.ks.call hb, h.v.call hb⟩
theorem xor_ones (E : Nat) (h : E < 4294967296) : 4294967295 ^^^ E = 4294967295 - E := by
  have h1 : (BitVec.allOnes 32 ^^^ BitVec.ofNat 32 E).toNat = (~~~ (BitVec.ofNat 32 E)).toNat := by rw [BitVec.allOnes_xor]
  rw [BitVec.toNat_xor, BitVec.toNat_not, BitVec.toNat_allOnes, BitVec.toNat_ofNat, Nat.mod_eq_of_lt (show E < 2 ^ 32 by omega)] at h1
  exact h1
theorem not_u32 (E : Nat) (h : E < 4294967296) : bits .xor .u32 (if IntKind.u32.signed = true then -1 else IntKind.u32.max) (E : Int) = ((4294967295 - E : Nat) : Int) := by
  have e : (if IntKind.u32.signed = true then -1 else IntKind.u32.max) = ((4294967295 : Nat) : Int) := by decide
  rw [e, u32_xor_nat _ _ (by decide) h, xor_ones E h]
theorem RC.put {w0 w : World} {s : St} {ws : List Nat} {kb vb : Nat} {T : St} (h : RC w0 s ws kb vb T w) (h1 : w0.heap.size + 2 < kb) (h2 : kb < vb) (T' : St) : RC w0 s ws kb vb T' (w.setCells vb 0 (w32L T'.l)) :=
  ⟨⟨h.b.st.sets_apart _ (by omega) 0, h.b.res.sets_apart _ (by omega) 0, h.b.ws.sets_apart _ (by omega) 0, below_setCells vb (by omega) _ 0 w h.b.below⟩, h.ks.sets_apart _ (by omega) 0, h.v.sets _ (by rw [w32L_len, w32L_len]; rfl)⟩
theorem St.sum_comm (s t : St) : s.sum t = t.sum s := by
  unfold St.sum
  rw [add32_comm s.a, add32_comm s.b, add32_comm s.c, add32_comm s.d, add32_comm s.e, add32_comm s.f, add32_comm s.g, add32_comm s.h]
/-- What the last loop keeps. -/
structure RE (w0 : World) (s T : St) (vb k : Nat) (w : World) : Prop where
  st : Rw w w0.heap.size (w32L s.l)
  res : Rw w (w0.heap.size + 1) (w32L (List.replicate 8 0))
  v : Rw w vb (w32L (mixL T s k))
  below : Below w0.heap.size w0 w
theorem RE.put {w0 w : World} {s T : St} {vb k : Nat} (h : RE w0 s T vb k w) (h1 : w0.heap.size + 1 < vb) (hk : k < 8) : RE w0 s T vb (k + 1) (w.setCell ⟨vb, k, none⟩ (.int .u32 ((add32 (T.l.getD k 0) (s.l.getD k 0) : Nat) : Int))) := by
  have s1 := h.v.set k (.int .u32 ((add32 (T.l.getD k 0) (s.l.getD k 0) : Nat) : Int)) (by rw [w32L_len, mix_len]; exact hk)
  rw [w32L_set, mix_set T s k hk] at s1
  exact ⟨h.st.apart (by omega) k _, h.res.apart (by omega) k _, s1, h.below.setCell (p := ⟨vb, k, none⟩) (by show w0.heap.size ≤ vb; omega) _⟩
theorem RE.call {w0 w w' : World} {s T : St} {vb k : Nat} (h : RE w0 s T vb k w) (hb : Below w.heap.size w w') : RE w0 s T vb k w' := ⟨h.st.call hb, h.res.call hb, h.v.call hb, below_then h.below hb⟩
/-- The cells that a round reads. -/
structure VC (vb kb wb A B C D E F G H j ky wk : Nat) (w : World) : Prop where
  c0 : w.cell? ⟨vb, 0, none⟩ = some (.int .u32 (A : Int))
  c1 : w.cell? ⟨vb, 1, none⟩ = some (.int .u32 (B : Int))
  c2 : w.cell? ⟨vb, 2, none⟩ = some (.int .u32 (C : Int))
  c3 : w.cell? ⟨vb, 3, none⟩ = some (.int .u32 (D : Int))
  c4 : w.cell? ⟨vb, 4, none⟩ = some (.int .u32 (E : Int))
  c5 : w.cell? ⟨vb, 5, none⟩ = some (.int .u32 (F : Int))
  c6 : w.cell? ⟨vb, 6, none⟩ = some (.int .u32 (G : Int))
  c7 : w.cell? ⟨vb, 7, none⟩ = some (.int .u32 (H : Int))
  ck : w.cell? ⟨kb, j, none⟩ = some (.int .u32 (ky : Int))
  cw : w.cell? ⟨wb, j, none⟩ = some (.int .u32 (wk : Int))
theorem VC.call {vb kb wb A B C D E F G H j ky wk : Nat} {w w' : World} (h : VC vb kb wb A B C D E F G H j ky wk w) (hb : Below w.heap.size w w') : VC vb kb wb A B C D E F G H j ky wk w' := ⟨cell_call h.c0 hb, cell_call h.c1 hb, cell_call h.c2 hb, cell_call h.c3 hb, cell_call h.c4 hb, cell_call h.c5 hb, cell_call h.c6 hb, cell_call h.c7 hb, cell_call h.ck hb, cell_call h.cw hb⟩
set_option maxRecDepth 100000 in
set_option maxHeartbeats 16000000 in
theorem rblock_any (s : St) (ok : s.Ok) (b : List UInt8) (hb : b.length = 64) (g o cap : Nat) (w : World) (hg : ∀ j v, (by8L b)[j]? = some v → w.cell? ⟨g, o + j, none⟩ = some v) (hgs : g < w.heap.size) (hcap : 64 ≤ cap) :
    Calls Tryd.prog 44 #[.agg (w32L s.l).toArray, .slice (some ⟨g, o, none⟩) 64 cap] w fun e w' => e = .returned (.agg (w32L (s.block b).l).toArray) ∧ Below w.heap.size w w' := by
  have B1 := (Below.refl w.heap.size w).alloc (Nat.le_refl _) (.cells (w32L s.l).toArray 86)
  have B2 := B1.alloc (by simp) (.cells #[.int .u32 0, .int .u32 0, .int .u32 0, .int .u32 0, .int .u32 0, .int .u32 0, .int .u32 0, .int .u32 0] 86)
  have B3 := B2.alloc (by simp; omega) (.cells #[.int .u32 0, .int .u32 0, .int .u32 0, .int .u32 0, .int .u32 0, .int .u32 0, .int .u32 0, .int .u32 0, .int .u32 0, .int .u32 0, .int .u32 0, .int .u32 0, .int .u32 0, .int .u32 0, .int .u32 0, .int .u32 0, .int .u32 0, .int .u32 0, .int .u32 0, .int .u32 0, .int .u32 0, .int .u32 0, .int .u32 0, .int .u32 0, .int .u32 0, .int .u32 0, .int .u32 0, .int .u32 0, .int .u32 0, .int .u32 0, .int .u32 0, .int .u32 0, .int .u32 0, .int .u32 0, .int .u32 0, .int .u32 0, .int .u32 0, .int .u32 0, .int .u32 0, .int .u32 0, .int .u32 0, .int .u32 0, .int .u32 0, .int .u32 0, .int .u32 0, .int .u32 0, .int .u32 0, .int .u32 0, .int .u32 0, .int .u32 0, .int .u32 0, .int .u32 0, .int .u32 0, .int .u32 0, .int .u32 0, .int .u32 0, .int .u32 0, .int .u32 0, .int .u32 0, .int .u32 0, .int .u32 0, .int .u32 0, .int .u32 0, .int .u32 0] 102)
  have z1 : (w.alloc (.cells (w32L s.l).toArray 86)).heap.size = w.heap.size + 1 := by simp
  have z2 : ((w.alloc (.cells (w32L s.l).toArray 86)).alloc (.cells #[.int .u32 0, .int .u32 0, .int .u32 0, .int .u32 0, .int .u32 0, .int .u32 0, .int .u32 0, .int .u32 0] 86)).heap.size = w.heap.size + 2 := by simp
  have z3 : (((w.alloc (.cells (w32L s.l).toArray 86)).alloc (.cells #[.int .u32 0, .int .u32 0, .int .u32 0, .int .u32 0, .int .u32 0, .int .u32 0, .int .u32 0, .int .u32 0] 86)).alloc (.cells #[.int .u32 0, .int .u32 0, .int .u32 0, .int .u32 0, .int .u32 0, .int .u32 0, .int .u32 0, .int .u32 0, .int .u32 0, .int .u32 0, .int .u32 0, .int .u32 0, .int .u32 0, .int .u32 0, .int .u32 0, .int .u32 0, .int .u32 0, .int .u32 0, .int .u32 0, .int .u32 0, .int .u32 0, .int .u32 0, .int .u32 0, .int .u32 0, .int .u32 0, .int .u32 0, .int .u32 0, .int .u32 0, .int .u32 0, .int .u32 0, .int .u32 0, .int .u32 0, .int .u32 0, .int .u32 0, .int .u32 0, .int .u32 0, .int .u32 0, .int .u32 0, .int .u32 0, .int .u32 0, .int .u32 0, .int .u32 0, .int .u32 0, .int .u32 0, .int .u32 0, .int .u32 0, .int .u32 0, .int .u32 0, .int .u32 0, .int .u32 0, .int .u32 0, .int .u32 0, .int .u32 0, .int .u32 0, .int .u32 0, .int .u32 0, .int .u32 0, .int .u32 0, .int .u32 0, .int .u32 0, .int .u32 0, .int .u32 0, .int .u32 0, .int .u32 0] 102)).heap.size = w.heap.size + 3 := by simp
  have X0 : Hid (RB w s [] (((w.alloc (.cells (w32L s.l).toArray 86)).alloc (.cells #[.int .u32 0, .int .u32 0, .int .u32 0, .int .u32 0, .int .u32 0, .int .u32 0, .int .u32 0, .int .u32 0] 86)).alloc (.cells #[.int .u32 0, .int .u32 0, .int .u32 0, .int .u32 0, .int .u32 0, .int .u32 0, .int .u32 0, .int .u32 0, .int .u32 0, .int .u32 0, .int .u32 0, .int .u32 0, .int .u32 0, .int .u32 0, .int .u32 0, .int .u32 0, .int .u32 0, .int .u32 0, .int .u32 0, .int .u32 0, .int .u32 0, .int .u32 0, .int .u32 0, .int .u32 0, .int .u32 0, .int .u32 0, .int .u32 0, .int .u32 0, .int .u32 0, .int .u32 0, .int .u32 0, .int .u32 0, .int .u32 0, .int .u32 0, .int .u32 0, .int .u32 0, .int .u32 0, .int .u32 0, .int .u32 0, .int .u32 0, .int .u32 0, .int .u32 0, .int .u32 0, .int .u32 0, .int .u32 0, .int .u32 0, .int .u32 0, .int .u32 0, .int .u32 0, .int .u32 0, .int .u32 0, .int .u32 0, .int .u32 0, .int .u32 0, .int .u32 0, .int .u32 0, .int .u32 0, .int .u32 0, .int .u32 0, .int .u32 0, .int .u32 0, .int .u32 0, .int .u32 0, .int .u32 0] 102))) := Lib.hid (by
    have r1 := Rw.new w (w32L s.l) 86
    have r2 := Rw.new (w.alloc (.cells (w32L s.l).toArray 86)) (w32L (List.replicate 8 0)) 86
    rw [z1] at r2
    have r3 := Rw.new ((w.alloc (.cells (w32L s.l).toArray 86)).alloc (.cells (w32L (List.replicate 8 0)).toArray 86)) (w32L (fillL [] 64)) 102
    have z2' : ((w.alloc (.cells (w32L s.l).toArray 86)).alloc (.cells (w32L (List.replicate 8 0)).toArray 86)).heap.size = w.heap.size + 2 := by simp
    rw [z2'] at r3
    exact ⟨(r1.call ((Below.refl _ _).alloc (Nat.le_refl _) _)).call ((Below.refl _ _).alloc (Nat.le_refl _) _), r2.call ((Below.refl _ _).alloc (Nat.le_refl _) _), r3, B3⟩)
  have HG := Lib.hid (fun w' (h : Below w.heap.size w w') j (hj : j < 64) => show w'.cell? ⟨g, o + j, none⟩ = some (.int .u8 ((b.getD j 0).toNat : Int)) from by
    rw [h.cell (p := ⟨g, o + j, none⟩) hgs]
    exact hg j _ (by8L_get (by omega)))
  generalize hw3 : ((w.alloc (.cells (w32L s.l).toArray 86)).alloc (.cells #[.int .u32 0, .int .u32 0, .int .u32 0, .int .u32 0, .int .u32 0, .int .u32 0, .int .u32 0, .int .u32 0] 86)).alloc (.cells #[.int .u32 0, .int .u32 0, .int .u32 0, .int .u32 0, .int .u32 0, .int .u32 0, .int .u32 0, .int .u32 0, .int .u32 0, .int .u32 0, .int .u32 0, .int .u32 0, .int .u32 0, .int .u32 0, .int .u32 0, .int .u32 0, .int .u32 0, .int .u32 0, .int .u32 0, .int .u32 0, .int .u32 0, .int .u32 0, .int .u32 0, .int .u32 0, .int .u32 0, .int .u32 0, .int .u32 0, .int .u32 0, .int .u32 0, .int .u32 0, .int .u32 0, .int .u32 0, .int .u32 0, .int .u32 0, .int .u32 0, .int .u32 0, .int .u32 0, .int .u32 0, .int .u32 0, .int .u32 0, .int .u32 0, .int .u32 0, .int .u32 0, .int .u32 0, .int .u32 0, .int .u32 0, .int .u32 0, .int .u32 0, .int .u32 0, .int .u32 0, .int .u32 0, .int .u32 0, .int .u32 0, .int .u32 0, .int .u32 0, .int .u32 0, .int .u32 0, .int .u32 0, .int .u32 0, .int .u32 0, .int .u32 0, .int .u32 0, .int .u32 0, .int .u32 0] 102) = W3 at X0
  have HW := Lib.hid hw3
  clear B1 B2 B3 z1 z2 z3 hw3 hg
  go_enter Tryd.func44, Tryd.ntmps44
  go_wp2_with fail
  rw [HW.out]
  clear HW
  go_loopw [6] (fun i wr => ∃ k : Nat, k ≤ 64 ∧ i = .int .i64 k ∧ Hid (RB w s (schedL b k) wr)) (fun i _ => 64 - (intOf i).toNat)
  case atStart => exact ⟨0, Nat.zero_le _, rfl, X0⟩
  case round =>
    obtain ⟨k, hk, rfl, X⟩ := hrel
    clear X0
    by_cases hlt : k < 64
    · have i1 : (k : Int) < 64 := by omega
      have lk := schedL_len b k
      have qk := X.out.ws.cell (w32L_get (fillL_zero (l := schedL b k) (n := 64) (j := k) (by omega) hlt))
      have fk := X.out.ws.free (j := k) (by rw [w32L_len, fillL_len (by omega)]; exact hlt)
      by_cases h16 : k < 16
      · have i2 : (k : Int) < 16 := by omega
        have ST : Hid (schedL b k ++ [word4 b k] = schedL b (k + 1)) := Lib.hid (by rw [schedL, nextW, if_pos h16])
        have X1 := Lib.hid (X.out.put (l' := schedL b (k + 1)) k (.int .u32 ((word4 b k : Nat) : Int)) hlt (by omega) (by
          have := fillL_set (l := schedL b k) (n := 64) (word4 b k) (by omega)
          rw [lk] at this
          rw [w32L_set, this, ST.out]))
        have c0 := HG.out wr X.out.below (4 * k) (by omega)
        have c1 := HG.out wr X.out.below (4 * k + 1) (by omega)
        have c2 := HG.out wr X.out.below (4 * k + 2) (by omega)
        have c3 := HG.out wr X.out.below (4 * k + 3) (by omega)
        have EW : word4 b k = (b.getD (4 * k) 0).toNat * 16777216 + (b.getD (4 * k + 1) 0).toNat * 65536 + (b.getD (4 * k + 2) 0).toNat * 256 + (b.getD (4 * k + 3) 0).toNat := rfl
        rw [EW] at X1
        have b0 := byte_lt (b.getD (4 * k) 0)
        have b1 := byte_lt (b.getD (4 * k + 1) 0)
        have b2 := byte_lt (b.getD (4 * k + 2) 0)
        have b3 := byte_lt (b.getD (4 * k + 3) 0)
        generalize (b.getD (4 * k) 0).toNat = x0 at *
        generalize (b.getD (4 * k + 1) 0).toNat = x1 at *
        generalize (b.getD (4 * k + 2) 0).toNat = x2 at *
        generalize (b.getD (4 * k + 3) 0).toNat = x3 at *
        obtain ⟨q, hq⟩ : ∃ q, 4 * k = q := ⟨_, rfl⟩
        have hq2 : 4 * (k : Int) = (q : Int) := by omega
        rw [hq] at c0 c1 c2 c3
        have qb : q ≤ 60 := by omega
        have w0 : IntKind.i64.wrap (q : Int) = (q : Int) := wrap_small _ (by omega) (by omega)
        have w1 : IntKind.i64.wrap ((q : Int) + 1) = (q : Int) + 1 := wrap_small _ (by omega) (by omega)
        have w2 : IntKind.i64.wrap ((q : Int) + 2) = (q : Int) + 2 := wrap_small _ (by omega) (by omega)
        have w3 : IntKind.i64.wrap ((q : Int) + 3) = (q : Int) + 3 := wrap_small _ (by omega) (by omega)
        have t2 : ((q : Int) + 2).toNat = q + 2 := by omega
        have t3 : ((q : Int) + 3).toNat = q + 3 := by omega
        have u0 : IntKind.u32.wrap (x0 : Int) = (x0 : Int) := by rw [IntKind.wrap_u32']; omega
        have u1 : IntKind.u32.wrap (x1 : Int) = (x1 : Int) := by rw [IntKind.wrap_u32']; omega
        have u2 : IntKind.u32.wrap (x2 : Int) = (x2 : Int) := by rw [IntKind.wrap_u32']; omega
        have u3 : IntKind.u32.wrap (x3 : Int) = (x3 : Int) := by rw [IntKind.wrap_u32']; omega
        have v0 : IntKind.u32.wrap ((x0 : Int) * 16777216) = (x0 : Int) * 16777216 := by rw [IntKind.wrap_u32']; omega
        have v1 : IntKind.u32.wrap ((x1 : Int) * 65536) = (x1 : Int) * 65536 := by rw [IntKind.wrap_u32']; omega
        have v2 : IntKind.u32.wrap ((x2 : Int) * 256) = (x2 : Int) * 256 := by rw [IntKind.wrap_u32']; omega
        have v4 : IntKind.u32.wrap ((x0 : Int) * 16777216 + (x1 : Int) * 65536) = (x0 : Int) * 16777216 + (x1 : Int) * 65536 := by rw [IntKind.wrap_u32']; omega
        have v5 : IntKind.u32.wrap ((x0 : Int) * 16777216 + (x1 : Int) * 65536 + (x2 : Int) * 256) = (x0 : Int) * 16777216 + (x1 : Int) * 65536 + (x2 : Int) * 256 := by rw [IntKind.wrap_u32']; omega
        have v6 : IntKind.u32.wrap ((x0 : Int) * 16777216 + (x1 : Int) * 65536 + (x2 : Int) * 256 + (x3 : Int)) = (x0 : Int) * 16777216 + (x1 : Int) * 65536 + (x2 : Int) * 256 + (x3 : Int) := by rw [IntKind.wrap_u32']; omega
        have n0 : 0 ≤ (q : Int) ∧ (q : Int) < 64 := by omega
        have n1 : 0 ≤ (q : Int) + 1 ∧ (q : Int) + 1 < 64 := by omega
        have n2 : 0 ≤ (q : Int) + 2 ∧ (q : Int) + 2 < 64 := by omega
        have n3 : 0 ≤ (q : Int) + 3 ∧ (q : Int) + 3 < 64 := by omega
        have hk2 : 0 ≤ (k : Int) ∧ (k : Int) < 64 := by omega
        clear EW X ST hq h16 lk
        go_wp2_with fail
        go_still_tail 34, (by kernel_rfl)
        change wpList _ _ _ _ _ wr.drew
        have X2 : Hid (RB w s (schedL b (k + 1)) (wr.setCell ⟨w.heap.size + 1 + 1, k, none⟩ (.int .u32 ((x0 : Int) * 16777216 + (x1 : Int) * 65536 + (x2 : Int) * 256 + (x3 : Int)))).drew) := Lib.hid (by
          have e : ((x0 * 16777216 + x1 * 65536 + x2 * 256 + x3 : Nat) : Int) = (x0 : Int) * 16777216 + (x1 : Int) * 65536 + (x2 : Int) * 256 + (x3 : Int) := by omega
          have h := X1.out
          rw [e] at h
          exact h.call (Below.refl _ _).drew)
        clear X1 c0 c1 c2 c3
        go_wp2_with fail
        go_roundw
        case rel => exact ⟨k + 1, by omega, by go_num, X2⟩
        case measure => simp [intOf]; omega
      · have i2 : ¬ (k : Int) < 16 := by omega
        have NX : Hid (nextW b (schedL b k) k = add32 (add32 (add32 ((schedL b k).getD (k - 16) 0) (sm0 ((schedL b k).getD (k - 15) 0))) ((schedL b k).getD (k - 7) 0)) (sm1 ((schedL b k).getD (k - 2) 0))) := Lib.hid (by unfold nextW; rw [if_neg h16])
        have ST : Hid (schedL b k ++ [nextW b (schedL b k) k] = schedL b (k + 1)) := Lib.hid rfl
        have XP := Lib.hid (fun (wx : World) (h : RB w s (schedL b k) wx) (r : Nat) (e : schedL b k ++ [r] = schedL b (k + 1)) => h.put (l' := schedL b (k + 1)) k (.int .u32 ((r : Nat) : Int)) hlt (by omega) (by
          have := fillL_set (l := schedL b k) (n := 64) r (by omega)
          rw [lk] at this
          rw [w32L_set, this, e]))
        have b15 := getD_lt (sched_lt b k) (k - 15)
        have b2 := getD_lt (sched_lt b k) (k - 2)
        have CW := Lib.hid (fun (wx : World) (h : RB w s (schedL b k) wx) (j : Nat) (hj : j < k) => show wx.cell? ⟨w.heap.size + 1 + 1, j, none⟩ = some (.int .u32 (((schedL b k).getD j 0 : Nat) : Int)) from h.ws.cell (w32L_get (fillL_get (by omega))))
        have FW := Lib.hid (fun (wx : World) (h : RB w s (schedL b k) wx) => show wx.frozen? ⟨w.heap.size + 1 + 1, k, none⟩ = false from h.ws.free (by rw [w32L_len, fillL_len (by omega)]; exact hlt))
        have QW := Lib.hid (fun (wx : World) (h : RB w s (schedL b k) wx) => show wx.cell? ⟨w.heap.size + 1 + 1, k, none⟩ = some (.int .u32 ((0 : Nat) : Int)) from h.ws.cell (w32L_get (fillL_zero (l := schedL b k) (n := 64) (j := k) (by omega) hlt)))
        have CW16 := Lib.hid (fun wx h => CW.out wx h (k - 16) (by omega))
        have CW15 := Lib.hid (fun wx h => CW.out wx h (k - 15) (by omega))
        have CW7 := Lib.hid (fun wx h => CW.out wx h (k - 7) (by omega))
        have CW2 := Lib.hid (fun wx h => CW.out wx h (k - 2) (by omega))
        generalize hL : schedL b k = L at *
        obtain ⟨i16, e16⟩ : ∃ i, k - 16 = i := ⟨_, rfl⟩
        obtain ⟨i15, e15⟩ : ∃ i, k - 15 = i := ⟨_, rfl⟩
        obtain ⟨i7, e7⟩ : ∃ i, k - 7 = i := ⟨_, rfl⟩
        obtain ⟨i2', e2⟩ : ∃ i, k - 2 = i := ⟨_, rfl⟩
        rw [e16] at NX CW16
        rw [e15] at NX CW15 b15
        rw [e7] at NX CW7
        rw [e2] at NX CW2 b2
        have u16 : IntKind.i64.wrap ((k : Int) - 16) = (i16 : Int) := by rw [wrap_small _ (by omega) (by omega)]; omega
        have u15 : IntKind.i64.wrap ((k : Int) - 15) = (i15 : Int) := by rw [wrap_small _ (by omega) (by omega)]; omega
        have u7 : IntKind.i64.wrap ((k : Int) - 7) = (i7 : Int) := by rw [wrap_small _ (by omega) (by omega)]; omega
        have u2 : IntKind.i64.wrap ((k : Int) - 2) = (i2' : Int) := by rw [wrap_small _ (by omega) (by omega)]; omega
        have v16 : (k : Int) - 16 = (i16 : Int) := by omega
        have v15 : (k : Int) - 15 = (i15 : Int) := by omega
        have v7 : (k : Int) - 7 = (i7 : Int) := by omega
        have v2 : (k : Int) - 2 = (i2' : Int) := by omega
        have x16 : IntKind.i64.wrap (i16 : Int) = (i16 : Int) := wrap_small _ (by omega) (by omega)
        have x15 : IntKind.i64.wrap (i15 : Int) = (i15 : Int) := wrap_small _ (by omega) (by omega)
        have x7 : IntKind.i64.wrap (i7 : Int) = (i7 : Int) := wrap_small _ (by omega) (by omega)
        have x2 : IntKind.i64.wrap (i2' : Int) = (i2' : Int) := wrap_small _ (by omega) (by omega)
        have h16' : 0 ≤ (i16 : Int) ∧ (i16 : Int) < 64 := by omega
        have h15' : 0 ≤ (i15 : Int) ∧ (i15 : Int) < 64 := by omega
        have h7' : 0 ≤ (i7 : Int) ∧ (i7 : Int) < 64 := by omega
        have h2' : 0 ≤ (i2' : Int) ∧ (i2' : Int) < 64 := by omega
        have hk' : 0 ≤ (k : Int) ∧ (k : Int) < 64 := by omega
        clear e16 e15 e7 e2 qk fk CW h16
        generalize L.getD i16 0 = a16 at *
        generalize L.getD i15 0 = a15 at *
        generalize L.getD i7 0 = a7 at *
        generalize L.getD i2' 0 = a2 at *
        have T1 := Lib.hid (fun w' => turn_any a15 7 w' b15 (by omega) (by omega))
        have T2 := Lib.hid (fun w' => turn_any a15 18 w' b15 (by omega) (by omega))
        have T3 := Lib.hid (fun w' => turn_any a2 17 w' b2 (by omega) (by omega))
        have T4 := Lib.hid (fun w' => turn_any a2 19 w' b2 (by omega) (by omega))
        have r7 := rotr_lt 7 b15
        have r18 := rotr_lt 18 b15
        have r17 := rotr_lt 17 b2
        have r19 := rotr_lt 19 b2
        have X7 := xor_nat _ _ r7 r18
        have X9 := xor_nat _ _ r17 r19
        have d3 : (a15 : Int) / (8 : Int) = ((a15 >>> 3 : Nat) : Int) := by rw [Nat.shiftRight_eq_div_pow]; omega
        have d10 : (a2 : Int) / (1024 : Int) = ((a2 >>> 10 : Nat) : Int) := by rw [Nat.shiftRight_eq_div_pow]; omega
        have X8 := xor_nat _ _ (xor_lt r7 r18) (shr_lt 3 b15)
        have X10 := xor_nat _ _ (xor_lt r17 r19) (shr_lt 10 b2)
        change bits .xor .u32 (((rotr a15 7 ^^^ rotr a15 18 : Nat)) : Int) _ = ((sm0 a15 : Nat) : Int) at X8
        change bits .xor .u32 (((rotr a2 17 ^^^ rotr a2 19 : Nat)) : Int) _ = ((sm1 a2 : Nat) : Int) at X10
        rw [← d3] at X8
        rw [← d10] at X10
        clear d3 d10
        generalize rotr a15 7 ^^^ rotr a15 18 = z7 at *
        generalize rotr a2 17 ^^^ rotr a2 19 = z17 at *
        generalize rotr a15 7 = y7 at *
        generalize rotr a15 18 = y18 at *
        generalize rotr a2 17 = y17 at *
        generalize rotr a2 19 = y19 at *
        have s1 := wrap_add a16 (sm0 a15)
        have s2 := wrap_add (add32 a16 (sm0 a15)) a7
        have s3 := wrap_add (add32 (add32 a16 (sm0 a15)) a7) (sm1 a2)
        generalize sm0 a15 = t1 at *
        generalize sm1 a2 = t2 at *
        generalize add32 a16 t1 = r1 at *
        generalize add32 r1 a7 = r2 at *
        generalize add32 r2 t2 = r3 at *
        have c15 := CW15.out wr X.out
        have c2 := CW2.out wr X.out
        go_wp2_with fail
        go_quiet (fail)
        have B0 := drewN_below2 (Below.refl wr.heap.size wr) nq
        have X1 := Lib.hid (X.out.call B0)
        clear X B0 c15 c2
        generalize wr.drewN nq = wa at *
        go_wp2_with fail
        refine (T1.out _).mono ?_
        rintro e wb ⟨rfl, hb1⟩
        have X2 := Lib.hid (X1.out.call hb1)
        clear X1 hb1
        go_wp2_with fail
        refine (T2.out _).mono ?_
        rintro e wc ⟨rfl, hb1⟩
        have X3 := Lib.hid (X2.out.call hb1)
        clear X2 hb1
        go_wp2_with fail
        refine (T3.out _).mono ?_
        rintro e wd ⟨rfl, hb1⟩
        have X4 := Lib.hid (X3.out.call hb1)
        clear X3 hb1
        go_wp2_with fail
        refine (T4.out _).mono ?_
        rintro e we ⟨rfl, hb1⟩
        have X5 := Lib.hid (X4.out.call hb1)
        clear X4 hb1 T1 T2 T3 T4
        have c16 := CW16.out we X5.out
        have c7 := CW7.out we X5.out
        have fk := FW.out we X5.out
        have qk := QW.out we X5.out
        have X6 := Lib.hid (XP.out we X5.out r3 (by rw [← NX.out]; exact ST.out))
        clear XP CW16 CW15 CW7 CW2 FW QW X5 NX ST
        go_wp2_with fail
        go_still_tail 14, (by kernel_rfl)
        change wpList _ _ _ _ _ we.drew
        have X7' : Hid (RB w s (schedL b (k + 1)) (we.setCell ⟨w.heap.size + 1 + 1, k, none⟩ (.int .u32 (r3 : Int))).drew) := Lib.hid (X6.out.call (Below.refl _ _).drew)
        clear X6
        go_wp2_with fail
        go_roundw
        case rel => exact ⟨k + 1, by omega, by go_num, X7'⟩
        case measure => simp [intOf]; omega
    · obtain rfl : k = 64 := by omega
      have i1 : ¬ (64 : Int) < 64 := by omega
      have wl := schedL_len b 64
      have wlt := Lib.hid (sched_lt b 64)
      have EB : Hid (s.block b = s.sum (St.run (schedL b 64) s 64)) := Lib.hid rfl
      have KY := Lib.hid (fun w' => rkeys_any w')
      generalize schedL b 64 = ws at *
      clear HG
      go_wp2_with fail
      refine (KY.out _).mono ?_
      rintro e wk ⟨rfl, hbk⟩
      have XK := Lib.hid (X.out.call hbk)
      clear X KY hbk
      have lk2 : w.heap.size + 2 < wk.heap.size := XK.out.ws.lt
      obtain ⟨wk1, hwk1⟩ : ∃ W, wk.alloc (.cells (w32L keyL).toArray 102) = W := ⟨_, rfl⟩
      have zk1 : wk1.heap.size = wk.heap.size + 1 := by rw [← hwk1]; simp
      have RK := Rw.new wk (w32L keyL) 102
      have X1 := XK.out.call ((Below.refl _ wk).alloc (Nat.le_refl _) (.cells (w32L keyL).toArray 102))
      rw [hwk1] at RK X1
      have st1 := X1.st.row
      have RV := Rw.new wk1 (w32L s.l) 86
      have bv := (Below.refl _ wk1).alloc (Nat.le_refl _) (.cells (w32L s.l).toArray 86)
      rw [zk1] at RV
      have X2 := Lib.hid (show RC w s ws wk.heap.size (wk.heap.size + 1) (St.run ws s 0) (wk1.alloc (.cells (w32L s.l).toArray 86)) from ⟨X1.call bv, RK.call bv, RV⟩)
      have HK1 := Lib.hid hwk1
      clear X1 RK RV bv hwk1 XK
      go_wp2_with (first | (refine wpList_store_new rfl _ (.tmp 11) (.tmp 97) rfl _ (w32L keyL).toArray rfl rfl info64a rfl (u32one keyL) ?_; rw [HK1.out]) | (refine wpList_load_mid rfl _ (.tmp 2) rfl w.heap.size 0 rfl (w32L s.l) _ st1 Tryd.underlying86 rfl info8w ?_) | (refine wpList_store_new_at rfl _ (.tmp 12) (.tmp 98) rfl _ (w32L s.l).toArray (wk.heap.size + 1) zk1.symm rfl rfl info8w rfl (u32one s.l) ?_))
      go_loopw [13] (fun i wi => ∃ (j : Nat) (T : St), j ≤ 64 ∧ i = .int .i64 j ∧ Hid (T = St.run ws s j) ∧ Hid (RC w s ws wk.heap.size (wk.heap.size + 1) T wi)) (fun i _ => 64 - (intOf i).toNat)
      case atStart => exact ⟨0, _, Nat.zero_le _, rfl, Lib.hid rfl, X2⟩
      case round =>
        obtain ⟨j, T, hj, rfl, HT, Y⟩ := hrel
        clear X2
        have OT : T.Ok := by rw [HT.out]; exact ok.run ws j
        by_cases hl : j < 64
        · have j1 : (j : Int) < 64 := by omega
          have NXT := Lib.hid (show St.next T (keyL.getD j 0) (ws.getD j 0) = St.run ws s (j + 1) by rw [St.run, ← HT.out])
          have ck := Y.out.ks.cell (w32L_get (l := keyL) (j := j) (x := keyL.getD j 0) (by rw [List.getD_eq_getElem?_getD, List.getElem?_eq_getElem (show j < keyL.length from hl)]; rfl))
          have cw := Y.out.b.ws.cell (w32L_get (fillL_get (l := ws) (n := 64) (j := j) (by omega)))
          have cwf : wr.cell? ⟨w.heap.size + 1 + 1, j, none⟩ = some (.int .u32 ((ws.getD j 0 : Nat) : Int)) := cw
          obtain ⟨A, B, C, D, E, F, G, H⟩ := T
          have d0 := Y.out.v.cell (w32L_get (j := 0) rfl)
          have d1 := Y.out.v.cell (w32L_get (j := 1) rfl)
          have d2 := Y.out.v.cell (w32L_get (j := 2) rfl)
          have d3 := Y.out.v.cell (w32L_get (j := 3) rfl)
          have d4 := Y.out.v.cell (w32L_get (j := 4) rfl)
          have d5 := Y.out.v.cell (w32L_get (j := 5) rfl)
          have d6 := Y.out.v.cell (w32L_get (j := 6) rfl)
          have d7 := Y.out.v.cell (w32L_get (j := 7) rfl)
          have lA : A < 4294967296 := OT.a
          have lB : B < 4294967296 := OT.b
          have lC : C < 4294967296 := OT.c
          have lE : E < 4294967296 := OT.e
          have lF : F < 4294967296 := OT.f
          have lG : G < 4294967296 := OT.g
          have T6 := Lib.hid (fun w => turn_any E 6 w lE (by omega) (by omega))
          have T11 := Lib.hid (fun w => turn_any E 11 w lE (by omega) (by omega))
          have T25 := Lib.hid (fun w => turn_any E 25 w lE (by omega) (by omega))
          have T2 := Lib.hid (fun w => turn_any A 2 w lA (by omega) (by omega))
          have T13 := Lib.hid (fun w => turn_any A 13 w lA (by omega) (by omega))
          have T22 := Lib.hid (fun w => turn_any A 22 w lA (by omega) (by omega))
          have hj2 : 0 ≤ (j : Int) ∧ (j : Int) < 64 := by omega
          have jw : IntKind.i64.wrap (j : Int) = (j : Int) := wrap_small _ (by omega) (by omega)
          have HC := Lib.hid (show VC (wk.heap.size + 1) wk.heap.size (w.heap.size + 1 + 1) A B C D E F G H j (keyL.getD j 0) (ws.getD j 0) wr from ⟨d0, d1, d2, d3, d4, d5, d6, d7, ck, cwf⟩)
          have xe := xor_nat _ _ (xor_lt (rotr_lt 6 lE) (rotr_lt 11 lE)) (rotr_lt 25 lE)
          have xe0 := xor_nat _ _ (rotr_lt 6 lE) (rotr_lt 11 lE)
          change bits .xor .u32 _ _ = ((bg1 E : Nat) : Int) at xe
          have xa := xor_nat _ _ (xor_lt (rotr_lt 2 lA) (rotr_lt 13 lA)) (rotr_lt 22 lA)
          have xa0 := xor_nat _ _ (rotr_lt 2 lA) (rotr_lt 13 lA)
          change bits .xor .u32 _ _ = ((bg0 A : Nat) : Int) at xa
          clear cwf ck d0 d1 d2 d3 d4 d5 d6 d7
          have e0 := not_u32 E lE
          have lN : 4294967295 - E < 4294967296 := by omega
          have e1 := u32_and_nat E F lE lF
          have e2 := u32_and_nat (4294967295 - E) G lN lG
          rw [Nat.and_comm (4294967295 - E) G] at e2
          have e3 := u32_xor_nat (E &&& F) (G &&& (4294967295 - E)) (and_lt lE) (and_lt lG)
          change _ = ((chs E F G : Nat) : Int) at e3
          have f1 := u32_and_nat A B lA lB
          have f2 := u32_and_nat A C lA lC
          have f3 := u32_and_nat B C lB lC
          have f4 := u32_xor_nat (A &&& B) (A &&& C) (and_lt lA) (and_lt lA)
          have f5 := u32_xor_nat ((A &&& B) ^^^ (A &&& C)) (B &&& C) (xor_lt (and_lt lA) (and_lt lA)) (and_lt lB)
          change _ = ((major A B C : Nat) : Int) at f5
          have m1 := wrap_add H (bg1 E)
          have m2 := wrap_add (add32 H (bg1 E)) (chs E F G)
          have m3 := wrap_add (add32 (add32 H (bg1 E)) (chs E F G)) (keyL.getD j 0)
          have m4 := wrap_add (add32 (add32 (add32 H (bg1 E)) (chs E F G)) (keyL.getD j 0)) (ws.getD j 0)
          have y1 := wrap_add (bg0 A) (major A B C)
          have z1 := wrap_add D (add32 (add32 (add32 (add32 H (bg1 E)) (chs E F G)) (keyL.getD j 0)) (ws.getD j 0))
          have z2 := wrap_add (add32 (add32 (add32 (add32 H (bg1 E)) (chs E F G)) (keyL.getD j 0)) (ws.getD j 0)) (add32 (bg0 A) (major A B C))
          have NX2 : Hid (St.run ws s (j + 1) = ⟨add32 (add32 (add32 (add32 (add32 H (bg1 E)) (chs E F G)) (keyL.getD j 0)) (ws.getD j 0)) (add32 (bg0 A) (major A B C)), A, B, C, add32 D (add32 (add32 (add32 (add32 H (bg1 E)) (chs E F G)) (keyL.getD j 0)) (ws.getD j 0)), E, F, G⟩) := Lib.hid NXT.out.symm
          clear NXT OT HT lA lB lC lE lF lG lN
          generalize keyL.getD j 0 = ky at *
          generalize ws.getD j 0 = wk0 at *
          generalize bg1 E = q1 at *
          generalize bg0 A = q0 at *
          generalize chs E F G = q2 at *
          generalize major A B C = q3 at *
          generalize (A &&& B) ^^^ (A &&& C) = q4 at *
          generalize E &&& F = q5 at *
          generalize G &&& (4294967295 - E) = q6 at *
          generalize 4294967295 - E = nE at *
          generalize A &&& B = q7 at *
          generalize A &&& C = q8 at *
          generalize B &&& C = q9 at *
          generalize rotr E 6 ^^^ rotr E 11 = qa at *
          generalize rotr A 2 ^^^ rotr A 13 = qb at *
          generalize rotr E 6 = qc at *
          generalize rotr E 11 = qd at *
          generalize rotr E 25 = qe at *
          generalize rotr A 2 = qf at *
          generalize rotr A 13 = qg at *
          generalize rotr A 22 = qh at *
          generalize add32 q0 q3 = yy at *
          generalize add32 H q1 = r1 at *
          generalize add32 r1 q2 = r2 at *
          generalize add32 r2 ky = r3 at *
          generalize add32 r3 wk0 = xx at *
          generalize add32 D xx = dd at *
          generalize add32 xx yy = aa at *
          have Y2 := Lib.hid (show RC w s ws wk.heap.size (wk.heap.size + 1) ⟨A, B, C, D, E, F, G, H⟩ wr from Y.out)
          clear Y
          go_wp2_with fail
          go_cut [14] (fun x wx => x = .int .u32 (xx : Int) ∧ Hid (RC w s ws wk.heap.size (wk.heap.size + 1) ⟨A, B, C, D, E, F, G, H⟩ wx) ∧ Hid (VC (wk.heap.size + 1) wk.heap.size (w.heap.size + 1 + 1) A B C D E F G H j ky wk0 wx))
          case first => as_aux_lemma =>
            --S16
            refine wp_region_held_drew (S := VC (wk.heap.size + 1) wk.heap.size (w.heap.size + 1 + 1) A B C D E F G H j ky wk0) (by kernel_rfl) (HC.out.call (Below.refl _ _).drew) (fun hHeld => ?_)
            have YK := Lib.hid (Y2.out.call (Below.refl _ _).drew)
            clear Y2 HC
            refine wpAnyH_take (i := 0) (oi := ?oi0x1) (v := ?v0x1) ?hi0x1 (by kernel_rfl) (by kernel_rfl) (by kernel_rfl) ?hq0x1 ?hy0x1 hHeld ?rest0x1
            case hi0x1 => ((try simp only [List.getElem?_toArray, List.getElem?_cons_succ, List.getElem?_cons_zero]); (try rfl))
            case hq0x1 => exact fun _ _ _ h => h
            case hy0x1 => exact Or.inl ⟨by rfl, by intro w hSw; clear hSw; go_simp; try with_reducible rfl⟩
            try simp only [Act.put, List.setIfInBounds_toArray, List.set_cons_zero, List.set_cons_succ]
            refine wpAnyH_take (i := 1) (oi := ?oi1x2) (v := ?v1x2) ?hi1x2 (by kernel_rfl) (by kernel_rfl) (by kernel_rfl) ?hq1x2 ?hy1x2 hHeld ?rest1x2
            case hi1x2 => ((try simp only [List.getElem?_toArray, List.getElem?_cons_succ, List.getElem?_cons_zero]); (try rfl))
            case hq1x2 => exact fun _ _ _ h => h
            case hy1x2 => exact Or.inl ⟨by rfl, by intro w hSw; have c0 := hSw.c0; have c1 := hSw.c1; have c2 := hSw.c2; have c4 := hSw.c4; have c5 := hSw.c5; have c6 := hSw.c6; have c7 := hSw.c7; have ck := hSw.ck; have cw := hSw.cw; clear hSw; go_simp; try with_reducible rfl⟩
            try simp only [Act.put, List.setIfInBounds_toArray, List.set_cons_zero, List.set_cons_succ]
            refine wpAnyH_take (i := 2) (oi := ?oi2x3) (v := ?v2x3) ?hi2x3 (by kernel_rfl) (by kernel_rfl) (by kernel_rfl) ?hq2x3 ?hy2x3 hHeld ?rest2x3
            case hi2x3 => ((try simp only [List.getElem?_toArray, List.getElem?_cons_succ, List.getElem?_cons_zero]); (try rfl))
            case hq2x3 => exact fun _ _ _ h => h
            case hy2x3 => exact Or.inl ⟨by rfl, by intro w hSw; clear hSw; go_simp; try with_reducible rfl⟩
            try simp only [Act.put, List.setIfInBounds_toArray, List.set_cons_zero, List.set_cons_succ]
            refine wpAnyH_take (i := 3) (oi := ?oi3x4) (v := ?v3x4) ?hi3x4 (by kernel_rfl) (by kernel_rfl) (by kernel_rfl) ?hq3x4 ?hy3x4 hHeld ?rest3x4
            case hi3x4 => ((try simp only [List.getElem?_toArray, List.getElem?_cons_succ, List.getElem?_cons_zero]); (try rfl))
            case hq3x4 => exact fun _ _ _ h => h
            case hy3x4 => exact Or.inl ⟨by rfl, by intro w hSw; have c0 := hSw.c0; have c1 := hSw.c1; have c2 := hSw.c2; have c4 := hSw.c4; have c5 := hSw.c5; have c6 := hSw.c6; have c7 := hSw.c7; have ck := hSw.ck; have cw := hSw.cw; clear hSw; go_simp; try with_reducible rfl⟩
            try simp only [Act.put, List.setIfInBounds_toArray, List.set_cons_zero, List.set_cons_succ]
            refine wpAnyH_take (i := 5) (oi := ?oi5x5) (v := ?v5x5) ?hi5x5 (by kernel_rfl) (by kernel_rfl) (by kernel_rfl) ?hq5x5 ?hy5x5 hHeld ?rest5x5
            case hi5x5 => ((try simp only [List.getElem?_toArray, List.getElem?_cons_succ, List.getElem?_cons_zero]); (try rfl))
            case hq5x5 => exact fun _ _ _ h => h
            case hy5x5 => exact Or.inl ⟨by rfl, by intro w hSw; clear hSw; go_simp; try with_reducible rfl⟩
            try simp only [Act.put, List.setIfInBounds_toArray, List.set_cons_zero, List.set_cons_succ]
            refine wpAnyH_take (i := 6) (oi := ?oi6x6) (v := ?v6x6) ?hi6x6 (by kernel_rfl) (by kernel_rfl) (by kernel_rfl) ?hq6x6 ?hy6x6 hHeld ?rest6x6
            case hi6x6 => ((try simp only [List.getElem?_toArray, List.getElem?_cons_succ, List.getElem?_cons_zero]); (try rfl))
            case hq6x6 => exact fun _ _ _ h => h
            case hy6x6 => exact Or.inl ⟨by rfl, by intro w hSw; have c0 := hSw.c0; have c1 := hSw.c1; have c2 := hSw.c2; have c4 := hSw.c4; have c5 := hSw.c5; have c6 := hSw.c6; have c7 := hSw.c7; have ck := hSw.ck; have cw := hSw.cw; clear hSw; go_simp; try with_reducible rfl⟩
            try simp only [Act.put, List.setIfInBounds_toArray, List.set_cons_zero, List.set_cons_succ]
            refine wpAnyH_take (i := 9) (oi := ?oi9x7) (v := ?v9x7) ?hi9x7 (by kernel_rfl) (by kernel_rfl) (by kernel_rfl) ?hq9x7 ?hy9x7 hHeld ?rest9x7
            case hi9x7 => ((try simp only [List.getElem?_toArray, List.getElem?_cons_succ, List.getElem?_cons_zero]); (try rfl))
            case hq9x7 => exact fun _ _ _ h => h
            case hy9x7 => exact Or.inl ⟨by rfl, by intro w hSw; clear hSw; go_simp; try with_reducible rfl⟩
            try simp only [Act.put, List.setIfInBounds_toArray, List.set_cons_zero, List.set_cons_succ]
            refine wpAnyH_take (i := 10) (oi := ?oi10x8) (v := ?v10x8) ?hi10x8 (by kernel_rfl) (by kernel_rfl) (by kernel_rfl) ?hq10x8 ?hy10x8 hHeld ?rest10x8
            case hi10x8 => ((try simp only [List.getElem?_toArray, List.getElem?_cons_succ, List.getElem?_cons_zero]); (try rfl))
            case hq10x8 => exact fun _ _ _ h => h
            case hy10x8 => exact Or.inl ⟨by rfl, by intro w hSw; have c0 := hSw.c0; have c1 := hSw.c1; have c2 := hSw.c2; have c4 := hSw.c4; have c5 := hSw.c5; have c6 := hSw.c6; have c7 := hSw.c7; have ck := hSw.ck; have cw := hSw.cw; clear hSw; go_simp; try with_reducible rfl⟩
            try simp only [Act.put, List.setIfInBounds_toArray, List.set_cons_zero, List.set_cons_succ]
            refine wpAnyH_take (i := 14) (oi := ?oi14x9) (v := ?v14x9) ?hi14x9 (by kernel_rfl) (by kernel_rfl) (by kernel_rfl) ?hq14x9 ?hy14x9 hHeld ?rest14x9
            case hi14x9 => ((try simp only [List.getElem?_toArray, List.getElem?_cons_succ, List.getElem?_cons_zero]); (try rfl))
            case hq14x9 => exact fun _ _ _ h => h
            case hy14x9 => exact Or.inl ⟨by rfl, by intro w hSw; clear hSw; go_simp; try with_reducible rfl⟩
            try simp only [Act.put, List.setIfInBounds_toArray, List.set_cons_zero, List.set_cons_succ]
            refine wpAnyH_take (i := 15) (oi := ?oi15x10) (v := ?v15x10) ?hi15x10 (by kernel_rfl) (by kernel_rfl) (by kernel_rfl) ?hq15x10 ?hy15x10 hHeld ?rest15x10
            case hi15x10 => ((try simp only [List.getElem?_toArray, List.getElem?_cons_succ, List.getElem?_cons_zero]); (try rfl))
            case hq15x10 => exact fun _ _ _ h => h
            case hy15x10 => exact Or.inl ⟨by rfl, by intro w hSw; have c0 := hSw.c0; have c1 := hSw.c1; have c2 := hSw.c2; have c4 := hSw.c4; have c5 := hSw.c5; have c6 := hSw.c6; have c7 := hSw.c7; have ck := hSw.ck; have cw := hSw.cw; clear hSw; go_simp; try with_reducible rfl⟩
            try simp only [Act.put, List.setIfInBounds_toArray, List.set_cons_zero, List.set_cons_succ]
            refine wpAnyH_take (i := 16) (oi := ?oi16x11) (v := ?v16x11) ?hi16x11 (by kernel_rfl) (by kernel_rfl) (by kernel_rfl) ?hq16x11 ?hy16x11 hHeld ?rest16x11
            case hi16x11 => ((try simp only [List.getElem?_toArray, List.getElem?_cons_succ, List.getElem?_cons_zero]); (try rfl))
            case hq16x11 => exact fun _ _ _ h => h
            case hy16x11 => exact Or.inl ⟨by rfl, by intro w hSw; clear hSw; go_simp; try with_reducible rfl⟩
            try simp only [Act.put, List.setIfInBounds_toArray, List.set_cons_zero, List.set_cons_succ]
            refine wpAnyH_take (i := 17) (oi := ?oi17x12) (v := ?v17x12) ?hi17x12 (by kernel_rfl) (by kernel_rfl) (by kernel_rfl) ?hq17x12 ?hy17x12 hHeld ?rest17x12
            case hi17x12 => ((try simp only [List.getElem?_toArray, List.getElem?_cons_succ, List.getElem?_cons_zero]); (try rfl))
            case hq17x12 => exact fun _ _ _ h => h
            case hy17x12 => exact Or.inl ⟨by rfl, by intro w hSw; have c0 := hSw.c0; have c1 := hSw.c1; have c2 := hSw.c2; have c4 := hSw.c4; have c5 := hSw.c5; have c6 := hSw.c6; have c7 := hSw.c7; have ck := hSw.ck; have cw := hSw.cw; clear hSw; go_simp; try with_reducible rfl⟩
            try simp only [Act.put, List.setIfInBounds_toArray, List.set_cons_zero, List.set_cons_succ]
            refine wpAnyH_take (i := 18) (oi := ?oi18x13) (v := ?v18x13) ?hi18x13 (by kernel_rfl) (by kernel_rfl) (by kernel_rfl) ?hq18x13 ?hy18x13 hHeld ?rest18x13
            case hi18x13 => ((try simp only [List.getElem?_toArray, List.getElem?_cons_succ, List.getElem?_cons_zero]); (try rfl))
            case hq18x13 => exact fun _ _ _ h => h
            case hy18x13 => exact Or.inl ⟨by rfl, by intro w hSw; clear hSw; go_simp; try with_reducible rfl⟩
            try simp only [Act.put, List.setIfInBounds_toArray, List.set_cons_zero, List.set_cons_succ]
            refine wpAnyH_take (i := 19) (oi := ?oi19x14) (v := ?v19x14) ?hi19x14 (by kernel_rfl) (by kernel_rfl) (by kernel_rfl) ?hq19x14 ?hy19x14 hHeld ?rest19x14
            case hi19x14 => ((try simp only [List.getElem?_toArray, List.getElem?_cons_succ, List.getElem?_cons_zero]); (try rfl))
            case hq19x14 => exact fun _ _ _ h => h
            case hy19x14 => exact Or.inl ⟨by rfl, by intro w hSw; clear hSw; go_simp; try with_reducible rfl⟩
            try simp only [Act.put, List.setIfInBounds_toArray, List.set_cons_zero, List.set_cons_succ]
            refine wpAnyH_take (i := 20) (oi := ?oi20x15) (v := ?v20x15) ?hi20x15 (by kernel_rfl) (by kernel_rfl) (by kernel_rfl) ?hq20x15 ?hy20x15 hHeld ?rest20x15
            case hi20x15 => ((try simp only [List.getElem?_toArray, List.getElem?_cons_succ, List.getElem?_cons_zero]); (try rfl))
            case hq20x15 => exact fun _ _ _ h => h
            case hy20x15 => exact Or.inl ⟨by rfl, by intro w hSw; have c0 := hSw.c0; have c1 := hSw.c1; have c2 := hSw.c2; have c4 := hSw.c4; have c5 := hSw.c5; have c6 := hSw.c6; have c7 := hSw.c7; have ck := hSw.ck; have cw := hSw.cw; clear hSw; go_simp; try with_reducible rfl⟩
            try simp only [Act.put, List.setIfInBounds_toArray, List.set_cons_zero, List.set_cons_succ]
            refine wpAnyH_take (i := 21) (oi := ?oi21x16) (v := ?v21x16) ?hi21x16 (by kernel_rfl) (by kernel_rfl) (by kernel_rfl) ?hq21x16 ?hy21x16 hHeld ?rest21x16
            case hi21x16 => ((try simp only [List.getElem?_toArray, List.getElem?_cons_succ, List.getElem?_cons_zero]); (try rfl))
            case hq21x16 => exact fun _ _ _ h => h
            case hy21x16 => exact Or.inl ⟨by rfl, by intro w hSw; clear hSw; go_simp; try with_reducible rfl⟩
            try simp only [Act.put, List.setIfInBounds_toArray, List.set_cons_zero, List.set_cons_succ]
            refine wpAnyH_take (i := 22) (oi := ?oi22x17) (v := ?v22x17) ?hi22x17 (by kernel_rfl) (by kernel_rfl) (by kernel_rfl) ?hq22x17 ?hy22x17 hHeld ?rest22x17
            case hi22x17 => ((try simp only [List.getElem?_toArray, List.getElem?_cons_succ, List.getElem?_cons_zero]); (try rfl))
            case hq22x17 => exact fun _ _ _ h => h
            case hy22x17 => exact Or.inl ⟨by rfl, by intro w hSw; clear hSw; go_simp; try with_reducible rfl⟩
            try simp only [Act.put, List.setIfInBounds_toArray, List.set_cons_zero, List.set_cons_succ]
            refine wpAnyH_take (i := 23) (oi := ?oi23x18) (v := ?v23x18) ?hi23x18 (by kernel_rfl) (by kernel_rfl) (by kernel_rfl) ?hq23x18 ?hy23x18 hHeld ?rest23x18
            case hi23x18 => ((try simp only [List.getElem?_toArray, List.getElem?_cons_succ, List.getElem?_cons_zero]); (try rfl))
            case hq23x18 => exact fun _ _ _ h => h
            case hy23x18 => exact Or.inl ⟨by rfl, by intro w hSw; have c0 := hSw.c0; have c1 := hSw.c1; have c2 := hSw.c2; have c4 := hSw.c4; have c5 := hSw.c5; have c6 := hSw.c6; have c7 := hSw.c7; have ck := hSw.ck; have cw := hSw.cw; clear hSw; go_simp; try with_reducible rfl⟩
            try simp only [Act.put, List.setIfInBounds_toArray, List.set_cons_zero, List.set_cons_succ]
            refine wpAnyH_take (i := 24) (oi := ?oi24x19) (v := ?v24x19) ?hi24x19 (by kernel_rfl) (by kernel_rfl) (by kernel_rfl) ?hq24x19 ?hy24x19 hHeld ?rest24x19
            case hi24x19 => ((try simp only [List.getElem?_toArray, List.getElem?_cons_succ, List.getElem?_cons_zero]); (try rfl))
            case hq24x19 => exact fun _ _ _ h => h
            case hy24x19 => exact Or.inl ⟨by rfl, by intro w hSw; clear hSw; go_simp; try with_reducible rfl⟩
            try simp only [Act.put, List.setIfInBounds_toArray, List.set_cons_zero, List.set_cons_succ]
            refine wpAnyH_take (i := 25) (oi := ?oi25x20) (v := ?v25x20) ?hi25x20 (by kernel_rfl) (by kernel_rfl) (by kernel_rfl) ?hq25x20 ?hy25x20 hHeld ?rest25x20
            case hi25x20 => ((try simp only [List.getElem?_toArray, List.getElem?_cons_succ, List.getElem?_cons_zero]); (try rfl))
            case hq25x20 => exact fun _ _ _ h => h
            case hy25x20 => exact Or.inl ⟨by rfl, by intro w hSw; clear hSw; go_simp; try with_reducible rfl⟩
            try simp only [Act.put, List.setIfInBounds_toArray, List.set_cons_zero, List.set_cons_succ]
            refine wpAnyH_take (i := 27) (oi := ?oi27x21) (v := ?v27x21) ?hi27x21 (by kernel_rfl) (by kernel_rfl) (by kernel_rfl) ?hq27x21 ?hy27x21 hHeld ?rest27x21
            case hi27x21 => ((try simp only [List.getElem?_toArray, List.getElem?_cons_succ, List.getElem?_cons_zero]); (try rfl))
            case hq27x21 => exact fun _ _ _ h => h
            case hy27x21 => exact Or.inl ⟨by rfl, by intro w hSw; clear hSw; go_simp; try with_reducible rfl⟩
            try simp only [Act.put, List.setIfInBounds_toArray, List.set_cons_zero, List.set_cons_succ]
            refine wpAnyH_take (i := 28) (oi := ?oi28x22) (v := ?v28x22) ?hi28x22 (by kernel_rfl) (by kernel_rfl) (by kernel_rfl) ?hq28x22 ?hy28x22 hHeld ?rest28x22
            case hi28x22 => ((try simp only [List.getElem?_toArray, List.getElem?_cons_succ, List.getElem?_cons_zero]); (try rfl))
            case hq28x22 => exact fun _ _ _ h => h
            case hy28x22 => exact Or.inl ⟨by rfl, by intro w hSw; clear hSw; go_simp; try with_reducible rfl⟩
            try simp only [Act.put, List.setIfInBounds_toArray, List.set_cons_zero, List.set_cons_succ]
            refine wpAnyH_take (i := 29) (oi := ?oi29x23) (v := ?v29x23) ?hi29x23 (by kernel_rfl) (by kernel_rfl) (by kernel_rfl) ?hq29x23 ?hy29x23 hHeld ?rest29x23
            case hi29x23 => ((try simp only [List.getElem?_toArray, List.getElem?_cons_succ, List.getElem?_cons_zero]); (try rfl))
            case hq29x23 => exact fun _ _ _ h => h
            case hy29x23 => exact Or.inl ⟨by rfl, by intro w hSw; have c0 := hSw.c0; have c1 := hSw.c1; have c2 := hSw.c2; have c4 := hSw.c4; have c5 := hSw.c5; have c6 := hSw.c6; have c7 := hSw.c7; have ck := hSw.ck; have cw := hSw.cw; clear hSw; go_simp; try with_reducible rfl⟩
            try simp only [Act.put, List.setIfInBounds_toArray, List.set_cons_zero, List.set_cons_succ]
            refine wpAnyH_take (i := 31) (oi := ?oi31x24) (v := ?v31x24) ?hi31x24 (by kernel_rfl) (by kernel_rfl) (by kernel_rfl) ?hq31x24 ?hy31x24 hHeld ?rest31x24
            case hi31x24 => ((try simp only [List.getElem?_toArray, List.getElem?_cons_succ, List.getElem?_cons_zero]); (try rfl))
            case hq31x24 => exact fun _ _ _ h => h
            case hy31x24 => exact Or.inl ⟨by rfl, by intro w hSw; clear hSw; go_simp; try with_reducible rfl⟩
            try simp only [Act.put, List.setIfInBounds_toArray, List.set_cons_zero, List.set_cons_succ]
            refine wpAnyH_take (i := 32) (oi := ?oi32x25) (v := ?v32x25) ?hi32x25 (by kernel_rfl) (by kernel_rfl) (by kernel_rfl) ?hq32x25 ?hy32x25 hHeld ?rest32x25
            case hi32x25 => ((try simp only [List.getElem?_toArray, List.getElem?_cons_succ, List.getElem?_cons_zero]); (try rfl))
            case hq32x25 => exact fun _ _ _ h => h
            case hy32x25 => exact Or.inl ⟨by rfl, by intro w hSw; clear hSw; go_simp; try with_reducible rfl⟩
            try simp only [Act.put, List.setIfInBounds_toArray, List.set_cons_zero, List.set_cons_succ]
            refine wpAnyH_take (i := 33) (oi := ?oi33x26) (v := ?v33x26) ?hi33x26 (by kernel_rfl) (by kernel_rfl) (by kernel_rfl) ?hq33x26 ?hy33x26 hHeld ?rest33x26
            case hi33x26 => ((try simp only [List.getElem?_toArray, List.getElem?_cons_succ, List.getElem?_cons_zero]); (try rfl))
            case hq33x26 => exact fun _ _ _ h => h
            case hy33x26 => exact Or.inl ⟨by rfl, by intro w hSw; have c0 := hSw.c0; have c1 := hSw.c1; have c2 := hSw.c2; have c4 := hSw.c4; have c5 := hSw.c5; have c6 := hSw.c6; have c7 := hSw.c7; have ck := hSw.ck; have cw := hSw.cw; clear hSw; go_simp; try with_reducible rfl⟩
            try simp only [Act.put, List.setIfInBounds_toArray, List.set_cons_zero, List.set_cons_succ]
            refine wpAnyH_ready (rs := [4]) (by kernel_rfl) (by simp) ?_
            refine AllReadyH.cons rfl (fun K' hK => ?_) AllReadyH.nil
            have H1 := Lib.hid hHeld
            clear hHeld
            go_simp
            refine (T6.out _).mono ?_
            rintro e wx ⟨rfl, hb⟩
            replace H1 := Lib.hid (H1.out.call hb)
            replace YK := Lib.hid (YK.out.call hb)
            refine hK.out _ _ H1.out (fun hHeld => ?_)
            clear hK H1 hb
            try simp only [Act.put, List.setIfInBounds_toArray, List.set_cons_zero, List.set_cons_succ]
            refine wpAnyH_ready (rs := [7]) (by kernel_rfl) (by simp) ?_
            refine AllReadyH.cons rfl (fun K' hK => ?_) AllReadyH.nil
            have H1 := Lib.hid hHeld
            clear hHeld
            go_simp
            refine (T11.out _).mono ?_
            rintro e wx ⟨rfl, hb⟩
            replace H1 := Lib.hid (H1.out.call hb)
            replace YK := Lib.hid (YK.out.call hb)
            refine hK.out _ _ H1.out (fun hHeld => ?_)
            clear hK H1 hb
            try simp only [Act.put, List.setIfInBounds_toArray, List.set_cons_zero, List.set_cons_succ]
            refine wpAnyH_take (i := 8) (oi := ?oi8x27) (v := ?v8x27) ?hi8x27 (by kernel_rfl) (by kernel_rfl) (by kernel_rfl) ?hq8x27 ?hy8x27 hHeld ?rest8x27
            case hi8x27 => ((try simp only [List.getElem?_toArray, List.getElem?_cons_succ, List.getElem?_cons_zero]); (try rfl))
            case hq8x27 => exact fun _ _ _ h => h
            case hy8x27 => exact Or.inl ⟨by rfl, by intro w hSw; clear hSw; go_simp; try with_reducible rfl⟩
            try simp only [Act.put, List.setIfInBounds_toArray, List.set_cons_zero, List.set_cons_succ]
            refine wpAnyH_ready (rs := [11]) (by kernel_rfl) (by simp) ?_
            refine AllReadyH.cons rfl (fun K' hK => ?_) AllReadyH.nil
            have H1 := Lib.hid hHeld
            clear hHeld
            go_simp
            refine (T25.out _).mono ?_
            rintro e wx ⟨rfl, hb⟩
            replace H1 := Lib.hid (H1.out.call hb)
            replace YK := Lib.hid (YK.out.call hb)
            refine hK.out _ _ H1.out (fun hHeld => ?_)
            clear hK H1 hb
            try simp only [Act.put, List.setIfInBounds_toArray, List.set_cons_zero, List.set_cons_succ]
            refine wpAnyH_take (i := 12) (oi := ?oi12x28) (v := ?v12x28) ?hi12x28 (by kernel_rfl) (by kernel_rfl) (by kernel_rfl) ?hq12x28 ?hy12x28 hHeld ?rest12x28
            case hi12x28 => ((try simp only [List.getElem?_toArray, List.getElem?_cons_succ, List.getElem?_cons_zero]); (try rfl))
            case hq12x28 => exact fun _ _ _ h => h
            case hy12x28 => exact Or.inl ⟨by rfl, by intro w hSw; clear hSw; go_simp; try with_reducible rfl⟩
            try simp only [Act.put, List.setIfInBounds_toArray, List.set_cons_zero, List.set_cons_succ]
            refine wpAnyH_take (i := 13) (oi := ?oi13x29) (v := ?v13x29) ?hi13x29 (by kernel_rfl) (by kernel_rfl) (by kernel_rfl) ?hq13x29 ?hy13x29 hHeld ?rest13x29
            case hi13x29 => ((try simp only [List.getElem?_toArray, List.getElem?_cons_succ, List.getElem?_cons_zero]); (try rfl))
            case hq13x29 => exact fun _ _ _ h => h
            case hy13x29 => exact Or.inl ⟨by rfl, by intro w hSw; clear hSw; go_simp; try with_reducible rfl⟩
            try simp only [Act.put, List.setIfInBounds_toArray, List.set_cons_zero, List.set_cons_succ]
            refine wpAnyH_take (i := 26) (oi := ?oi26x30) (v := ?v26x30) ?hi26x30 (by kernel_rfl) (by kernel_rfl) (by kernel_rfl) ?hq26x30 ?hy26x30 hHeld ?rest26x30
            case hi26x30 => ((try simp only [List.getElem?_toArray, List.getElem?_cons_succ, List.getElem?_cons_zero]); (try rfl))
            case hq26x30 => exact fun _ _ _ h => h
            case hy26x30 => exact Or.inl ⟨by rfl, by intro w hSw; clear hSw; go_simp; try with_reducible rfl⟩
            try simp only [Act.put, List.setIfInBounds_toArray, List.set_cons_zero, List.set_cons_succ]
            refine wpAnyH_take (i := 30) (oi := ?oi30x31) (v := ?v30x31) ?hi30x31 (by kernel_rfl) (by kernel_rfl) (by kernel_rfl) ?hq30x31 ?hy30x31 hHeld ?rest30x31
            case hi30x31 => ((try simp only [List.getElem?_toArray, List.getElem?_cons_succ, List.getElem?_cons_zero]); (try rfl))
            case hq30x31 => exact fun _ _ _ h => h
            case hy30x31 => exact Or.inl ⟨by rfl, by intro w hSw; clear hSw; go_simp; try with_reducible rfl⟩
            try simp only [Act.put, List.setIfInBounds_toArray, List.set_cons_zero, List.set_cons_succ]
            refine wpAnyH_take (i := 34) (oi := ?oi34x32) (v := ?v34x32) ?hi34x32 (by kernel_rfl) (by kernel_rfl) (by kernel_rfl) ?hq34x32 ?hy34x32 hHeld ?rest34x32
            case hi34x32 => ((try simp only [List.getElem?_toArray, List.getElem?_cons_succ, List.getElem?_cons_zero]); (try rfl))
            case hq34x32 => exact fun _ _ _ h => h
            case hy34x32 => exact Or.inl ⟨by rfl, by intro w hSw; clear hSw; go_simp; try with_reducible rfl⟩
            try simp only [Act.put, List.setIfInBounds_toArray, List.set_cons_zero, List.set_cons_succ]
            refine wpAnyH_take (i := 35) (oi := ?oi35x33) (v := ?v35x33) ?hi35x33 (by kernel_rfl) (by kernel_rfl) (by kernel_rfl) ?hq35x33 ?hy35x33 hHeld ?rest35x33
            case hi35x33 => ((try simp only [List.getElem?_toArray, List.getElem?_cons_succ, List.getElem?_cons_zero]); (try rfl))
            case hq35x33 => exact fun _ _ _ h => h
            case hy35x33 => exact Or.inl ⟨by rfl, by intro w hSw; clear hSw; go_simp; try with_reducible rfl⟩
            try simp only [Act.put, List.setIfInBounds_toArray, List.set_cons_zero, List.set_cons_succ]
            refine wpAnyH_done (by kernel_rfl) ?_ _
            have HC := Lib.hid hHeld
            go_wp2_with fail
            go_meet
            exact ⟨rfl, YK, HC⟩
            --E16
          case rest =>
            obtain ⟨rfl, Y3, HC3⟩ := hcut
            clear Y2 HC T6 T11 T25 xe xe0 e0 e1 e2 e3 m1 m2 m3 m4
            go_wp2_with fail
            go_cut [15] (fun x wx => x = .int .u32 (yy : Int) ∧ Hid (RC w s ws wk.heap.size (wk.heap.size + 1) ⟨A, B, C, D, E, F, G, H⟩ wx))
            case first => as_aux_lemma =>
              --S17
              refine wp_region_held_drew (S := VC (wk.heap.size + 1) wk.heap.size (w.heap.size + 1 + 1) A B C D E F G H j ky wk0) (by kernel_rfl) (HC3.out.call (Below.refl _ _).drew) (fun hHeld => ?_)
              have YK := Lib.hid (Y3.out.call (Below.refl _ _).drew)
              clear Y3 HC3
              refine wpAnyH_take (i := 0) (oi := ?oi0x34) (v := ?v0x34) ?hi0x34 (by kernel_rfl) (by kernel_rfl) (by kernel_rfl) ?hq0x34 ?hy0x34 hHeld ?rest0x34
              case hi0x34 => ((try simp only [List.getElem?_toArray, List.getElem?_cons_succ, List.getElem?_cons_zero]); (try rfl))
              case hq0x34 => exact fun _ _ _ h => h
              case hy0x34 => exact Or.inl ⟨by rfl, by intro w hSw; clear hSw; go_simp; try with_reducible rfl⟩
              try simp only [Act.put, List.setIfInBounds_toArray, List.set_cons_zero, List.set_cons_succ]
              refine wpAnyH_take (i := 1) (oi := ?oi1x35) (v := ?v1x35) ?hi1x35 (by kernel_rfl) (by kernel_rfl) (by kernel_rfl) ?hq1x35 ?hy1x35 hHeld ?rest1x35
              case hi1x35 => ((try simp only [List.getElem?_toArray, List.getElem?_cons_succ, List.getElem?_cons_zero]); (try rfl))
              case hq1x35 => exact fun _ _ _ h => h
              case hy1x35 => exact Or.inl ⟨by rfl, by intro w hSw; have c0 := hSw.c0; have c1 := hSw.c1; have c2 := hSw.c2; have c4 := hSw.c4; have c5 := hSw.c5; have c6 := hSw.c6; have c7 := hSw.c7; have ck := hSw.ck; have cw := hSw.cw; clear hSw; go_simp; try with_reducible rfl⟩
              try simp only [Act.put, List.setIfInBounds_toArray, List.set_cons_zero, List.set_cons_succ]
              refine wpAnyH_take (i := 3) (oi := ?oi3x36) (v := ?v3x36) ?hi3x36 (by kernel_rfl) (by kernel_rfl) (by kernel_rfl) ?hq3x36 ?hy3x36 hHeld ?rest3x36
              case hi3x36 => ((try simp only [List.getElem?_toArray, List.getElem?_cons_succ, List.getElem?_cons_zero]); (try rfl))
              case hq3x36 => exact fun _ _ _ h => h
              case hy3x36 => exact Or.inl ⟨by rfl, by intro w hSw; clear hSw; go_simp; try with_reducible rfl⟩
              try simp only [Act.put, List.setIfInBounds_toArray, List.set_cons_zero, List.set_cons_succ]
              refine wpAnyH_take (i := 4) (oi := ?oi4x37) (v := ?v4x37) ?hi4x37 (by kernel_rfl) (by kernel_rfl) (by kernel_rfl) ?hq4x37 ?hy4x37 hHeld ?rest4x37
              case hi4x37 => ((try simp only [List.getElem?_toArray, List.getElem?_cons_succ, List.getElem?_cons_zero]); (try rfl))
              case hq4x37 => exact fun _ _ _ h => h
              case hy4x37 => exact Or.inl ⟨by rfl, by intro w hSw; have c0 := hSw.c0; have c1 := hSw.c1; have c2 := hSw.c2; have c4 := hSw.c4; have c5 := hSw.c5; have c6 := hSw.c6; have c7 := hSw.c7; have ck := hSw.ck; have cw := hSw.cw; clear hSw; go_simp; try with_reducible rfl⟩
              try simp only [Act.put, List.setIfInBounds_toArray, List.set_cons_zero, List.set_cons_succ]
              refine wpAnyH_take (i := 7) (oi := ?oi7x38) (v := ?v7x38) ?hi7x38 (by kernel_rfl) (by kernel_rfl) (by kernel_rfl) ?hq7x38 ?hy7x38 hHeld ?rest7x38
              case hi7x38 => ((try simp only [List.getElem?_toArray, List.getElem?_cons_succ, List.getElem?_cons_zero]); (try rfl))
              case hq7x38 => exact fun _ _ _ h => h
              case hy7x38 => exact Or.inl ⟨by rfl, by intro w hSw; clear hSw; go_simp; try with_reducible rfl⟩
              try simp only [Act.put, List.setIfInBounds_toArray, List.set_cons_zero, List.set_cons_succ]
              refine wpAnyH_take (i := 8) (oi := ?oi8x39) (v := ?v8x39) ?hi8x39 (by kernel_rfl) (by kernel_rfl) (by kernel_rfl) ?hq8x39 ?hy8x39 hHeld ?rest8x39
              case hi8x39 => ((try simp only [List.getElem?_toArray, List.getElem?_cons_succ, List.getElem?_cons_zero]); (try rfl))
              case hq8x39 => exact fun _ _ _ h => h
              case hy8x39 => exact Or.inl ⟨by rfl, by intro w hSw; have c0 := hSw.c0; have c1 := hSw.c1; have c2 := hSw.c2; have c4 := hSw.c4; have c5 := hSw.c5; have c6 := hSw.c6; have c7 := hSw.c7; have ck := hSw.ck; have cw := hSw.cw; clear hSw; go_simp; try with_reducible rfl⟩
              try simp only [Act.put, List.setIfInBounds_toArray, List.set_cons_zero, List.set_cons_succ]
              refine wpAnyH_take (i := 11) (oi := ?oi11x40) (v := ?v11x40) ?hi11x40 (by kernel_rfl) (by kernel_rfl) (by kernel_rfl) ?hq11x40 ?hy11x40 hHeld ?rest11x40
              case hi11x40 => ((try simp only [List.getElem?_toArray, List.getElem?_cons_succ, List.getElem?_cons_zero]); (try rfl))
              case hq11x40 => exact fun _ _ _ h => h
              case hy11x40 => exact Or.inl ⟨by rfl, by intro w hSw; clear hSw; go_simp; try with_reducible rfl⟩
              try simp only [Act.put, List.setIfInBounds_toArray, List.set_cons_zero, List.set_cons_succ]
              refine wpAnyH_take (i := 12) (oi := ?oi12x41) (v := ?v12x41) ?hi12x41 (by kernel_rfl) (by kernel_rfl) (by kernel_rfl) ?hq12x41 ?hy12x41 hHeld ?rest12x41
              case hi12x41 => ((try simp only [List.getElem?_toArray, List.getElem?_cons_succ, List.getElem?_cons_zero]); (try rfl))
              case hq12x41 => exact fun _ _ _ h => h
              case hy12x41 => exact Or.inl ⟨by rfl, by intro w hSw; have c0 := hSw.c0; have c1 := hSw.c1; have c2 := hSw.c2; have c4 := hSw.c4; have c5 := hSw.c5; have c6 := hSw.c6; have c7 := hSw.c7; have ck := hSw.ck; have cw := hSw.cw; clear hSw; go_simp; try with_reducible rfl⟩
              try simp only [Act.put, List.setIfInBounds_toArray, List.set_cons_zero, List.set_cons_succ]
              refine wpAnyH_take (i := 13) (oi := ?oi13x42) (v := ?v13x42) ?hi13x42 (by kernel_rfl) (by kernel_rfl) (by kernel_rfl) ?hq13x42 ?hy13x42 hHeld ?rest13x42
              case hi13x42 => ((try simp only [List.getElem?_toArray, List.getElem?_cons_succ, List.getElem?_cons_zero]); (try rfl))
              case hq13x42 => exact fun _ _ _ h => h
              case hy13x42 => exact Or.inl ⟨by rfl, by intro w hSw; clear hSw; go_simp; try with_reducible rfl⟩
              try simp only [Act.put, List.setIfInBounds_toArray, List.set_cons_zero, List.set_cons_succ]
              refine wpAnyH_take (i := 14) (oi := ?oi14x43) (v := ?v14x43) ?hi14x43 (by kernel_rfl) (by kernel_rfl) (by kernel_rfl) ?hq14x43 ?hy14x43 hHeld ?rest14x43
              case hi14x43 => ((try simp only [List.getElem?_toArray, List.getElem?_cons_succ, List.getElem?_cons_zero]); (try rfl))
              case hq14x43 => exact fun _ _ _ h => h
              case hy14x43 => exact Or.inl ⟨by rfl, by intro w hSw; have c0 := hSw.c0; have c1 := hSw.c1; have c2 := hSw.c2; have c4 := hSw.c4; have c5 := hSw.c5; have c6 := hSw.c6; have c7 := hSw.c7; have ck := hSw.ck; have cw := hSw.cw; clear hSw; go_simp; try with_reducible rfl⟩
              try simp only [Act.put, List.setIfInBounds_toArray, List.set_cons_zero, List.set_cons_succ]
              refine wpAnyH_take (i := 15) (oi := ?oi15x44) (v := ?v15x44) ?hi15x44 (by kernel_rfl) (by kernel_rfl) (by kernel_rfl) ?hq15x44 ?hy15x44 hHeld ?rest15x44
              case hi15x44 => ((try simp only [List.getElem?_toArray, List.getElem?_cons_succ, List.getElem?_cons_zero]); (try rfl))
              case hq15x44 => exact fun _ _ _ h => h
              case hy15x44 => exact Or.inl ⟨by rfl, by intro w hSw; clear hSw; go_simp; try with_reducible rfl⟩
              try simp only [Act.put, List.setIfInBounds_toArray, List.set_cons_zero, List.set_cons_succ]
              refine wpAnyH_take (i := 16) (oi := ?oi16x45) (v := ?v16x45) ?hi16x45 (by kernel_rfl) (by kernel_rfl) (by kernel_rfl) ?hq16x45 ?hy16x45 hHeld ?rest16x45
              case hi16x45 => ((try simp only [List.getElem?_toArray, List.getElem?_cons_succ, List.getElem?_cons_zero]); (try rfl))
              case hq16x45 => exact fun _ _ _ h => h
              case hy16x45 => exact Or.inl ⟨by rfl, by intro w hSw; clear hSw; go_simp; try with_reducible rfl⟩
              try simp only [Act.put, List.setIfInBounds_toArray, List.set_cons_zero, List.set_cons_succ]
              refine wpAnyH_take (i := 17) (oi := ?oi17x46) (v := ?v17x46) ?hi17x46 (by kernel_rfl) (by kernel_rfl) (by kernel_rfl) ?hq17x46 ?hy17x46 hHeld ?rest17x46
              case hi17x46 => ((try simp only [List.getElem?_toArray, List.getElem?_cons_succ, List.getElem?_cons_zero]); (try rfl))
              case hq17x46 => exact fun _ _ _ h => h
              case hy17x46 => exact Or.inl ⟨by rfl, by intro w hSw; have c0 := hSw.c0; have c1 := hSw.c1; have c2 := hSw.c2; have c4 := hSw.c4; have c5 := hSw.c5; have c6 := hSw.c6; have c7 := hSw.c7; have ck := hSw.ck; have cw := hSw.cw; clear hSw; go_simp; try with_reducible rfl⟩
              try simp only [Act.put, List.setIfInBounds_toArray, List.set_cons_zero, List.set_cons_succ]
              refine wpAnyH_take (i := 18) (oi := ?oi18x47) (v := ?v18x47) ?hi18x47 (by kernel_rfl) (by kernel_rfl) (by kernel_rfl) ?hq18x47 ?hy18x47 hHeld ?rest18x47
              case hi18x47 => ((try simp only [List.getElem?_toArray, List.getElem?_cons_succ, List.getElem?_cons_zero]); (try rfl))
              case hq18x47 => exact fun _ _ _ h => h
              case hy18x47 => exact Or.inl ⟨by rfl, by intro w hSw; clear hSw; go_simp; try with_reducible rfl⟩
              try simp only [Act.put, List.setIfInBounds_toArray, List.set_cons_zero, List.set_cons_succ]
              refine wpAnyH_take (i := 19) (oi := ?oi19x48) (v := ?v19x48) ?hi19x48 (by kernel_rfl) (by kernel_rfl) (by kernel_rfl) ?hq19x48 ?hy19x48 hHeld ?rest19x48
              case hi19x48 => ((try simp only [List.getElem?_toArray, List.getElem?_cons_succ, List.getElem?_cons_zero]); (try rfl))
              case hq19x48 => exact fun _ _ _ h => h
              case hy19x48 => exact Or.inl ⟨by rfl, by intro w hSw; have c0 := hSw.c0; have c1 := hSw.c1; have c2 := hSw.c2; have c4 := hSw.c4; have c5 := hSw.c5; have c6 := hSw.c6; have c7 := hSw.c7; have ck := hSw.ck; have cw := hSw.cw; clear hSw; go_simp; try with_reducible rfl⟩
              try simp only [Act.put, List.setIfInBounds_toArray, List.set_cons_zero, List.set_cons_succ]
              refine wpAnyH_take (i := 20) (oi := ?oi20x49) (v := ?v20x49) ?hi20x49 (by kernel_rfl) (by kernel_rfl) (by kernel_rfl) ?hq20x49 ?hy20x49 hHeld ?rest20x49
              case hi20x49 => ((try simp only [List.getElem?_toArray, List.getElem?_cons_succ, List.getElem?_cons_zero]); (try rfl))
              case hq20x49 => exact fun _ _ _ h => h
              case hy20x49 => exact Or.inl ⟨by rfl, by intro w hSw; clear hSw; go_simp; try with_reducible rfl⟩
              try simp only [Act.put, List.setIfInBounds_toArray, List.set_cons_zero, List.set_cons_succ]
              refine wpAnyH_take (i := 21) (oi := ?oi21x50) (v := ?v21x50) ?hi21x50 (by kernel_rfl) (by kernel_rfl) (by kernel_rfl) ?hq21x50 ?hy21x50 hHeld ?rest21x50
              case hi21x50 => ((try simp only [List.getElem?_toArray, List.getElem?_cons_succ, List.getElem?_cons_zero]); (try rfl))
              case hq21x50 => exact fun _ _ _ h => h
              case hy21x50 => exact Or.inl ⟨by rfl, by intro w hSw; clear hSw; go_simp; try with_reducible rfl⟩
              try simp only [Act.put, List.setIfInBounds_toArray, List.set_cons_zero, List.set_cons_succ]
              refine wpAnyH_take (i := 22) (oi := ?oi22x51) (v := ?v22x51) ?hi22x51 (by kernel_rfl) (by kernel_rfl) (by kernel_rfl) ?hq22x51 ?hy22x51 hHeld ?rest22x51
              case hi22x51 => ((try simp only [List.getElem?_toArray, List.getElem?_cons_succ, List.getElem?_cons_zero]); (try rfl))
              case hq22x51 => exact fun _ _ _ h => h
              case hy22x51 => exact Or.inl ⟨by rfl, by intro w hSw; clear hSw; go_simp; try with_reducible rfl⟩
              try simp only [Act.put, List.setIfInBounds_toArray, List.set_cons_zero, List.set_cons_succ]
              refine wpAnyH_take (i := 23) (oi := ?oi23x52) (v := ?v23x52) ?hi23x52 (by kernel_rfl) (by kernel_rfl) (by kernel_rfl) ?hq23x52 ?hy23x52 hHeld ?rest23x52
              case hi23x52 => ((try simp only [List.getElem?_toArray, List.getElem?_cons_succ, List.getElem?_cons_zero]); (try rfl))
              case hq23x52 => exact fun _ _ _ h => h
              case hy23x52 => exact Or.inl ⟨by rfl, by intro w hSw; have c0 := hSw.c0; have c1 := hSw.c1; have c2 := hSw.c2; have c4 := hSw.c4; have c5 := hSw.c5; have c6 := hSw.c6; have c7 := hSw.c7; have ck := hSw.ck; have cw := hSw.cw; clear hSw; go_simp; try with_reducible rfl⟩
              try simp only [Act.put, List.setIfInBounds_toArray, List.set_cons_zero, List.set_cons_succ]
              refine wpAnyH_take (i := 24) (oi := ?oi24x53) (v := ?v24x53) ?hi24x53 (by kernel_rfl) (by kernel_rfl) (by kernel_rfl) ?hq24x53 ?hy24x53 hHeld ?rest24x53
              case hi24x53 => ((try simp only [List.getElem?_toArray, List.getElem?_cons_succ, List.getElem?_cons_zero]); (try rfl))
              case hq24x53 => exact fun _ _ _ h => h
              case hy24x53 => exact Or.inl ⟨by rfl, by intro w hSw; clear hSw; go_simp; try with_reducible rfl⟩
              try simp only [Act.put, List.setIfInBounds_toArray, List.set_cons_zero, List.set_cons_succ]
              refine wpAnyH_take (i := 25) (oi := ?oi25x54) (v := ?v25x54) ?hi25x54 (by kernel_rfl) (by kernel_rfl) (by kernel_rfl) ?hq25x54 ?hy25x54 hHeld ?rest25x54
              case hi25x54 => ((try simp only [List.getElem?_toArray, List.getElem?_cons_succ, List.getElem?_cons_zero]); (try rfl))
              case hq25x54 => exact fun _ _ _ h => h
              case hy25x54 => exact Or.inl ⟨by rfl, by intro w hSw; have c0 := hSw.c0; have c1 := hSw.c1; have c2 := hSw.c2; have c4 := hSw.c4; have c5 := hSw.c5; have c6 := hSw.c6; have c7 := hSw.c7; have ck := hSw.ck; have cw := hSw.cw; clear hSw; go_simp; try with_reducible rfl⟩
              try simp only [Act.put, List.setIfInBounds_toArray, List.set_cons_zero, List.set_cons_succ]
              refine wpAnyH_take (i := 26) (oi := ?oi26x55) (v := ?v26x55) ?hi26x55 (by kernel_rfl) (by kernel_rfl) (by kernel_rfl) ?hq26x55 ?hy26x55 hHeld ?rest26x55
              case hi26x55 => ((try simp only [List.getElem?_toArray, List.getElem?_cons_succ, List.getElem?_cons_zero]); (try rfl))
              case hq26x55 => exact fun _ _ _ h => h
              case hy26x55 => exact Or.inl ⟨by rfl, by intro w hSw; clear hSw; go_simp; try with_reducible rfl⟩
              try simp only [Act.put, List.setIfInBounds_toArray, List.set_cons_zero, List.set_cons_succ]
              refine wpAnyH_take (i := 27) (oi := ?oi27x56) (v := ?v27x56) ?hi27x56 (by kernel_rfl) (by kernel_rfl) (by kernel_rfl) ?hq27x56 ?hy27x56 hHeld ?rest27x56
              case hi27x56 => ((try simp only [List.getElem?_toArray, List.getElem?_cons_succ, List.getElem?_cons_zero]); (try rfl))
              case hq27x56 => exact fun _ _ _ h => h
              case hy27x56 => exact Or.inl ⟨by rfl, by intro w hSw; clear hSw; go_simp; try with_reducible rfl⟩
              try simp only [Act.put, List.setIfInBounds_toArray, List.set_cons_zero, List.set_cons_succ]
              refine wpAnyH_ready (rs := [2]) (by kernel_rfl) (by simp) ?_
              refine AllReadyH.cons rfl (fun K' hK => ?_) AllReadyH.nil
              have H1 := Lib.hid hHeld
              clear hHeld
              go_simp
              refine (T2.out _).mono ?_
              rintro e wx ⟨rfl, hb⟩
              replace H1 := Lib.hid (H1.out.call hb)
              replace YK := Lib.hid (YK.out.call hb)
              refine hK.out _ _ H1.out (fun hHeld => ?_)
              clear hK H1 hb
              try simp only [Act.put, List.setIfInBounds_toArray, List.set_cons_zero, List.set_cons_succ]
              refine wpAnyH_ready (rs := [5]) (by kernel_rfl) (by simp) ?_
              refine AllReadyH.cons rfl (fun K' hK => ?_) AllReadyH.nil
              have H1 := Lib.hid hHeld
              clear hHeld
              go_simp
              refine (T13.out _).mono ?_
              rintro e wx ⟨rfl, hb⟩
              replace H1 := Lib.hid (H1.out.call hb)
              replace YK := Lib.hid (YK.out.call hb)
              refine hK.out _ _ H1.out (fun hHeld => ?_)
              clear hK H1 hb
              try simp only [Act.put, List.setIfInBounds_toArray, List.set_cons_zero, List.set_cons_succ]
              refine wpAnyH_take (i := 6) (oi := ?oi6x57) (v := ?v6x57) ?hi6x57 (by kernel_rfl) (by kernel_rfl) (by kernel_rfl) ?hq6x57 ?hy6x57 hHeld ?rest6x57
              case hi6x57 => ((try simp only [List.getElem?_toArray, List.getElem?_cons_succ, List.getElem?_cons_zero]); (try rfl))
              case hq6x57 => exact fun _ _ _ h => h
              case hy6x57 => exact Or.inl ⟨by rfl, by intro w hSw; clear hSw; go_simp; try with_reducible rfl⟩
              try simp only [Act.put, List.setIfInBounds_toArray, List.set_cons_zero, List.set_cons_succ]
              refine wpAnyH_ready (rs := [9]) (by kernel_rfl) (by simp) ?_
              refine AllReadyH.cons rfl (fun K' hK => ?_) AllReadyH.nil
              have H1 := Lib.hid hHeld
              clear hHeld
              go_simp
              refine (T22.out _).mono ?_
              rintro e wx ⟨rfl, hb⟩
              replace H1 := Lib.hid (H1.out.call hb)
              replace YK := Lib.hid (YK.out.call hb)
              refine hK.out _ _ H1.out (fun hHeld => ?_)
              clear hK H1 hb
              try simp only [Act.put, List.setIfInBounds_toArray, List.set_cons_zero, List.set_cons_succ]
              refine wpAnyH_take (i := 10) (oi := ?oi10x58) (v := ?v10x58) ?hi10x58 (by kernel_rfl) (by kernel_rfl) (by kernel_rfl) ?hq10x58 ?hy10x58 hHeld ?rest10x58
              case hi10x58 => ((try simp only [List.getElem?_toArray, List.getElem?_cons_succ, List.getElem?_cons_zero]); (try rfl))
              case hq10x58 => exact fun _ _ _ h => h
              case hy10x58 => exact Or.inl ⟨by rfl, by intro w hSw; clear hSw; go_simp; try with_reducible rfl⟩
              try simp only [Act.put, List.setIfInBounds_toArray, List.set_cons_zero, List.set_cons_succ]
              refine wpAnyH_take (i := 28) (oi := ?oi28x59) (v := ?v28x59) ?hi28x59 (by kernel_rfl) (by kernel_rfl) (by kernel_rfl) ?hq28x59 ?hy28x59 hHeld ?rest28x59
              case hi28x59 => ((try simp only [List.getElem?_toArray, List.getElem?_cons_succ, List.getElem?_cons_zero]); (try rfl))
              case hq28x59 => exact fun _ _ _ h => h
              case hy28x59 => exact Or.inl ⟨by rfl, by intro w hSw; clear hSw; go_simp; try with_reducible rfl⟩
              try simp only [Act.put, List.setIfInBounds_toArray, List.set_cons_zero, List.set_cons_succ]
              refine wpAnyH_take (i := 29) (oi := ?oi29x60) (v := ?v29x60) ?hi29x60 (by kernel_rfl) (by kernel_rfl) (by kernel_rfl) ?hq29x60 ?hy29x60 hHeld ?rest29x60
              case hi29x60 => ((try simp only [List.getElem?_toArray, List.getElem?_cons_succ, List.getElem?_cons_zero]); (try rfl))
              case hq29x60 => exact fun _ _ _ h => h
              case hy29x60 => exact Or.inl ⟨by rfl, by intro w hSw; clear hSw; go_simp; try with_reducible rfl⟩
              try simp only [Act.put, List.setIfInBounds_toArray, List.set_cons_zero, List.set_cons_succ]
              refine wpAnyH_done (by kernel_rfl) ?_ _
              go_wp2_with fail
              go_meet
              exact ⟨rfl, YK⟩
              --E17
            case rest =>
              obtain ⟨rfl, Y4⟩ := hcut
              clear Y3 HC3 T2 T13 T22 xa xa0 f1 f2 f3 f4 f5 y1
              have c0 := Y4.out.v.cell (w32L_get (j := 0) rfl)
              have c1 := Y4.out.v.cell (w32L_get (j := 1) rfl)
              have c2 := Y4.out.v.cell (w32L_get (j := 2) rfl)
              have c3 := Y4.out.v.cell (w32L_get (j := 3) rfl)
              have c4 := Y4.out.v.cell (w32L_get (j := 4) rfl)
              have c5 := Y4.out.v.cell (w32L_get (j := 5) rfl)
              have c6 := Y4.out.v.cell (w32L_get (j := 6) rfl)
              have tv := Y4.out.v.th
              have hi8 : (Tryd.prog.info? 86).map (·.size) = some (w32L [aa, A, B, C, dd, E, F, G]).toArray.size := by rw [List.size_toArray, w32L_len]; exact info8w
              have ht8 : ∃ t, t = (w32L [aa, A, B, C, dd, E, F, G]).toArray.size := ⟨_, rfl⟩
              rw [w32L_len] at tv
              obtain ⟨V8, hV8⟩ : ∃ V, w32L [aa, A, B, C, dd, E, F, G] = V := ⟨_, rfl⟩
              have tv8 := tv
              have e8 : V8.toArray.size = 8 := by rw [← hV8, List.size_toArray, w32L_len]; rfl
              have one8 := u32one [aa, A, B, C, dd, E, F, G]
              rw [hV8] at hi8 one8
              have ag8 : Value.agg #[.int .u32 (aa : Int), .int .u32 (A : Int), .int .u32 (B : Int), .int .u32 (C : Int), .int .u32 (dd : Int), .int .u32 (E : Int), .int .u32 (F : Int), .int .u32 (G : Int)] = .agg V8.toArray := by rw [← hV8]; rfl
              have tw8 := tv8
              change World.there _ _ _ 8 at tw8
              rw [← e8] at tw8
              have HV8 := Lib.hid hV8
              have HA8 := Lib.hid (And.intro ag8 (And.intro tw8 (And.intro hi8 one8)))
              clear tv ht8 e8 tv8 hV8 ag8 tw8 hi8 one8
              go_wp2_with (refine wpList_store_mid rfl _ (.tmp 12) (.tmp 186) rfl (wk.heap.size + 1) 0 V8.toArray rfl HA8.out.1 HA8.out.2.1 HA8.out.2.2.1 HA8.out.2.2.2 ?_)
              have Y5 : Hid (RC w s ws wk.heap.size (wk.heap.size + 1) ⟨aa, A, B, C, dd, E, F, G⟩ (wc.setCells (wk.heap.size + 1) 0 V8)) := Lib.hid (by rw [← HV8.out]; exact Y4.out.put lk2 (Nat.lt_succ_self _) ⟨aa, A, B, C, dd, E, F, G⟩)
              clear Y4 HA8 HV8
              go_roundw
              case rel => exact ⟨j + 1, ⟨aa, A, B, C, dd, E, F, G⟩, by omega, by go_num, Lib.hid NX2.out.symm, Y5⟩
              case measure => simp [intOf]; omega
        · obtain rfl : j = 64 := by omega
          have j1 : ¬ (64 : Int) < 64 := by omega
          have FT : Hid (s.block b = T.sum s) := Lib.hid (by rw [EB.out, ← HT.out, St.sum_comm])
          have Z0 : Hid (RE w s T (wk.heap.size + 1) 0 wr) := Lib.hid ⟨Y.out.b.st, Y.out.b.res, by rw [mix_zero]; exact Y.out.v, Y.out.b.below⟩
          clear Y EB HT OT
          go_wp2_with fail
          go_loopw [16] (fun i wi => ∃ k : Nat, k ≤ 8 ∧ i = .int .i64 k ∧ Hid (RE w s T (wk.heap.size + 1) k wi)) (fun i _ => 8 - (intOf i).toNat)
          case atStart => exact ⟨0, Nat.zero_le _, rfl, Z0⟩
          case round =>
            obtain ⟨k, hk, rfl, Z⟩ := hrel
            clear Z0
            by_cases hl8 : k < 8
            · have j2 : (k : Int) < 8 := by omega
              have cs := Z.out.st.cell (w32L_get (l := s.l) (j := k) (x := s.l.getD k 0) (by rw [List.getD_eq_getElem?_getD, List.getElem?_eq_getElem (show k < s.l.length from hl8)]; rfl))
              have cv := Z.out.v.cell (w32L_get (mix_at T s k hl8))
              have fv := Z.out.v.free (j := k) (by rw [w32L_len, mix_len]; exact hl8)
              have Z1 := Lib.hid ((Z.out.put (by omega) hl8).call (Below.refl _ _).drew)
              have a1 := wrap_add (T.l.getD k 0) (s.l.getD k 0)
              have kb : 0 ≤ (k : Int) ∧ (k : Int) < 8 := by omega
              have kw : IntKind.i64.wrap (k : Int) = (k : Int) := wrap_small _ (by omega) (by omega)
              generalize s.l.getD k 0 = sk at *
              generalize T.l.getD k 0 = tk at *
              generalize add32 tk sk = uk at *
              clear Z
              go_wp2_with fail
              go_still_tail 7, (by kernel_rfl)
              change wpList _ _ _ _ _ wr.drew
              go_wp2_with fail
              go_roundw
              case rel => exact ⟨k + 1, by omega, by go_num, Z1⟩
              case measure => simp [intOf]; omega
            · obtain rfl : k = 8 := by omega
              have j2 : ¬ (8 : Int) < 8 := by omega
              have rv := Z.out.v
              rw [mix_eight, ← FT.out] at rv
              have BE := Lib.hid Z.out.below
              have tr := Z.out.res.th
              have rr := rv.row
              have RS := Lib.hid Z.out.res
              clear Z FT rv
              have l8 : (w32L (s.block b).l).length = 8 := by rw [w32L_len]; rfl
              have one8 := u32one (s.block b).l
              obtain ⟨V, hV⟩ : ∃ V, w32L (s.block b).l = V := ⟨_, rfl⟩
              have HV := Lib.hid hV
              rw [hV] at l8 one8 rr
              clear hV
              have sV : V.toArray.size = 8 := by rw [List.size_toArray, l8]
              have tr8 : wr.there (w.heap.size + 1) 0 V.toArray.size := by rw [sV]; exact tr
              have in8 : (Tryd.prog.info? 86).map (·.size) = some V.toArray.size := by rw [sV]; exact info8w
              have in9 : (Tryd.prog.info? 86).map (·.size) = some V.length := by rw [l8]; exact info8w
              have HL := Lib.hid (And.intro l8 (And.intro one8 (And.intro tr8 (And.intro in8 in9))))
              clear l8 one8 sV tr8 in8 in9 tr
              go_wp2_with (first | (refine wpList_load_mid rfl _ (.tmp 12) rfl (wk.heap.size + 1) 0 rfl V _ rr Tryd.underlying86 rfl HL.out.2.2.2.2 ?_) | (refine wpList_store_mid rfl _ (.tmp 4) (.tmp 199) rfl (w.heap.size + 1) 0 V.toArray rfl rfl HL.out.2.2.1 HL.out.2.2.2.1 HL.out.2.1 ?_))
              exact bodyPost_ret (ret_cell Tryd.results44 _ _ (w.heap.size + 1) V _ rfl (RS.out.sets V (by rw [HL.out.1]; rfl)).row Tryd.underlying86 rfl (by rw [HL.out.1]; exact info8w)) rfl ⟨by rw [HV.out], below_setCells (w.heap.size + 1) (Nat.le_succ _) V 0 _ BE.out⟩
end Arw
end Go.Proofs.YtafeigpmldgifaaDoor
/-
  The walks of digest and Sum of the reference.
-/
namespace Go.Proofs.YtafeigpmldgifaaDoor
namespace Arw
open Go.RowKit Lw Go.Proofs.YtafeigpmldgifaaDoor.Arp

/-- What the reference's digest keeps. -/
structure RD (w0 : World) (p : Nat) (b : List UInt8) (k : Nat) (w : World) : Prop where
  res : Rw w w0.heap.size (List.replicate 32 (.int .u8 0))
  st : Rw w (w0.heap.size + 1) (w32L (blocksS (padL b) k).l)
  pd : ∀ j v, (by8L (padL b))[j]? = some v → w.cell? ⟨p, j, none⟩ = some v
  lt : p < w.heap.size
  below : Below w0.heap.size w0 w
theorem RD.call {w0 w w' : World} {p k : Nat} {b : List UInt8} (h : RD w0 p b k w) (hb : Below w.heap.size w w') : RD w0 p b k w' :=
  ⟨h.res.call hb, h.st.call hb, fun j v hv => cell_call (h.pd j v hv) hb, Nat.lt_of_lt_of_le h.lt hb.size, below_then h.below hb⟩
theorem RD.put {w0 w : World} {p k : Nat} {b : List UInt8} (h : RD w0 p b k w) (hp : w0.heap.size + 1 < p) (S : St) (hS : (blocksS (padL b) k).block (((padL b).drop (64 * k)).take 64) = S) : RD w0 p b (k + 1) (w.setCells (w0.heap.size + 1) 0 (w32L S.l)) := by
  have e : blocksS (padL b) (k + 1) = S := hS
  refine ⟨h.res.sets_apart _ (by omega) 0, by rw [e]; exact h.st.sets _ (by rw [w32L_len, w32L_len]; rfl), fun j v hv => ?_, by rw [sets_size2]; exact h.lt, below_setCells (w0.heap.size + 1) (Nat.le_succ _) _ 0 w h.below⟩
  rw [World.cell?_setCells_out _ _ _ _ _ (fun e => by have : p = w0.heap.size + 1 := e; omega)]
  exact h.pd j v hv
theorem rblock_bytes {w : World} {p : Nat} {l : List UInt8} (h : ∀ j v, (by8L l)[j]? = some v → w.cell? ⟨p, j, none⟩ = some v) (k : Nat) (hk : 64 * k + 64 ≤ l.length) : ∀ j v, (by8L ((l.drop (64 * k)).take 64))[j]? = some v → w.cell? ⟨p, 64 * k + j, none⟩ = some v := fun j v hv => by
  have hj : j < 64 := by
    have := (List.getElem?_eq_some_iff.1 hv).1
    rw [by8_len, List.length_take] at this
    omega
  refine h _ _ ?_
  unfold by8L at hv ⊢
  rw [List.getElem?_map] at hv ⊢
  rw [List.getElem?_take_of_lt hj, List.getElem?_drop] at hv
  exact hv
set_option maxRecDepth 100000 in
set_option maxHeartbeats 16000000 in
theorem rdigest_any (b : List UInt8) (x : Option Addr) (cap : Nat) (w : World) (hb : b.length ≤ 1000) (hsrc : SrcB w x b cap) :
    Calls Tryd.prog 26 #[.slice x b.length cap] w fun e w' => e = .returned (digV (digestL b)) ∧ Below w.heap.size w w' := by
  have B0 := (Below.refl w.heap.size w).alloc (Nat.le_refl _) (.cells #[.int .u8 0, .int .u8 0, .int .u8 0, .int .u8 0, .int .u8 0, .int .u8 0, .int .u8 0, .int .u8 0, .int .u8 0, .int .u8 0, .int .u8 0, .int .u8 0, .int .u8 0, .int .u8 0, .int .u8 0, .int .u8 0, .int .u8 0, .int .u8 0, .int .u8 0, .int .u8 0, .int .u8 0, .int .u8 0, .int .u8 0, .int .u8 0, .int .u8 0, .int .u8 0, .int .u8 0, .int .u8 0, .int .u8 0, .int .u8 0, .int .u8 0, .int .u8 0] 23)
  have B1 := B0.alloc (by simp) (.cells #[.int .u32 1779033703, .int .u32 3144134277, .int .u32 1013904242, .int .u32 2773480762, .int .u32 1359893119, .int .u32 2600822924, .int .u32 528734635, .int .u32 1541459225] 86)
  have R0 : Rw (w.alloc (.cells #[.int .u8 0, .int .u8 0, .int .u8 0, .int .u8 0, .int .u8 0, .int .u8 0, .int .u8 0, .int .u8 0, .int .u8 0, .int .u8 0, .int .u8 0, .int .u8 0, .int .u8 0, .int .u8 0, .int .u8 0, .int .u8 0, .int .u8 0, .int .u8 0, .int .u8 0, .int .u8 0, .int .u8 0, .int .u8 0, .int .u8 0, .int .u8 0, .int .u8 0, .int .u8 0, .int .u8 0, .int .u8 0, .int .u8 0, .int .u8 0, .int .u8 0, .int .u8 0] 23)) w.heap.size (List.replicate 32 (.int .u8 0)) := Rw.new w (List.replicate 32 (.int .u8 0)) 23
  have R1 := Rw.new (w.alloc (.cells #[.int .u8 0, .int .u8 0, .int .u8 0, .int .u8 0, .int .u8 0, .int .u8 0, .int .u8 0, .int .u8 0, .int .u8 0, .int .u8 0, .int .u8 0, .int .u8 0, .int .u8 0, .int .u8 0, .int .u8 0, .int .u8 0, .int .u8 0, .int .u8 0, .int .u8 0, .int .u8 0, .int .u8 0, .int .u8 0, .int .u8 0, .int .u8 0, .int .u8 0, .int .u8 0, .int .u8 0, .int .u8 0, .int .u8 0, .int .u8 0, .int .u8 0, .int .u8 0] 23)) (w32L firstS.l) 86
  have R0' := R0.call ((Below.refl _ _).alloc (Nat.le_refl _) (.cells (w32L firstS.l).toArray 86))
  obtain ⟨W1, hW1⟩ : ∃ W, (w.alloc (.cells #[.int .u8 0, .int .u8 0, .int .u8 0, .int .u8 0, .int .u8 0, .int .u8 0, .int .u8 0, .int .u8 0, .int .u8 0, .int .u8 0, .int .u8 0, .int .u8 0, .int .u8 0, .int .u8 0, .int .u8 0, .int .u8 0, .int .u8 0, .int .u8 0, .int .u8 0, .int .u8 0, .int .u8 0, .int .u8 0, .int .u8 0, .int .u8 0, .int .u8 0, .int .u8 0, .int .u8 0, .int .u8 0, .int .u8 0, .int .u8 0, .int .u8 0, .int .u8 0] 23)).alloc (.cells #[.int .u32 1779033703, .int .u32 3144134277, .int .u32 1013904242, .int .u32 2773480762, .int .u32 1359893119, .int .u32 2600822924, .int .u32 528734635, .int .u32 1541459225] 86) = W := ⟨_, rfl⟩
  change Rw ((w.alloc (.cells #[.int .u8 0, .int .u8 0, .int .u8 0, .int .u8 0, .int .u8 0, .int .u8 0, .int .u8 0, .int .u8 0, .int .u8 0, .int .u8 0, .int .u8 0, .int .u8 0, .int .u8 0, .int .u8 0, .int .u8 0, .int .u8 0, .int .u8 0, .int .u8 0, .int .u8 0, .int .u8 0, .int .u8 0, .int .u8 0, .int .u8 0, .int .u8 0, .int .u8 0, .int .u8 0, .int .u8 0, .int .u8 0, .int .u8 0, .int .u8 0, .int .u8 0, .int .u8 0] 23)).alloc (.cells #[.int .u32 1779033703, .int .u32 3144134277, .int .u32 1013904242, .int .u32 2773480762, .int .u32 1359893119, .int .u32 2600822924, .int .u32 528734635, .int .u32 1541459225] 86)) _ _ at R1
  change Rw ((w.alloc (.cells #[.int .u8 0, .int .u8 0, .int .u8 0, .int .u8 0, .int .u8 0, .int .u8 0, .int .u8 0, .int .u8 0, .int .u8 0, .int .u8 0, .int .u8 0, .int .u8 0, .int .u8 0, .int .u8 0, .int .u8 0, .int .u8 0, .int .u8 0, .int .u8 0, .int .u8 0, .int .u8 0, .int .u8 0, .int .u8 0, .int .u8 0, .int .u8 0, .int .u8 0, .int .u8 0, .int .u8 0, .int .u8 0, .int .u8 0, .int .u8 0, .int .u8 0, .int .u8 0] 23)).alloc (.cells #[.int .u32 1779033703, .int .u32 3144134277, .int .u32 1013904242, .int .u32 2773480762, .int .u32 1359893119, .int .u32 2600822924, .int .u32 528734635, .int .u32 1541459225] 86)) _ _ at R0'
  rw [hW1] at B1 R1 R0'
  have es : (w.alloc (.cells #[.int .u8 0, .int .u8 0, .int .u8 0, .int .u8 0, .int .u8 0, .int .u8 0, .int .u8 0, .int .u8 0, .int .u8 0, .int .u8 0, .int .u8 0, .int .u8 0, .int .u8 0, .int .u8 0, .int .u8 0, .int .u8 0, .int .u8 0, .int .u8 0, .int .u8 0, .int .u8 0, .int .u8 0, .int .u8 0, .int .u8 0, .int .u8 0, .int .u8 0, .int .u8 0, .int .u8 0, .int .u8 0, .int .u8 0, .int .u8 0, .int .u8 0, .int .u8 0] 23)).heap.size = w.heap.size + 1 := by simp
  rw [es] at R1
  have F1 := Lib.hid (And.intro R0' (And.intro R1 B1))
  have HW1 := Lib.hid hW1
  have zW1 : w.heap.size + 2 ≤ W1.heap.size := by rw [← hW1]; simp
  have PA := Lib.hid (rmessage_any b x cap W1 hb (hsrc.below B1))
  have PM := pad_64 b
  obtain ⟨n, hn⟩ : ∃ n, (padL b).length = n := ⟨_, rfl⟩
  have HN := Lib.hid hn
  have nb : n ≤ 1200 := by rw [← hn, pad_len]; unfold zerosN; omega
  rw [hn] at PA PM
  clear hsrc B0 B1 R0 R1 R0' hW1 es hn
  go_enter Tryd.func26, Tryd.ntmps26
  go_wp2_with (refine wpList_store_new_at rfl _ (.tmp 3) (.tmp 8) rfl _ _ (w.heap.size + 1) (by simp) rfl rfl info8w rfl ?_ ; simp [Value.oneCell'])
  rw [HW1.out]
  refine PA.out.mono ?_
  rintro e w2 ⟨p, cp, rfl, hcp, hp, lp2, R, hb2⟩
  have X0 : Hid (RD w p b 0 w2) := Lib.hid ⟨F1.out.1.call hb2, F1.out.2.1.call hb2, R, lp2, below_then F1.out.2.2 hb2⟩
  have lp : w.heap.size + 1 < p := by omega
  clear F1 HW1 hp R hb2 PA zW1 lp2
  go_wp2_with fail
  go_loopw [5] (fun i wr => ∃ k : Nat, 64 * k ≤ n ∧ i = .int .i64 ((64 * k : Nat) : Int) ∧ Hid (RD w p b k wr)) (fun i _ => n - (intOf i).toNat)
  case atStart => exact ⟨0, by omega, rfl, X0⟩
  case round =>
    obtain ⟨k, hk, rfl, X⟩ := hrel
    clear X0
    obtain ⟨q, hq⟩ : ∃ q, 64 * k = q := ⟨_, rfl⟩
    rw [hq]
    by_cases hlt : q < n
    · have i1 : (q : Int) < (n : Int) := by omega
      have q64 : q + 64 ≤ n := by omega
      have RB := Lib.hid (fun wx (h : RD w p b k wx) => rblock_any (blocksS (padL b) k) (blocks_ok _ k) (((padL b).drop (64 * k)).take 64) (block_len k (by have := HN.out; omega)) p (64 * k) (cp - q) wx (rblock_bytes h.pd k (by have := HN.out; omega)) h.lt (by omega))
      rw [hq] at RB
      have XP := Lib.hid (fun wx (h : RD w p b k wx) S hS => h.put lp S hS)
      rw [hq] at XP
      generalize hB : (((padL b).drop q).take 64) = blk at *
      generalize hST : blocksS (padL b) k = S0 at *
      have st := X.out.st.row
      rw [hST] at st
      have q1 : 0 ≤ (q : Int) := by omega
      have q2 : (q : Int) + 64 ≤ (cp : Int) := by omega
      have q3 : (q : Int) ≤ (q : Int) + 64 := by omega
      have qw : IntKind.i64.wrap ((q : Int) + 64) = (q : Int) + 64 := wrap_small _ (by omega) (by omega)
      obtain ⟨A, B, C, D, E, F, G, H⟩ := S0
      have d0 := X.out.st.cell (w32L_get (j := 0) (x := A) (by rw [hST]; rfl))
      have d1 := X.out.st.cell (w32L_get (j := 1) (x := B) (by rw [hST]; rfl))
      have d2 := X.out.st.cell (w32L_get (j := 2) (x := C) (by rw [hST]; rfl))
      have d3 := X.out.st.cell (w32L_get (j := 3) (x := D) (by rw [hST]; rfl))
      have d4 := X.out.st.cell (w32L_get (j := 4) (x := E) (by rw [hST]; rfl))
      have d5 := X.out.st.cell (w32L_get (j := 5) (x := F) (by rw [hST]; rfl))
      have d6 := X.out.st.cell (w32L_get (j := 6) (x := G) (by rw [hST]; rfl))
      have d7 := X.out.st.cell (w32L_get (j := 7) (x := H) (by rw [hST]; rfl))
      clear st hB hST
      go_wp2_with fail
      go_still_tail 6, (by kernel_rfl)
      change wpList _ _ _ _ _ wr.drew
      have X1 := Lib.hid (X.out.call (Below.refl _ _).drew)
      have BD := RB.out _ X1.out
      clear X RB d0 d1 d2 d3 d4 d5 d6 d7
      go_wp2_with fail
      refine BD.mono ?_
      rintro e w3 ⟨rfl, hb3⟩
      have X2 := X1.out.call hb3
      obtain ⟨S1, hS1⟩ : ∃ S, (St.mk A B C D E F G H).block blk = S := ⟨_, rfl⟩
      have ev : Value.agg (w32L ((St.mk A B C D E F G H).block blk).l).toArray = .agg (w32L S1.l).toArray := by rw [hS1]
      have X3 := Lib.hid (XP.out w3 X2 S1 hS1)
      have tr := X2.st.th
      rw [w32L_len] at tr
      change World.there _ _ _ 8 at tr
      have l8 := w32L_len S1.l
      have one8 := u32one S1.l
      change _ = 8 at l8
      rw [ev]
      generalize w32L S1.l = V at *
      have sV : V.toArray.size = 8 := by rw [List.size_toArray, l8]
      have tr8 : w3.there (w.heap.size + 1) 0 V.toArray.size := by rw [sV]; exact tr
      have in8 : (Tryd.prog.info? 86).map (·.size) = some V.toArray.size := by rw [sV]; exact info8w
      have HL := Lib.hid (And.intro one8 (And.intro tr8 in8))
      clear l8 one8 sV tr8 in8 tr X1 X2 BD XP hb3 ev hS1
      go_wp2_with (refine wpList_store_mid rfl _ (.tmp 3) (.tmp 23) rfl (w.heap.size + 1) 0 V.toArray rfl rfl HL.out.2.1 HL.out.2.2 HL.out.1 ?_)
      go_roundw
      case rel => exact ⟨k + 1, by omega, by rw [← hq]; go_num, X3⟩
      case measure => simp [intOf]; omega
    · obtain ⟨WO, hWO⟩ : ∃ W, W = wr := ⟨_, rfl⟩
      subst hWO
      obtain ⟨S, hS⟩ : ∃ S, blocksS (padL b) k = S := ⟨_, rfl⟩
      have qn : q = n := by omega
      have ED : Hid (digestL b = (List.range 32).map fun i => digB S i) := Lib.hid (by unfold digestL; rw [HN.out, ← hS, show n / 64 = k by omega])
      have bo := (Below.refl WO.heap.size WO).alloc (Nat.le_refl _) (.cells #[.int .u8 0, .int .u8 0, .int .u8 0, .int .u8 0, .int .u8 0, .int .u8 0, .int .u8 0, .int .u8 0, .int .u8 0, .int .u8 0, .int .u8 0, .int .u8 0, .int .u8 0, .int .u8 0, .int .u8 0, .int .u8 0, .int .u8 0, .int .u8 0, .int .u8 0, .int .u8 0, .int .u8 0, .int .u8 0, .int .u8 0, .int .u8 0, .int .u8 0, .int .u8 0, .int .u8 0, .int .u8 0, .int .u8 0, .int .u8 0, .int .u8 0, .int .u8 0] 23)
      have ro : Rw (WO.alloc (.cells #[.int .u8 0, .int .u8 0, .int .u8 0, .int .u8 0, .int .u8 0, .int .u8 0, .int .u8 0, .int .u8 0, .int .u8 0, .int .u8 0, .int .u8 0, .int .u8 0, .int .u8 0, .int .u8 0, .int .u8 0, .int .u8 0, .int .u8 0, .int .u8 0, .int .u8 0, .int .u8 0, .int .u8 0, .int .u8 0, .int .u8 0, .int .u8 0, .int .u8 0, .int .u8 0, .int .u8 0, .int .u8 0, .int .u8 0, .int .u8 0, .int .u8 0, .int .u8 0] 23)) WO.heap.size (outV S 0) := Rw.new WO (List.replicate 32 (.int .u8 0)) 23
      have X1 := X.out
      have st1 := X1.st
      rw [hS] at st1
      have Y0 : Hid (DO w WO.heap.size S 0 (WO.alloc (.cells #[.int .u8 0, .int .u8 0, .int .u8 0, .int .u8 0, .int .u8 0, .int .u8 0, .int .u8 0, .int .u8 0, .int .u8 0, .int .u8 0, .int .u8 0, .int .u8 0, .int .u8 0, .int .u8 0, .int .u8 0, .int .u8 0, .int .u8 0, .int .u8 0, .int .u8 0, .int .u8 0, .int .u8 0, .int .u8 0, .int .u8 0, .int .u8 0, .int .u8 0, .int .u8 0, .int .u8 0, .int .u8 0, .int .u8 0, .int .u8 0, .int .u8 0, .int .u8 0] 23))) := Lib.hid ⟨X1.res.call bo, st1.call bo, ro, below_then X1.below bo⟩
      have lo : w.heap.size + 1 < WO.heap.size := X1.st.lt
      have i1 : ¬ (q : Int) < (n : Int) := by omega
      clear X X1 st1 ro bo hS hq
      go_wp2_with fail
      go_loopw [7] (fun i wi => ∃ j : Nat, j ≤ 32 ∧ i = .int .i64 j ∧ Hid (DO w WO.heap.size S j wi)) (fun i _ => 32 - (intOf i).toNat)
      case atStart => exact ⟨0, Nat.zero_le _, rfl, Y0⟩
      case round =>
        obtain ⟨j, hj, rfl, Y⟩ := hrel
        clear Y0
        by_cases hl32 : j < 32
        · have j1 : (j : Int) < 32 := by omega
          obtain ⟨q3, hq3⟩ : ∃ q, j / 4 = q := ⟨_, rfl⟩
          obtain ⟨s, hs⟩ : ∃ s, 24 - j % 4 * 8 = s := ⟨_, rfl⟩
          have q1 : (j : Int) / 4 = (q3 : Int) := by omega
          have s1 : 24 - 8 * ((j : Int) % 4) = (s : Int) := by omega
          have ql : q3 < 8 := by omega
          have q2 : 0 ≤ (q3 : Int) ∧ (q3 : Int) < 8 := by omega
          have ce := Y.out.st.cell (w32L_get (l := S.l) (j := q3) (x := S.l.getD q3 0) (by rw [List.getD_eq_getElem?_getD, List.getElem?_eq_getElem (show q3 < S.l.length from ql)]; rfl))
          have co := Y.out.ob.cell (outV_get S j j hl32)
          have fo := Y.out.ob.free (j := j) (by rw [outV_len]; exact hl32)
          have dv : S.l.getD q3 0 >>> s % 256 = digB S j := by unfold digB; rw [hq3, hs]
          have Y1 := Lib.hid (Y.out.next hl32 lo)
          rw [← dv] at Y1
          generalize S.l.getD q3 0 = x at *
          have ev : ((x >>> s % 256 : Nat) : Int) = (x : Int) / 2 ^ s % 256 := by rw [Nat.shiftRight_eq_div_pow, Int.natCast_emod, Int.natCast_ediv, Int.natCast_pow]; rfl
          rw [ev] at Y1
          clear ev dv Y hq3 hs
          go_wp2_with fail
          go_roundw
          case rel => exact ⟨j + 1, by omega, by go_num, Y1⟩
          case measure => simp [intOf]; omega
        · obtain rfl : j = 32 := by omega
          have j1 : ¬ (32 : Int) < 32 := by omega
          have ro := Y.out.ob.row
          have tr : wr.there w.heap.size 0 32 := Y.out.res.th
          have Z := Lib.hid (And.intro Y.out.res (below_setCells w.heap.size (Nat.le_refl _) (outV S 32) 0 wr Y.out.below))
          have one : ((outV S 32).toArray).all (·.oneCell') = true := all_oneCell_toArray (fun v hv => by
            obtain ⟨x, _, rfl⟩ := List.mem_map.1 hv
            rfl)
          have os : (outV S 32).toArray.size = 32 := by rw [List.size_toArray, outV_len]
          have EV : Hid (outV S 32 = (digestL b).map fun (x : Nat) => Value.int .u8 (x : Int)) := Lib.hid (by rw [outV_all, ED.out])
          have OL := Lib.hid (outV_len S 32)
          generalize outV S 32 = V at *
          clear Y ED
          go_wp2_with (first | (refine wpList_load_mid rfl _ (.tmp 6) rfl WO.heap.size 0 rfl V _ ro Tryd.underlying23 rfl (by rw [OL.out]; exact info32d) ?_) | (refine wpList_store_mid rfl _ (.tmp 2) (.tmp 40) rfl w.heap.size 0 V.toArray rfl rfl (by rw [os]; exact tr) (by rw [os]; exact info32d) one ?_))
          have eq1 : wr.setCells w.heap.size 0 V.toArray.toList = wr.setCells w.heap.size 0 V := rfl
          rw [eq1]
          have rr := Z.out.1.sets V (by rw [OL.out]; simp)
          exact bodyPost_ret (ret_cell Tryd.results26 _ _ w.heap.size V _ rfl rr.row Tryd.underlying23 rfl (by rw [OL.out]; exact info32d)) rfl ⟨by rw [EV.out], Z.out.2⟩
theorem own_src {w : World} {B : Nat} {v : Value} {l : List UInt8} (h : Own1 5 w B v (by8L l)) : ∃ x cap, v = .slice x l.length cap ∧ SrcB w x l cap := by
  rcases h.form with ⟨e, rfl⟩ | ⟨g, cap, rfl, _, _, lg, hc⟩
  · have : l = [] := by
      have := congrArg List.length e
      rw [by8_len] at this
      exact List.length_eq_zero_iff.1 this
    subst this
    exact ⟨none, 0, rfl, Or.inl ⟨rfl, rfl, rfl⟩⟩
  · rw [by8_len]
    exact ⟨_, cap, rfl, Or.inr ⟨g, 0, rfl, lg, fun j v hv => by rw [Nat.zero_add]; exact hc j v hv⟩⟩
theorem by8_snoc (s : ByteArray) (k : Nat) (h : k < s.size) : by8L (s.data.toList.take (k + 1)) = by8L (s.data.toList.take k) ++ [.int .u8 ((s[k]'h).toNat : Int)] := by
  rw [List.take_succ_eq_append_getElem (by simpa using h), by8_app]
  rfl
set_option maxRecDepth 100000 in
set_option maxHeartbeats 4000000 in
theorem rsum_any (s : ByteArray) (w : World) (hs : s.size ≤ 1000) :
    Calls Tryd.prog 12 #[.string s] w fun e w' => e = .returned (digV (digestL s.data.toList)) ∧ Below w.heap.size w w' := by
  have B0 := (Below.refl w.heap.size w).alloc (Nat.le_refl _) (.cells #[.int .u8 0, .int .u8 0, .int .u8 0, .int .u8 0, .int .u8 0, .int .u8 0, .int .u8 0, .int .u8 0, .int .u8 0, .int .u8 0, .int .u8 0, .int .u8 0, .int .u8 0, .int .u8 0, .int .u8 0, .int .u8 0, .int .u8 0, .int .u8 0, .int .u8 0, .int .u8 0, .int .u8 0, .int .u8 0, .int .u8 0, .int .u8 0, .int .u8 0, .int .u8 0, .int .u8 0, .int .u8 0, .int .u8 0, .int .u8 0, .int .u8 0, .int .u8 0] 23)
  have R0 : Rw (w.alloc (.cells #[.int .u8 0, .int .u8 0, .int .u8 0, .int .u8 0, .int .u8 0, .int .u8 0, .int .u8 0, .int .u8 0, .int .u8 0, .int .u8 0, .int .u8 0, .int .u8 0, .int .u8 0, .int .u8 0, .int .u8 0, .int .u8 0, .int .u8 0, .int .u8 0, .int .u8 0, .int .u8 0, .int .u8 0, .int .u8 0, .int .u8 0, .int .u8 0, .int .u8 0, .int .u8 0, .int .u8 0, .int .u8 0, .int .u8 0, .int .u8 0, .int .u8 0, .int .u8 0] 23)) w.heap.size (List.replicate 32 (.int .u8 0)) := Rw.new w (List.replicate 32 (.int .u8 0)) 23
  have z1 : (w.alloc (.cells #[.int .u8 0, .int .u8 0, .int .u8 0, .int .u8 0, .int .u8 0, .int .u8 0, .int .u8 0, .int .u8 0, .int .u8 0, .int .u8 0, .int .u8 0, .int .u8 0, .int .u8 0, .int .u8 0, .int .u8 0, .int .u8 0, .int .u8 0, .int .u8 0, .int .u8 0, .int .u8 0, .int .u8 0, .int .u8 0, .int .u8 0, .int .u8 0, .int .u8 0, .int .u8 0, .int .u8 0, .int .u8 0, .int .u8 0, .int .u8 0, .int .u8 0, .int .u8 0] 23)).heap.size = w.heap.size + 1 := by simp
  have zl : s.data.toList.length = s.size := rfl
  generalize hw1 : w.alloc (.cells #[.int .u8 0, .int .u8 0, .int .u8 0, .int .u8 0, .int .u8 0, .int .u8 0, .int .u8 0, .int .u8 0, .int .u8 0, .int .u8 0, .int .u8 0, .int .u8 0, .int .u8 0, .int .u8 0, .int .u8 0, .int .u8 0, .int .u8 0, .int .u8 0, .int .u8 0, .int .u8 0, .int .u8 0, .int .u8 0, .int .u8 0, .int .u8 0, .int .u8 0, .int .u8 0, .int .u8 0, .int .u8 0, .int .u8 0, .int .u8 0, .int .u8 0, .int .u8 0] 23) = W1 at *
  have HW := Lib.hid hw1
  have F := Lib.hid (And.intro R0 B0)
  have DG := Lib.hid (fun (b : List UInt8) x cap w' h1 h2 => rdigest_any b x cap w' h1 h2)
  have DL := digest_len s.data.toList
  obtain ⟨D, hD⟩ : ∃ D, digestL s.data.toList = D := ⟨_, rfl⟩
  have HD := Lib.hid hD
  rw [hD] at DL
  clear hw1 R0 B0 hD
  go_enter Tryd.func12, Tryd.ntmps12
  go_wp2_with fail
  rw [HW.out]
  clear HW
  go_loopw [3, 4] (fun v i wr => ∃ k : Nat, k ≤ s.size ∧ i = .int .i64 k ∧ Hid (Own1 5 wr W1.heap.size v (by8L (s.data.toList.take k))) ∧ Hid (Below W1.heap.size W1 wr)) (fun _ i _ => s.size - (intOf i).toNat)
  case atStart => exact ⟨0, Nat.zero_le _, rfl, Lib.hid (Own1.nil _ _ _ (Nat.le_refl _)), Lib.hid (Below.refl _ _)⟩
  case round =>
    obtain ⟨k, hk, rfl, O, B⟩ := hrel
    have zk : (by8L (s.data.toList.take k)).length = k := by rw [by8_len, List.length_take, zl]; omega
    by_cases hlt : k < s.size
    · have i1 : (k : Int) < (s.size : Int) := by omega
      have ik := fun wx => idx_at s k hlt wx
      have SN := Lib.hid (by8_snoc s k hlt)
      generalize ((s[k]'hlt).toNat : Int) = u at *
      generalize by8L (s.data.toList.take k) = L at *
      have ZL := Lib.hid zk
      clear zk DG
      go_wp2_with (at_builtin; refine wp_app1 (bytes := 1) Tryd.underlying58 info8b rfl (by decide) wr rfl (.tmp 11) (.tmp 15) rfl W1.heap.size _ L #[.int .u8 u] 1 1 rfl rfl rfl (by simp [Value.oneCell']) O.out (by rw [ZL.out]; omega) (by decide) ?_; intro v2 w2 hO2 hb2)
      have O4 : Hid (Own1 5 w2 W1.heap.size v2 (by8L (s.data.toList.take (k + 1)))) := Lib.hid (by rw [SN.out]; exact hO2)
      have B4 := Lib.hid (B.out.trans hb2)
      clear hO2 hb2 O B SN
      go_roundw
      case rel => exact ⟨k + 1, by omega, by go_num, O4, B4⟩
      case measure => simp [intOf]; omega
    · obtain rfl : k = s.size := by omega
      have i1 : ¬ (s.size : Int) < (s.size : Int) := by omega
      have O1 := O.out
      rw [List.take_of_length_le (by omega)] at O1
      obtain ⟨x, cap, rfl, hx⟩ := own_src O1
      have DC := DG.out s.data.toList x cap wr (by omega) hx
      rw [HD.out] at DC
      have e0 : digV D = .agg (D.map fun (x : Nat) => Value.int .u8 (x : Int)).toArray := rfl
      rw [e0] at DC
      have one : ((D.map fun (x : Nat) => Value.int .u8 (x : Int)).toArray).all (·.oneCell') = true := all_oneCell_toArray (fun v hv => by
        obtain ⟨x, _, rfl⟩ := List.mem_map.1 hv
        rfl)
      have ls : (D.map fun (x : Nat) => Value.int .u8 (x : Int)).length = 32 := by rw [List.length_map, DL]
      have HV : Hid (digV D = .agg (D.map fun (x : Nat) => Value.int .u8 (x : Int)).toArray) := Lib.hid rfl
      generalize (D.map fun (x : Nat) => Value.int .u8 (x : Int)) = V at *
      have os : V.toArray.size = 32 := by rw [List.size_toArray, ls]
      have OL := Lib.hid ls
      have BB := Lib.hid (And.intro (F.out.1.call B.out) (F.out.2.trans (B.out.mono (by omega))))
      clear DG O O1 hx B ls e0 F
      rw [zl] at DC ⊢
      go_wp2_with fail
      refine DC.mono ?_
      rintro e w2 ⟨rfl, hb⟩
      have tr := (BB.out.1.call hb).th
      have B2 := Lib.hid (below_then BB.out.2 hb)
      clear DC hb
      go_wp2_with (refine wpList_store_mid rfl _ (.tmp 2) (.tmp 18) rfl w.heap.size 0 V.toArray rfl rfl (by rw [os]; exact tr) (by rw [os]; exact info32d) one ?_)
      exact bodyPost_ret (ret_cell Tryd.results12 _ _ w.heap.size V _ rfl (World.rangeAt_setCells_same w2 w.heap.size 0 V (by rw [OL.out]; exact tr)) Tryd.underlying23 rfl (by rw [OL.out]; exact info32d)) rfl ⟨by rw [HD.out, HV.out], below_setCells w.heap.size (Nat.le_refl _) V 0 w2 B2.out⟩
end Arw
end Go.Proofs.YtafeigpmldgifaaDoor
