/-
  Lemmas and walks, texts joined: KRound, KPad, KPadW, KDig, KDigT, KOwn1.
-/
import Derived.Lib.LaidTab
import Derived.Lib.SmallJoins
import Derived.RegionTactic
import Derived.Deep.RegionHeld3
import Derived.Deep.Cut
import Derived.OwnWalk
import Derived.Laws.MakeOwn
import Derived.Test.YtafeigpmldgifaaDoorKt05
import Derived.Test.YtafeigpmldgifaaDoorKt03
set_option linter.unusedSimpArgs false
set_option linter.unusedVariables false
/-
  The walk of round of archive: a block of a digest.
-/
namespace Go.Proofs.YtafeigpmldgifaaDoor
namespace Arw
open Go.RowKit Lw Go.Proofs.YtafeigpmldgifaaDoor.Arp

/-- The numbers of the rounds lie there. -/
def Keys (w : World) : Prop := w.rangeAt 1 0 (w32L keyL) ∧ 1 < w.heap.size
theorem Keys.below {w w' : World} (h : Keys w) (hb : Below w.heap.size w w') : Keys w' := ⟨rangeAt_below h.1 hb h.2, Nat.lt_of_lt_of_le h.2 hb.size⟩
theorem Keys.only {w w' : World} {b : Nat} (h : Keys w) (o : Only b w w') (hb : 1 ≠ b) : Keys w' := by
  refine ⟨fun j v hv => ?_, Nat.lt_of_lt_of_le h.2 o.size⟩
  have := h.1 j v hv
  unfold World.cell? at this ⊢
  rw [o.block _ h.2 hb]
  exact this
theorem Only.set_new {sb c i : Nat} {v : Value} {w w' : World} (h : Only sb w w') (hc : w.heap.size ≤ c) : Only sb w (w'.setCell ⟨c, i, none⟩ v) :=
  ⟨by rw [set_size]; exact h.size, fun k hk hb => ((Only.set c i v w').block k (Nat.lt_of_lt_of_le hk h.size) (by omega)).trans (h.block k hk hb)⟩
theorem Only.alloc {sb : Nat} {w w' : World} (h : Only sb w w') (o : Obj) : Only sb w (w'.alloc o) := h.trans (Only.of ((Below.refl _ _).alloc (Nat.le_refl _) _))
theorem sets_size2 (b : Nat) : ∀ (vs : List Value) (q : Nat) (u : World), (u.setCells b q vs).heap.size = u.heap.size
  | [], _, _ => rfl
  | v :: r, q, u => by rw [World.setCells, sets_size2 b r, set_size]
theorem Rw.sets {w : World} {b : Nat} {vs : List Value} (us : List Value) (h : Rw w b vs) (hl : us.length = vs.length) : Rw (w.setCells b 0 us) b us := by
  refine ⟨World.rangeAt_setCells_same w b 0 us (fun j hj => (h.th j (by omega))), ?_, ?_⟩
  · have := World.there_setCells h.th b 0 us
    rw [hl]; exact this
  · rw [sets_size2]; exact h.lt
theorem Rw.sets_apart {w : World} {b c : Nat} {vs : List Value} (us : List Value) (h : Rw w b vs) (hc : b ≠ c) (o : Nat) : Rw (w.setCells c o us) b vs := by
  induction us generalizing w o with
  | nil => exact h
  | cons v r ih => rw [World.setCells]; exact ih (h.apart hc o v) (o + 1)
theorem only_sets {sb c : Nat} {w : World} (us : List Value) : ∀ {w' : World} (o : Nat), Only sb w w' → w.heap.size ≤ c → Only sb w (w'.setCells c o us) := by
  induction us with
  | nil => intro w' o h _; exact h
  | cons v r ih => intro w' o h hc; rw [World.setCells]; exact ih (o + 1) (h.set_new hc) hc
theorem by8_one (b : List UInt8) : ∀ v ∈ by8L b, v.oneCell' = true := fun v hv => by
  obtain ⟨x, _, rfl⟩ := List.mem_map.1 hv
  rfl
theorem by8_len (b : List UInt8) : (by8L b).length = b.length := by unfold by8L; rw [List.length_map]
/-- What the first loop keeps. -/
structure L1 (w0 : World) (sb bb wb : Nat) (s : St) (b : List UInt8) (l : List Nat) (w : World) : Prop where
  st : Rw w sb (w32L s.l)
  bl : Rw w bb (by8L b)
  ws : Rw w wb (w32L (fillL l 64))
  only : Only sb w0 w
  below : Below sb w0 w
  keys : Keys w
theorem L1.call {w0 w w' : World} {sb bb wb : Nat} {s : St} {b : List UInt8} {l : List Nat} (h : L1 w0 sb bb wb s b l w) (hsb : sb < w0.heap.size) (hb : Below w.heap.size w w') : L1 w0 sb bb wb s b l w' :=
  ⟨h.st.call hb, h.bl.call hb, h.ws.call hb, h.only.trans (Only.of hb), h.below.trans (hb.mono (Nat.le_trans (Nat.le_of_lt hsb) h.only.size)), h.keys.below hb⟩
theorem L1.put {w0 w : World} {sb bb wb : Nat} {s : St} {b : List UInt8} {l l' : List Nat} (h : L1 w0 sb bb wb s b l w) (i : Nat) (v : Value) (hi : i < 64) (hl : l.length ≤ 64) (e : (w32L (fillL l 64)).set i v = w32L (fillL l' 64)) (h0 : sb < w0.heap.size) (h1 : w0.heap.size ≤ bb) (h2 : bb < wb) (hk : Keys w0) : L1 w0 sb bb wb s b l' (w.setCell ⟨wb, i, none⟩ v) := by
  have hlen : i < (w32L (fillL l 64)).length := by rw [w32L_len, fillL_len hl]; exact hi
  have s1 := h.ws.set i v hlen
  rw [e] at s1
  exact ⟨h.st.apart (by omega) i v, h.bl.apart (by omega) i v, s1, h.only.set_new (by omega), h.below.setCell (p := ⟨wb, i, none⟩) (by show sb ≤ wb; omega) v, h.keys.only (Only.set wb i v w) (by have := hk.2; omega)⟩
/-- A word, byte by byte. -/
def partW (b : List UInt8) (i : Nat) : Nat → Nat
  | 0 => 0
  | j + 1 => partW b i j * 256 + (b.getD (4 * i + j) 0).toNat
theorem partW_four (b : List UInt8) (i : Nat) : partW b i 4 = word4 b i := by
  simp only [partW, word4, Nat.add_zero]
  omega
theorem partW_lt (b : List UInt8) (i : Nat) : ∀ j, partW b i j < 256 ^ j
  | 0 => Nat.zero_lt_one
  | j + 1 => by
    have := partW_lt b i j
    have h := byte_lt (b.getD (4 * i + j) 0)
    rw [partW, Nat.pow_succ]
    omega
theorem or_byte (a x : Nat) (ha : a < 16777216) (hx : x < 256) : bits .or .u32 ((a : Int) * 256) (x : Int) = ((a * 256 + x : Nat) : Int) := by
  have e : (a : Int) * 256 = ((a * 256 : Nat) : Int) := by omega
  rw [e, u32_or_nat _ _ (by omega) (by omega), nat_join 8 (a * 256) x (by omega) (by omega)]
theorem fill_last (l : List Nat) (n x y : Nat) (h : l.length < n) : (fillL (l ++ [x]) n).set l.length y = fillL (l ++ [y]) n := by
  rw [← fillL_set x h, ← fillL_set y h, List.set_set]
theorem fill_at (l : List Nat) (n x : Nat) (h : l.length < n) : (fillL (l ++ [x]) n)[l.length]? = some x := by
  rw [← fillL_set x h, List.getElem?_set_self (by rw [fillL_len (Nat.le_of_lt h)]; exact h)]
theorem slice_arr (W : World) (bb q : Nat) (hq : q + 4 ≤ 64) : (Instr.sliceAt 101 (.pointer (some ⟨bb, 0, none⟩)) (some (.int .i64 (q : Int))) (some (.int .i64 ((q : Int) + 4))) none).run Tryd.prog W = .ok (.slice (some ⟨bb, q, none⟩) 4 (64 - q)) W := by
  have hl : Tryd.prog.arrayLen 101 = 64 := by kernel_rfl
  have he : Tryd.prog.elem 101 = 5 := by kernel_rfl
  have h := run_sliceAt_array_lh (P := Tryd.prog) (w := W) 101 ⟨bb, 0, none⟩ (by rw [hl, he]; exact Tryd.underlying101) .i64 .i64 (q : Int) ((q : Int) + 4) (by omega) (by omega) (by rw [hl]; omega)
  have hs : (sizeOf 5).run Tryd.prog W = .ok 1 W := by kernel_rfl
  rw [hl, he, hs] at h
  rw [h]
  have e2 : ((q : Int) + 4).toNat = q + 4 := by omega
  simp only [Result.andThen, slicedAt, Int.toNat_natCast, e2, Nat.mul_one]
  rw [if_neg (by omega), Addr.add_mid, Nat.zero_add, show q + 4 - q = 4 by omega]
/-- The words that the next one is made of. -/
structure C4 (wb i16 i15 i7 i2 a16 a15 a7 a2 : Nat) (w : World) : Prop where
  a : w.cell? ⟨wb, i16, none⟩ = some (.int .u32 (a16 : Int))
  b : w.cell? ⟨wb, i15, none⟩ = some (.int .u32 (a15 : Int))
  c : w.cell? ⟨wb, i7, none⟩ = some (.int .u32 (a7 : Int))
  d : w.cell? ⟨wb, i2, none⟩ = some (.int .u32 (a2 : Int))
theorem cell_lt {w : World} {a : Addr} {v : Value} (h : w.cell? a = some v) : a.block < w.heap.size := by
  unfold World.cell? at h
  split at h
  · rename_i c _ _ hh
    exact (Array.getElem?_eq_some_iff.1 hh).1
  · cases h
theorem cell_call {w w' : World} {a : Addr} {v : Value} (h : w.cell? a = some v) (hb : Below w.heap.size w w') : w'.cell? a = some v := by
  have lt := cell_lt h
  unfold World.cell? at h ⊢
  rw [hb.block _ lt]
  exact h
theorem C4.call {wb i16 i15 i7 i2 a16 a15 a7 a2 : Nat} {w w' : World} (h : C4 wb i16 i15 i7 i2 a16 a15 a7 a2 w) (hb : Below w.heap.size w w') : C4 wb i16 i15 i7 i2 a16 a15 a7 a2 w' := ⟨cell_call h.a hb, cell_call h.b hb, cell_call h.c hb, cell_call h.d hb⟩
theorem cell_set {w : World} {b i k : Nat} {v u : Value} (h : w.cell? ⟨b, i, none⟩ = some v) (hn : i ≠ k) : (w.setCell ⟨b, k, none⟩ u).cell? ⟨b, i, none⟩ = some v := by
  have out := World.cell?_setCells_out b [u] k w ⟨b, i, none⟩ (fun _ _ => by show i < k ∨ k + 1 ≤ i; omega)
  have ew : w.setCells b k [u] = w.setCell ⟨b, k, none⟩ u := rfl
  rw [ew] at out
  rw [out]; exact h
theorem C4.set {wb i16 i15 i7 i2 a16 a15 a7 a2 k : Nat} {w : World} {u : Value} (h : C4 wb i16 i15 i7 i2 a16 a15 a7 a2 w) (n1 : i16 ≠ k) (n2 : i15 ≠ k) (n3 : i7 ≠ k) (n4 : i2 ≠ k) : C4 wb i16 i15 i7 i2 a16 a15 a7 a2 (w.setCell ⟨wb, k, none⟩ u) := ⟨cell_set h.a n1, cell_set h.b n2, cell_set h.c n3, cell_set h.d n4⟩
/-- The state, summed so far. -/
def mixL (s t : St) (i : Nat) : List Nat := (List.range 8).map fun j => if j < i then add32 (s.l.getD j 0) (t.l.getD j 0) else s.l.getD j 0
theorem mix_len (s t : St) (i : Nat) : (mixL s t i).length = 8 := by unfold mixL; rw [List.length_map, List.length_range]
theorem mix_zero (s t : St) : mixL s t 0 = s.l := rfl
theorem mix_eight (s t : St) : mixL s t 8 = (s.sum t).l := rfl
theorem mix_at (s t : St) (i : Nat) (h : i < 8) : (mixL s t i)[i]? = some (s.l.getD i 0) := by
  unfold mixL
  rw [List.getElem?_map, List.getElem?_range h, Option.map_some, if_neg (Nat.lt_irrefl i)]
theorem mix_set (s t : St) (i : Nat) (h : i < 8) : (mixL s t i).set i (add32 (s.l.getD i 0) (t.l.getD i 0)) = mixL s t (i + 1) := by
  apply List.ext_getElem?
  intro j
  by_cases hj : j = i
  · subst hj
    rw [List.getElem?_set_self (by rw [mix_len]; exact h)]
    unfold mixL
    rw [List.getElem?_map, List.getElem?_range h, Option.map_some, if_pos (Nat.lt_succ_self j)]
  · rw [List.getElem?_set_ne (fun e => hj e.symm)]
    unfold mixL
    rw [List.getElem?_map, List.getElem?_map]
    by_cases h8 : j < 8
    · rw [List.getElem?_range h8, Option.map_some, Option.map_some]
      by_cases h1 : j < i
      · rw [if_pos h1, if_pos (by omega)]
      · rw [if_neg h1, if_neg (by omega)]
    · rw [List.getElem?_eq_none (by rw [List.length_range]; omega)]
      rfl
/-- What the last loop keeps. -/
structure L4 (w0 : World) (sb : Nat) (l : List Nat) (w : World) : Prop where
  st : Rw w sb (w32L l)
  only : Only sb w0 w
  below : Below sb w0 w
theorem L4.call {w0 w w' : World} {sb : Nat} {l : List Nat} (h : L4 w0 sb l w) (hsb : sb < w0.heap.size) (hb : Below w.heap.size w w') : L4 w0 sb l w' :=
  ⟨h.st.call hb, h.only.trans (Only.of hb), h.below.trans (hb.mono (Nat.le_trans (Nat.le_of_lt hsb) h.only.size))⟩
theorem L4.put {w0 w : World} {sb : Nat} {l l' : List Nat} (h : L4 w0 sb l w) (i x : Nat) (hi : i < l.length) (e : l.set i x = l') : L4 w0 sb l' (w.setCell ⟨sb, i, none⟩ (.int .u32 (x : Int))) := by
  have s1 := h.st.set i (.int .u32 (x : Int)) (by rw [w32L_len]; exact hi)
  rw [w32L_set, e] at s1
  exact ⟨s1, h.only.trans (Only.set sb i _ w), h.below.setCell (p := ⟨sb, i, none⟩) (Nat.le_refl _) _⟩
/-- A word that the round reads. -/
structure C1 (wb k x : Nat) (w : World) : Prop where
  a : w.cell? ⟨wb, k, none⟩ = some (.int .u32 (x : Int))
theorem C1.call {wb k x : Nat} {w w' : World} (h : C1 wb k x w) (hb : Below w.heap.size w w') : C1 wb k x w' := ⟨cell_call h.a hb⟩
theorem wrap_add (a b : Nat) : IntKind.u32.wrap ((a : Int) + (b : Int)) = ((add32 a b : Nat) : Int) := by
  rw [IntKind.wrap_u32']
  unfold add32
  omega
theorem fill_word (l : List Nat) (k i : Nat) (h : i < l.length) (hk : l.length ≤ 64) {w0 w : World} {sb bb wb : Nat} {s : St} {b : List UInt8} (X : L1 w0 sb bb wb s b l w) : w.cell? ⟨wb, i, none⟩ = some (.int .u32 ((l.getD i 0 : Nat) : Int)) := X.ws.cell (w32L_get (fillL_get h))
theorem getD_lt {l : List Nat} (h : ∀ x ∈ l, x < 4294967296) (i : Nat) : l.getD i 0 < 4294967296 := by
  rw [List.getD_eq_getElem?_getD]
  by_cases hi : i < l.length
  · rw [List.getElem?_eq_getElem hi]; exact h _ (List.getElem_mem hi)
  · rw [List.getElem?_eq_none (by omega)]; decide
theorem info64 : (Tryd.prog.info? 102).map (·.size) = some (w32L keyL).length := by kernel_rfl
set_option maxRecDepth 100000 in
set_option maxHeartbeats 16000000 in
theorem round_any (s : St) (ok : s.Ok) (b : List UInt8) (hb : b.length = 64) (sb g o cap : Nat) (w : World) (hs : Rw w sb (w32L s.l)) (hg : ∀ j v, (by8L b)[j]? = some v → w.cell? ⟨g, o + j, none⟩ = some v) (hk : Keys w) (hgs : g < w.heap.size) (hks : 1 ≠ sb) :
    Calls Tryd.prog 42 #[.pointer (some ⟨sb, 0, none⟩), .slice (some ⟨g, o, none⟩) 64 cap] w fun e w' => e = .returned (.tuple #[]) ∧ Rw w' sb (w32L (s.block b).l) ∧ Only sb w w' ∧ Below sb w w' := by
  have TS := Lib.hid (fun (x a b c : Nat) w' hx a0 a1 b0 b1 c0 c1 => turned_sh x a b c w' hx a0 a1 b0 b1 c0 c1)
  have TN := Lib.hid (fun (x a b c : Nat) w' hx a0 a1 b0 b1 c0 c1 => turned_no x a b c w' hx a0 a1 b0 b1 c0 c1)
  obtain ⟨W2, hW2⟩ : ∃ W, (w.alloc (.cells #[.int .u8 0, .int .u8 0, .int .u8 0, .int .u8 0, .int .u8 0, .int .u8 0, .int .u8 0, .int .u8 0, .int .u8 0, .int .u8 0, .int .u8 0, .int .u8 0, .int .u8 0, .int .u8 0, .int .u8 0, .int .u8 0, .int .u8 0, .int .u8 0, .int .u8 0, .int .u8 0, .int .u8 0, .int .u8 0, .int .u8 0, .int .u8 0, .int .u8 0, .int .u8 0, .int .u8 0, .int .u8 0, .int .u8 0, .int .u8 0, .int .u8 0, .int .u8 0, .int .u8 0, .int .u8 0, .int .u8 0, .int .u8 0, .int .u8 0, .int .u8 0, .int .u8 0, .int .u8 0, .int .u8 0, .int .u8 0, .int .u8 0, .int .u8 0, .int .u8 0, .int .u8 0, .int .u8 0, .int .u8 0, .int .u8 0, .int .u8 0, .int .u8 0, .int .u8 0, .int .u8 0, .int .u8 0, .int .u8 0, .int .u8 0, .int .u8 0, .int .u8 0, .int .u8 0, .int .u8 0, .int .u8 0, .int .u8 0, .int .u8 0, .int .u8 0] 101)).setCells w.heap.size 0 (by8L b) = W := ⟨_, rfl⟩
  have HK := Lib.hid hk
  have hsb := hs.lt
  have len8 : (by8L b).length = 64 := by rw [by8_len, hb]
  have zr : Rw (w.alloc (.cells #[.int .u8 0, .int .u8 0, .int .u8 0, .int .u8 0, .int .u8 0, .int .u8 0, .int .u8 0, .int .u8 0, .int .u8 0, .int .u8 0, .int .u8 0, .int .u8 0, .int .u8 0, .int .u8 0, .int .u8 0, .int .u8 0, .int .u8 0, .int .u8 0, .int .u8 0, .int .u8 0, .int .u8 0, .int .u8 0, .int .u8 0, .int .u8 0, .int .u8 0, .int .u8 0, .int .u8 0, .int .u8 0, .int .u8 0, .int .u8 0, .int .u8 0, .int .u8 0, .int .u8 0, .int .u8 0, .int .u8 0, .int .u8 0, .int .u8 0, .int .u8 0, .int .u8 0, .int .u8 0, .int .u8 0, .int .u8 0, .int .u8 0, .int .u8 0, .int .u8 0, .int .u8 0, .int .u8 0, .int .u8 0, .int .u8 0, .int .u8 0, .int .u8 0, .int .u8 0, .int .u8 0, .int .u8 0, .int .u8 0, .int .u8 0, .int .u8 0, .int .u8 0, .int .u8 0, .int .u8 0, .int .u8 0, .int .u8 0, .int .u8 0, .int .u8 0] 101)) w.heap.size (List.replicate 64 (.int .u8 0)) := Rw.new w (List.replicate 64 (.int .u8 0)) 101
  have cp : (Builtin.copy_ #[58, 58] 3 #[.slice (some ⟨w.heap.size, 0, none⟩) 64 64, .slice (some ⟨g, o, none⟩) 64 cap]).run Tryd.prog (w.alloc (.cells #[.int .u8 0, .int .u8 0, .int .u8 0, .int .u8 0, .int .u8 0, .int .u8 0, .int .u8 0, .int .u8 0, .int .u8 0, .int .u8 0, .int .u8 0, .int .u8 0, .int .u8 0, .int .u8 0, .int .u8 0, .int .u8 0, .int .u8 0, .int .u8 0, .int .u8 0, .int .u8 0, .int .u8 0, .int .u8 0, .int .u8 0, .int .u8 0, .int .u8 0, .int .u8 0, .int .u8 0, .int .u8 0, .int .u8 0, .int .u8 0, .int .u8 0, .int .u8 0, .int .u8 0, .int .u8 0, .int .u8 0, .int .u8 0, .int .u8 0, .int .u8 0, .int .u8 0, .int .u8 0, .int .u8 0, .int .u8 0, .int .u8 0, .int .u8 0, .int .u8 0, .int .u8 0, .int .u8 0, .int .u8 0, .int .u8 0, .int .u8 0, .int .u8 0, .int .u8 0, .int .u8 0, .int .u8 0, .int .u8 0, .int .u8 0, .int .u8 0, .int .u8 0, .int .u8 0, .int .u8 0, .int .u8 0, .int .u8 0, .int .u8 0, .int .u8 0] 101)) = .ok (goInt 64) W2 := by
    rw [← hW2]
    refine run_copy_sl _ _ _ _ 5 w.heap.size 0 64 64 ⟨g, o, none⟩ 64 cap (by8L b) Tryd.underlying58 (by kernel_rfl) (Nat.le_refl _) len8 (fun j v hv => ?_) (by8_one b) (fun j hj => (zr.th j (by simpa using hj)).1) (fun j hj => (zr.th j (by simpa using hj)).2)
    rw [Addr.add_mid, World.cell?_alloc_past _ _ _ hgs]
    exact hg j v hv
  have l2 : L1 w sb w.heap.size W2.heap.size s b [] (W2.alloc (.cells #[.int .u32 0, .int .u32 0, .int .u32 0, .int .u32 0, .int .u32 0, .int .u32 0, .int .u32 0, .int .u32 0, .int .u32 0, .int .u32 0, .int .u32 0, .int .u32 0, .int .u32 0, .int .u32 0, .int .u32 0, .int .u32 0, .int .u32 0, .int .u32 0, .int .u32 0, .int .u32 0, .int .u32 0, .int .u32 0, .int .u32 0, .int .u32 0, .int .u32 0, .int .u32 0, .int .u32 0, .int .u32 0, .int .u32 0, .int .u32 0, .int .u32 0, .int .u32 0, .int .u32 0, .int .u32 0, .int .u32 0, .int .u32 0, .int .u32 0, .int .u32 0, .int .u32 0, .int .u32 0, .int .u32 0, .int .u32 0, .int .u32 0, .int .u32 0, .int .u32 0, .int .u32 0, .int .u32 0, .int .u32 0, .int .u32 0, .int .u32 0, .int .u32 0, .int .u32 0, .int .u32 0, .int .u32 0, .int .u32 0, .int .u32 0, .int .u32 0, .int .u32 0, .int .u32 0, .int .u32 0, .int .u32 0, .int .u32 0, .int .u32 0, .int .u32 0] 102)) := by
    have o1 : Only sb w (w.alloc (.cells #[.int .u8 0, .int .u8 0, .int .u8 0, .int .u8 0, .int .u8 0, .int .u8 0, .int .u8 0, .int .u8 0, .int .u8 0, .int .u8 0, .int .u8 0, .int .u8 0, .int .u8 0, .int .u8 0, .int .u8 0, .int .u8 0, .int .u8 0, .int .u8 0, .int .u8 0, .int .u8 0, .int .u8 0, .int .u8 0, .int .u8 0, .int .u8 0, .int .u8 0, .int .u8 0, .int .u8 0, .int .u8 0, .int .u8 0, .int .u8 0, .int .u8 0, .int .u8 0, .int .u8 0, .int .u8 0, .int .u8 0, .int .u8 0, .int .u8 0, .int .u8 0, .int .u8 0, .int .u8 0, .int .u8 0, .int .u8 0, .int .u8 0, .int .u8 0, .int .u8 0, .int .u8 0, .int .u8 0, .int .u8 0, .int .u8 0, .int .u8 0, .int .u8 0, .int .u8 0, .int .u8 0, .int .u8 0, .int .u8 0, .int .u8 0, .int .u8 0, .int .u8 0, .int .u8 0, .int .u8 0, .int .u8 0, .int .u8 0, .int .u8 0, .int .u8 0] 101)) := (Only.refl sb w).alloc _
    have o2 : Only sb w W2 := by rw [← hW2]; exact only_sets _ 0 o1 (Nat.le_refl _)
    have o3 := o2.alloc (.cells #[.int .u32 0, .int .u32 0, .int .u32 0, .int .u32 0, .int .u32 0, .int .u32 0, .int .u32 0, .int .u32 0, .int .u32 0, .int .u32 0, .int .u32 0, .int .u32 0, .int .u32 0, .int .u32 0, .int .u32 0, .int .u32 0, .int .u32 0, .int .u32 0, .int .u32 0, .int .u32 0, .int .u32 0, .int .u32 0, .int .u32 0, .int .u32 0, .int .u32 0, .int .u32 0, .int .u32 0, .int .u32 0, .int .u32 0, .int .u32 0, .int .u32 0, .int .u32 0, .int .u32 0, .int .u32 0, .int .u32 0, .int .u32 0, .int .u32 0, .int .u32 0, .int .u32 0, .int .u32 0, .int .u32 0, .int .u32 0, .int .u32 0, .int .u32 0, .int .u32 0, .int .u32 0, .int .u32 0, .int .u32 0, .int .u32 0, .int .u32 0, .int .u32 0, .int .u32 0, .int .u32 0, .int .u32 0, .int .u32 0, .int .u32 0, .int .u32 0, .int .u32 0, .int .u32 0, .int .u32 0, .int .u32 0, .int .u32 0, .int .u32 0, .int .u32 0] 102)
    have b1 : Below sb w (w.alloc (.cells #[.int .u8 0, .int .u8 0, .int .u8 0, .int .u8 0, .int .u8 0, .int .u8 0, .int .u8 0, .int .u8 0, .int .u8 0, .int .u8 0, .int .u8 0, .int .u8 0, .int .u8 0, .int .u8 0, .int .u8 0, .int .u8 0, .int .u8 0, .int .u8 0, .int .u8 0, .int .u8 0, .int .u8 0, .int .u8 0, .int .u8 0, .int .u8 0, .int .u8 0, .int .u8 0, .int .u8 0, .int .u8 0, .int .u8 0, .int .u8 0, .int .u8 0, .int .u8 0, .int .u8 0, .int .u8 0, .int .u8 0, .int .u8 0, .int .u8 0, .int .u8 0, .int .u8 0, .int .u8 0, .int .u8 0, .int .u8 0, .int .u8 0, .int .u8 0, .int .u8 0, .int .u8 0, .int .u8 0, .int .u8 0, .int .u8 0, .int .u8 0, .int .u8 0, .int .u8 0, .int .u8 0, .int .u8 0, .int .u8 0, .int .u8 0, .int .u8 0, .int .u8 0, .int .u8 0, .int .u8 0, .int .u8 0, .int .u8 0, .int .u8 0, .int .u8 0] 101)) := (Below.refl _ _).alloc (Nat.le_of_lt hsb) _
    have b2 : Below sb w W2 := by rw [← hW2]; exact below_setCells w.heap.size (Nat.le_of_lt hsb) _ _ _ b1
    have b3 := b2.alloc (Nat.le_trans (Nat.le_of_lt hsb) o2.size) (.cells #[.int .u32 0, .int .u32 0, .int .u32 0, .int .u32 0, .int .u32 0, .int .u32 0, .int .u32 0, .int .u32 0, .int .u32 0, .int .u32 0, .int .u32 0, .int .u32 0, .int .u32 0, .int .u32 0, .int .u32 0, .int .u32 0, .int .u32 0, .int .u32 0, .int .u32 0, .int .u32 0, .int .u32 0, .int .u32 0, .int .u32 0, .int .u32 0, .int .u32 0, .int .u32 0, .int .u32 0, .int .u32 0, .int .u32 0, .int .u32 0, .int .u32 0, .int .u32 0, .int .u32 0, .int .u32 0, .int .u32 0, .int .u32 0, .int .u32 0, .int .u32 0, .int .u32 0, .int .u32 0, .int .u32 0, .int .u32 0, .int .u32 0, .int .u32 0, .int .u32 0, .int .u32 0, .int .u32 0, .int .u32 0, .int .u32 0, .int .u32 0, .int .u32 0, .int .u32 0, .int .u32 0, .int .u32 0, .int .u32 0, .int .u32 0, .int .u32 0, .int .u32 0, .int .u32 0, .int .u32 0, .int .u32 0, .int .u32 0, .int .u32 0, .int .u32 0] 102)
    have r1 : Rw W2 w.heap.size (by8L b) := by rw [← hW2]; exact zr.sets (by8L b) (by rw [len8]; rfl)
    have bl := (Below.refl W2.heap.size W2).alloc (Nat.le_refl _) (.cells #[.int .u32 0, .int .u32 0, .int .u32 0, .int .u32 0, .int .u32 0, .int .u32 0, .int .u32 0, .int .u32 0, .int .u32 0, .int .u32 0, .int .u32 0, .int .u32 0, .int .u32 0, .int .u32 0, .int .u32 0, .int .u32 0, .int .u32 0, .int .u32 0, .int .u32 0, .int .u32 0, .int .u32 0, .int .u32 0, .int .u32 0, .int .u32 0, .int .u32 0, .int .u32 0, .int .u32 0, .int .u32 0, .int .u32 0, .int .u32 0, .int .u32 0, .int .u32 0, .int .u32 0, .int .u32 0, .int .u32 0, .int .u32 0, .int .u32 0, .int .u32 0, .int .u32 0, .int .u32 0, .int .u32 0, .int .u32 0, .int .u32 0, .int .u32 0, .int .u32 0, .int .u32 0, .int .u32 0, .int .u32 0, .int .u32 0, .int .u32 0, .int .u32 0, .int .u32 0, .int .u32 0, .int .u32 0, .int .u32 0, .int .u32 0, .int .u32 0, .int .u32 0, .int .u32 0, .int .u32 0, .int .u32 0, .int .u32 0, .int .u32 0, .int .u32 0] 102)
    have s2 : Rw W2 sb (w32L s.l) := by rw [← hW2]; exact (hs.call ((Below.refl _ _).alloc (Nat.le_refl _) _)).sets_apart _ (Nat.ne_of_lt hsb) 0
    exact ⟨s2.call bl, r1.call bl, Rw.new W2 (w32L (fillL [] 64)) 102, o3, b3, hk.only o3 hks⟩
  have X0 := Lib.hid l2
  have lw2 : w.heap.size < W2.heap.size := by rw [← hW2, sets_size2]; simp
  have HB := Lib.hid hb
  clear hs hg hk hgs zr l2 len8 hW2 hb
  go_enter Tryd.func42, Tryd.ntmps42
  go_wp2_with fail
  go_loopw [26] (fun i wr => ∃ k : Nat, k ≤ 64 ∧ i = .int .i64 k ∧ Hid (L1 w sb w.heap.size W2.heap.size s b (schedL b k) wr)) (fun i _ => 64 - (intOf i).toNat)
  case atStart => exact ⟨0, Nat.zero_le _, rfl, X0⟩
  case round =>
    obtain ⟨k, hk, rfl, X⟩ := hrel
    clear X0 cp
    by_cases hlt : k < 64
    · have i1 : (k : Int) < 64 := by omega
      have lk := schedL_len b k
      by_cases h16 : k < 16
      · have i2 : (k : Int) < 16 := by omega
        have w4 : IntKind.i64.wrap (4 * (k : Int)) = ((4 * k : Nat) : Int) := by rw [wrap_small _ (by omega) (by omega)]; rfl
        have w44 : IntKind.i64.wrap (((4 * k : Nat) : Int) + 4) = ((4 * k + 4 : Nat) : Int) := by rw [wrap_small _ (by omega) (by omega)]; rfl
        have ST : Hid (schedL b k ++ [word4 b k] = schedL b (k + 1)) := Lib.hid (by rw [schedL, nextW, if_pos h16])
        have X1 : Hid (L1 w sb w.heap.size W2.heap.size s b (schedL b k ++ [partW b k 0]) wr) := Lib.hid (by
          have e : fillL (schedL b k ++ [partW b k 0]) 64 = fillL (schedL b k) 64 := by
            have := fillL_set (l := schedL b k) (n := 64) 0 (by rw [lk]; exact hlt)
            show fillL (schedL b k ++ [0]) 64 = _
            rw [← this]
            apply List.ext_getElem?
            intro j
            by_cases hj : j = (schedL b k).length
            · subst hj
              rw [List.getElem?_set_self (by rw [fillL_len (by omega)]; omega), fillL_zero (Nat.le_refl _) (by omega)]
            · rw [List.getElem?_set_ne (fun h => hj h.symm)]
          have h := X.out
          exact ⟨h.st, h.bl, by rw [e]; exact h.ws, h.only, h.below, h.keys⟩)
        clear X
        obtain ⟨q, hq⟩ : ∃ q, 4 * k = q := ⟨_, rfl⟩
        have HQ := Lib.hid hq
        have SL := slice_arr wr w.heap.size q (by omega)
        rw [hq] at w4 w44
        clear hq
        go_wp2_with fail
        go_loopw [38] (fun j wi => ∃ i : Nat, i ≤ 4 ∧ j = .int .i64 i ∧ Hid (L1 w sb w.heap.size W2.heap.size s b (schedL b k ++ [partW b k i]) wi)) (fun j _ => 4 - (intOf j).toNat)
        case atStart => exact ⟨0, Nat.zero_le _, rfl, X1⟩
        case round =>
          obtain ⟨i, hi, rfl, XI⟩ := hrel
          clear X1 SL
          by_cases hli : i < 4
          · have i3 : (i : Int) < 4 := by omega
            have pl := partW_lt b k i
            have pb : partW b k i < 16777216 := Nat.lt_of_lt_of_le pl (Nat.le_trans (Nat.pow_le_pow_right (by decide) (show i ≤ 3 by omega)) (by decide))
            have xb := byte_lt (b.getD (4 * k + i) 0)
            have eP : partW b k (i + 1) = partW b k i * 256 + (b.getD (4 * k + i) 0).toNat := rfl
            have q8 : wr.cell? ⟨w.heap.size, q + i, none⟩ = some (.int .u8 ((b.getD (4 * k + i) 0).toNat : Int)) := by
              rw [← HQ.out]
              exact XI.out.bl.cell (by8L_get (by rw [HB.out]; omega))
            have qk : wr.cell? ⟨W2.heap.size, k, none⟩ = some (.int .u32 (partW b k i : Int)) := by
              have := fill_at (schedL b k) 64 (partW b k i) (by rw [lk]; exact hlt)
              rw [lk] at this
              exact XI.out.ws.cell (w32L_get this)
            have fk : wr.frozen? ⟨W2.heap.size, k, none⟩ = false := XI.out.ws.free (by rw [w32L_len, fillL_len (by rw [List.length_append, lk]; show k + 1 ≤ 64; omega)]; exact hlt)
            have X2 : Hid (L1 w sb w.heap.size W2.heap.size s b (schedL b k ++ [partW b k (i + 1)]) (wr.setCell ⟨W2.heap.size, k, none⟩ (.int .u32 ((partW b k i * 256 + (b.getD (4 * k + i) 0).toNat : Nat) : Int)))) := Lib.hid (XI.out.put k _ hlt (by rw [List.length_append, lk]; show k + 1 ≤ 64; omega) (by
              rw [w32L_set]
              have := fill_last (schedL b k) 64 (partW b k i) (partW b k (i + 1)) (by rw [lk]; exact hlt)
              rw [lk] at this
              rw [← eP, this]) hsb (Nat.le_refl _) lw2 HK.out)
            have OB := or_byte (partW b k i) (b.getD (4 * k + i) 0).toNat pb xb
            clear XI eP pl
            generalize (b.getD (4 * k + i) 0).toNat = x at *
            generalize partW b k i = P at *
            obtain ⟨V, hV⟩ : ∃ V, P * 256 + x = V := ⟨_, rfl⟩
            rw [hV] at OB X2
            clear hV
            go_wp2_with fail
            go_roundw
            case rel => exact ⟨i + 1, by omega, by go_num, X2⟩
            case measure => simp [intOf]; omega
          · obtain rfl : i = 4 := by omega
            have i3 : ¬ (4 : Int) < 4 := by omega
            have X3 := XI.out
            rw [partW_four, ST.out] at X3
            have X4 := Lib.hid X3
            clear X3 XI
            go_wp2_with fail
            go_roundw
            case rel => exact ⟨k + 1, by omega, by go_num, X4⟩
            case measure => simp [intOf]; omega
      · have i2 : ¬ (k : Int) < 16 := by omega
        have NX : Hid (nextW b (schedL b k) k = add32 (add32 (add32 ((schedL b k).getD (k - 16) 0) (sm0 ((schedL b k).getD (k - 15) 0))) ((schedL b k).getD (k - 7) 0)) (sm1 ((schedL b k).getD (k - 2) 0))) := Lib.hid (by unfold nextW; rw [if_neg h16])
        have ST : Hid (schedL b k ++ [nextW b (schedL b k) k] = schedL b (k + 1)) := Lib.hid rfl
        have XQ := X.out
        have b15 := getD_lt (sched_lt b k) (k - 15)
        have b2 := getD_lt (sched_lt b k) (k - 2)
        have c16 := fill_word (schedL b k) k (k - 16) (by omega) (by omega) XQ
        have c15 := fill_word (schedL b k) k (k - 15) (by omega) (by omega) XQ
        have c7 := fill_word (schedL b k) k (k - 7) (by omega) (by omega) XQ
        have c2 := fill_word (schedL b k) k (k - 2) (by omega) (by omega) XQ
        obtain ⟨i16, e16⟩ : ∃ i, k - 16 = i := ⟨_, rfl⟩
        obtain ⟨i15, e15⟩ : ∃ i, k - 15 = i := ⟨_, rfl⟩
        obtain ⟨i7, e7⟩ : ∃ i, k - 7 = i := ⟨_, rfl⟩
        obtain ⟨i2', e2⟩ : ∃ i, k - 2 = i := ⟨_, rfl⟩
        rw [e16] at NX c16
        rw [e15] at NX c15 b15
        rw [e7] at NX c7
        rw [e2] at NX c2 b2
        have u16 : IntKind.i64.wrap ((k : Int) - 16) = (i16 : Int) := by rw [wrap_small _ (by omega) (by omega)]; omega
        have u15 : IntKind.i64.wrap ((k : Int) - 15) = (i15 : Int) := by rw [wrap_small _ (by omega) (by omega)]; omega
        have u7 : IntKind.i64.wrap ((k : Int) - 7) = (i7 : Int) := by rw [wrap_small _ (by omega) (by omega)]; omega
        have u2 : IntKind.i64.wrap ((k : Int) - 2) = (i2' : Int) := by rw [wrap_small _ (by omega) (by omega)]; omega
        have v16 : (k : Int) - 16 = (i16 : Int) := by omega
        have v15 : (k : Int) - 15 = (i15 : Int) := by omega
        have v7 : (k : Int) - 7 = (i7 : Int) := by omega
        have v2 : (k : Int) - 2 = (i2' : Int) := by omega
        have g16 : (i16 : Int) < 64 := by omega
        have g15 : (i15 : Int) < 64 := by omega
        have g7 : (i7 : Int) < 64 := by omega
        have g2 : (i2' : Int) < 64 := by omega
        have x16 : IntKind.i64.wrap (i16 : Int) = (i16 : Int) := wrap_small _ (by omega) (by omega)
        have x15 : IntKind.i64.wrap (i15 : Int) = (i15 : Int) := wrap_small _ (by omega) (by omega)
        have x7 : IntKind.i64.wrap (i7 : Int) = (i7 : Int) := wrap_small _ (by omega) (by omega)
        have x2 : IntKind.i64.wrap (i2' : Int) = (i2' : Int) := wrap_small _ (by omega) (by omega)
        have h16' : 0 ≤ (i16 : Int) ∧ (i16 : Int) < 64 := by omega
        have h15' : 0 ≤ (i15 : Int) ∧ (i15 : Int) < 64 := by omega
        have h7' : 0 ≤ (i7 : Int) ∧ (i7 : Int) < 64 := by omega
        have h2' : 0 ≤ (i2' : Int) ∧ (i2' : Int) < 64 := by omega
        have hk' : 0 ≤ (k : Int) ∧ (k : Int) < 64 := by omega
        have n16 : i16 ≠ k := by omega
        have n15 : i15 ≠ k := by omega
        have n7 : i7 ≠ k := by omega
        have n2 : i2' ≠ k := by omega
        clear e16 e15 e7 e2
        generalize (schedL b k).getD i16 0 = a16 at *
        generalize (schedL b k).getD i15 0 = a15 at *
        generalize (schedL b k).getD i7 0 = a7 at *
        generalize (schedL b k).getD i2' 0 = a2 at *
        have T1 := Lib.hid (fun w' => TS.out a15 7 18 3 w' b15 (by omega) (by omega) (by omega) (by omega) (by omega) (by omega))
        have T2 := Lib.hid (fun w' => TS.out a2 17 19 10 w' b2 (by omega) (by omega) (by omega) (by omega) (by omega) (by omega))
        have s1 := wrap_add a16 (sm0 a15)
        have s2 := wrap_add (add32 a16 (sm0 a15)) a7
        have s3 := wrap_add (add32 (add32 a16 (sm0 a15)) a7) (sm1 a2)
        change Hid (∀ w', Calls _ _ _ w' fun e w'' => e = .returned (.int .u32 ((sm0 a15 : Nat) : Int)) ∧ _) at T1
        change Hid (∀ w', Calls _ _ _ w' fun e w'' => e = .returned (.int .u32 ((sm1 a2 : Nat) : Int)) ∧ _) at T2
        generalize sm0 a15 = t1 at *
        generalize sm1 a2 = t2 at *
        generalize add32 a16 t1 = r1 at *
        generalize add32 r1 a7 = r2 at *
        generalize add32 r2 t2 = r3 at *
        rw [NX.out] at ST
        have HC := Lib.hid (show C4 W2.heap.size i16 i15 i7 i2' a16 a15 a7 a2 wr from ⟨c16, c15, c7, c2⟩)
        clear c16 c15 c7 c2 XQ NX b15 b2
        go_wp2_with fail
        refine wp_region_held_drew (S := C4 W2.heap.size i16 i15 i7 i2' a16 a15 a7 a2) (by kernel_rfl) (HC.out.call (Below.refl _ _).drew) (fun hHeld => ?_)
        have XK := Lib.hid (X.out.call hsb (Below.refl _ _).drew)
        clear X HC
        refine wpAnyH_take (i := 0) (oi := ?oi0x1) (v := ?v0x1) ?hi0x1 (by kernel_rfl) (by kernel_rfl) (by kernel_rfl) ?hq0x1 ?hy0x1 hHeld ?rest0x1
        case hi0x1 => ((try simp only [List.getElem?_toArray, List.getElem?_cons_succ, List.getElem?_cons_zero]); (try rfl))
        case hq0x1 => exact fun _ _ _ h => h
        case hy0x1 => exact Or.inl ⟨by rfl, by intro w hSw; clear hSw; go_simp; try with_reducible rfl⟩
        try simp only [Act.put, List.setIfInBounds_toArray, List.set_cons_zero, List.set_cons_succ]
        refine wpAnyH_take (i := 1) (oi := ?oi1x2) (v := ?v1x2) ?hi1x2 (by kernel_rfl) (by kernel_rfl) (by kernel_rfl) ?hq1x2 ?hy1x2 hHeld ?rest1x2
        case hi1x2 => ((try simp only [List.getElem?_toArray, List.getElem?_cons_succ, List.getElem?_cons_zero]); (try rfl))
        case hq1x2 => exact fun _ _ _ h => h
        case hy1x2 => exact Or.inl ⟨by rfl, by intro w hSw; clear hSw; go_simp; try with_reducible rfl⟩
        try simp only [Act.put, List.setIfInBounds_toArray, List.set_cons_zero, List.set_cons_succ]
        refine wpAnyH_take (i := 2) (oi := ?oi2x3) (v := ?v2x3) ?hi2x3 (by kernel_rfl) (by kernel_rfl) (by kernel_rfl) ?hq2x3 ?hy2x3 hHeld ?rest2x3
        case hi2x3 => ((try simp only [List.getElem?_toArray, List.getElem?_cons_succ, List.getElem?_cons_zero]); (try rfl))
        case hq2x3 => exact fun _ _ _ h => h
        case hy2x3 => exact Or.inl ⟨by rfl, by intro w hSw; clear hSw; go_simp; try with_reducible rfl⟩
        try simp only [Act.put, List.setIfInBounds_toArray, List.set_cons_zero, List.set_cons_succ]
        refine wpAnyH_take (i := 3) (oi := ?oi3x4) (v := ?v3x4) ?hi3x4 (by kernel_rfl) (by kernel_rfl) (by kernel_rfl) ?hq3x4 ?hy3x4 hHeld ?rest3x4
        case hi3x4 => ((try simp only [List.getElem?_toArray, List.getElem?_cons_succ, List.getElem?_cons_zero]); (try rfl))
        case hq3x4 => exact fun _ _ _ h => h
        case hy3x4 => exact Or.inl ⟨by rfl, by intro w hSw; clear hSw; go_simp; try with_reducible rfl⟩
        try simp only [Act.put, List.setIfInBounds_toArray, List.set_cons_zero, List.set_cons_succ]
        refine wpAnyH_take (i := 4) (oi := ?oi4x5) (v := ?v4x5) ?hi4x5 (by kernel_rfl) (by kernel_rfl) (by kernel_rfl) ?hq4x5 ?hy4x5 hHeld ?rest4x5
        case hi4x5 => ((try simp only [List.getElem?_toArray, List.getElem?_cons_succ, List.getElem?_cons_zero]); (try rfl))
        case hq4x5 => exact fun _ _ _ h => h
        case hy4x5 => exact Or.inl ⟨by rfl, by intro w hSw; have c16 := hSw.a; have c15 := hSw.b; have c7 := hSw.c; have c2 := hSw.d; clear hSw; go_simp; try with_reducible rfl⟩
        try simp only [Act.put, List.setIfInBounds_toArray, List.set_cons_zero, List.set_cons_succ]
        refine wpAnyH_take (i := 5) (oi := ?oi5x6) (v := ?v5x6) ?hi5x6 (by kernel_rfl) (by kernel_rfl) (by kernel_rfl) ?hq5x6 ?hy5x6 hHeld ?rest5x6
        case hi5x6 => ((try simp only [List.getElem?_toArray, List.getElem?_cons_succ, List.getElem?_cons_zero]); (try rfl))
        case hq5x6 => exact fun _ _ _ h => h
        case hy5x6 => exact Or.inl ⟨by rfl, by intro w hSw; clear hSw; go_simp; try with_reducible rfl⟩
        try simp only [Act.put, List.setIfInBounds_toArray, List.set_cons_zero, List.set_cons_succ]
        refine wpAnyH_take (i := 6) (oi := ?oi6x7) (v := ?v6x7) ?hi6x7 (by kernel_rfl) (by kernel_rfl) (by kernel_rfl) ?hq6x7 ?hy6x7 hHeld ?rest6x7
        case hi6x7 => ((try simp only [List.getElem?_toArray, List.getElem?_cons_succ, List.getElem?_cons_zero]); (try rfl))
        case hq6x7 => exact fun _ _ _ h => h
        case hy6x7 => exact Or.inl ⟨by rfl, by intro w hSw; clear hSw; go_simp; try with_reducible rfl⟩
        try simp only [Act.put, List.setIfInBounds_toArray, List.set_cons_zero, List.set_cons_succ]
        refine wpAnyH_take (i := 7) (oi := ?oi7x8) (v := ?v7x8) ?hi7x8 (by kernel_rfl) (by kernel_rfl) (by kernel_rfl) ?hq7x8 ?hy7x8 hHeld ?rest7x8
        case hi7x8 => ((try simp only [List.getElem?_toArray, List.getElem?_cons_succ, List.getElem?_cons_zero]); (try rfl))
        case hq7x8 => exact fun _ _ _ h => h
        case hy7x8 => exact Or.inl ⟨by rfl, by intro w hSw; clear hSw; go_simp; try with_reducible rfl⟩
        try simp only [Act.put, List.setIfInBounds_toArray, List.set_cons_zero, List.set_cons_succ]
        refine wpAnyH_take (i := 8) (oi := ?oi8x9) (v := ?v8x9) ?hi8x9 (by kernel_rfl) (by kernel_rfl) (by kernel_rfl) ?hq8x9 ?hy8x9 hHeld ?rest8x9
        case hi8x9 => ((try simp only [List.getElem?_toArray, List.getElem?_cons_succ, List.getElem?_cons_zero]); (try rfl))
        case hq8x9 => exact fun _ _ _ h => h
        case hy8x9 => exact Or.inl ⟨by rfl, by intro w hSw; have c16 := hSw.a; have c15 := hSw.b; have c7 := hSw.c; have c2 := hSw.d; clear hSw; go_simp; try with_reducible rfl⟩
        try simp only [Act.put, List.setIfInBounds_toArray, List.set_cons_zero, List.set_cons_succ]
        refine wpAnyH_take (i := 11) (oi := ?oi11x10) (v := ?v11x10) ?hi11x10 (by kernel_rfl) (by kernel_rfl) (by kernel_rfl) ?hq11x10 ?hy11x10 hHeld ?rest11x10
        case hi11x10 => ((try simp only [List.getElem?_toArray, List.getElem?_cons_succ, List.getElem?_cons_zero]); (try rfl))
        case hq11x10 => exact fun _ _ _ h => h
        case hy11x10 => exact Or.inl ⟨by rfl, by intro w hSw; clear hSw; go_simp; try with_reducible rfl⟩
        try simp only [Act.put, List.setIfInBounds_toArray, List.set_cons_zero, List.set_cons_succ]
        refine wpAnyH_take (i := 12) (oi := ?oi12x11) (v := ?v12x11) ?hi12x11 (by kernel_rfl) (by kernel_rfl) (by kernel_rfl) ?hq12x11 ?hy12x11 hHeld ?rest12x11
        case hi12x11 => ((try simp only [List.getElem?_toArray, List.getElem?_cons_succ, List.getElem?_cons_zero]); (try rfl))
        case hq12x11 => exact fun _ _ _ h => h
        case hy12x11 => exact Or.inl ⟨by rfl, by intro w hSw; clear hSw; go_simp; try with_reducible rfl⟩
        try simp only [Act.put, List.setIfInBounds_toArray, List.set_cons_zero, List.set_cons_succ]
        refine wpAnyH_take (i := 13) (oi := ?oi13x12) (v := ?v13x12) ?hi13x12 (by kernel_rfl) (by kernel_rfl) (by kernel_rfl) ?hq13x12 ?hy13x12 hHeld ?rest13x12
        case hi13x12 => ((try simp only [List.getElem?_toArray, List.getElem?_cons_succ, List.getElem?_cons_zero]); (try rfl))
        case hq13x12 => exact fun _ _ _ h => h
        case hy13x12 => exact Or.inl ⟨by rfl, by intro w hSw; clear hSw; go_simp; try with_reducible rfl⟩
        try simp only [Act.put, List.setIfInBounds_toArray, List.set_cons_zero, List.set_cons_succ]
        refine wpAnyH_take (i := 14) (oi := ?oi14x13) (v := ?v14x13) ?hi14x13 (by kernel_rfl) (by kernel_rfl) (by kernel_rfl) ?hq14x13 ?hy14x13 hHeld ?rest14x13
        case hi14x13 => ((try simp only [List.getElem?_toArray, List.getElem?_cons_succ, List.getElem?_cons_zero]); (try rfl))
        case hq14x13 => exact fun _ _ _ h => h
        case hy14x13 => exact Or.inl ⟨by rfl, by intro w hSw; have c16 := hSw.a; have c15 := hSw.b; have c7 := hSw.c; have c2 := hSw.d; clear hSw; go_simp; try with_reducible rfl⟩
        try simp only [Act.put, List.setIfInBounds_toArray, List.set_cons_zero, List.set_cons_succ]
        refine wpAnyH_take (i := 16) (oi := ?oi16x14) (v := ?v16x14) ?hi16x14 (by kernel_rfl) (by kernel_rfl) (by kernel_rfl) ?hq16x14 ?hy16x14 hHeld ?rest16x14
        case hi16x14 => ((try simp only [List.getElem?_toArray, List.getElem?_cons_succ, List.getElem?_cons_zero]); (try rfl))
        case hq16x14 => exact fun _ _ _ h => h
        case hy16x14 => exact Or.inl ⟨by rfl, by intro w hSw; clear hSw; go_simp; try with_reducible rfl⟩
        try simp only [Act.put, List.setIfInBounds_toArray, List.set_cons_zero, List.set_cons_succ]
        refine wpAnyH_take (i := 17) (oi := ?oi17x15) (v := ?v17x15) ?hi17x15 (by kernel_rfl) (by kernel_rfl) (by kernel_rfl) ?hq17x15 ?hy17x15 hHeld ?rest17x15
        case hi17x15 => ((try simp only [List.getElem?_toArray, List.getElem?_cons_succ, List.getElem?_cons_zero]); (try rfl))
        case hq17x15 => exact fun _ _ _ h => h
        case hy17x15 => exact Or.inl ⟨by rfl, by intro w hSw; clear hSw; go_simp; try with_reducible rfl⟩
        try simp only [Act.put, List.setIfInBounds_toArray, List.set_cons_zero, List.set_cons_succ]
        refine wpAnyH_take (i := 18) (oi := ?oi18x16) (v := ?v18x16) ?hi18x16 (by kernel_rfl) (by kernel_rfl) (by kernel_rfl) ?hq18x16 ?hy18x16 hHeld ?rest18x16
        case hi18x16 => ((try simp only [List.getElem?_toArray, List.getElem?_cons_succ, List.getElem?_cons_zero]); (try rfl))
        case hq18x16 => exact fun _ _ _ h => h
        case hy18x16 => exact Or.inl ⟨by rfl, by intro w hSw; clear hSw; go_simp; try with_reducible rfl⟩
        try simp only [Act.put, List.setIfInBounds_toArray, List.set_cons_zero, List.set_cons_succ]
        refine wpAnyH_take (i := 19) (oi := ?oi19x17) (v := ?v19x17) ?hi19x17 (by kernel_rfl) (by kernel_rfl) (by kernel_rfl) ?hq19x17 ?hy19x17 hHeld ?rest19x17
        case hi19x17 => ((try simp only [List.getElem?_toArray, List.getElem?_cons_succ, List.getElem?_cons_zero]); (try rfl))
        case hq19x17 => exact fun _ _ _ h => h
        case hy19x17 => exact Or.inl ⟨by rfl, by intro w hSw; have c16 := hSw.a; have c15 := hSw.b; have c7 := hSw.c; have c2 := hSw.d; clear hSw; go_simp; try with_reducible rfl⟩
        try simp only [Act.put, List.setIfInBounds_toArray, List.set_cons_zero, List.set_cons_succ]
        refine wpAnyH_ready (rs := [9]) (by kernel_rfl) (by simp) ?_
        refine AllReadyH.cons rfl (fun K' hK => ?_) AllReadyH.nil
        have H1 := Lib.hid hHeld
        clear hHeld
        go_simp
        refine (T1.out _).mono ?_
        rintro e wk ⟨rfl, hb⟩
        replace H1 := Lib.hid (H1.out.call hb)
        replace XK := Lib.hid (XK.out.call hsb hb)
        refine hK.out _ _ H1.out (fun hHeld => ?_)
        clear hK H1 hb
        try simp only [Act.put, List.setIfInBounds_toArray, List.set_cons_zero, List.set_cons_succ]
        refine wpAnyH_take (i := 10) (oi := ?oi10x18) (v := ?v10x18) ?hi10x18 (by kernel_rfl) (by kernel_rfl) (by kernel_rfl) ?hq10x18 ?hy10x18 hHeld ?rest10x18
        case hi10x18 => ((try simp only [List.getElem?_toArray, List.getElem?_cons_succ, List.getElem?_cons_zero]); (try rfl))
        case hq10x18 => exact fun _ _ _ h => h
        case hy10x18 => exact Or.inl ⟨by rfl, by intro w hSw; clear hSw; go_simp; try with_reducible rfl⟩
        try simp only [Act.put, List.setIfInBounds_toArray, List.set_cons_zero, List.set_cons_succ]
        refine wpAnyH_take (i := 15) (oi := ?oi15x19) (v := ?v15x19) ?hi15x19 (by kernel_rfl) (by kernel_rfl) (by kernel_rfl) ?hq15x19 ?hy15x19 hHeld ?rest15x19
        case hi15x19 => ((try simp only [List.getElem?_toArray, List.getElem?_cons_succ, List.getElem?_cons_zero]); (try rfl))
        case hq15x19 => exact fun _ _ _ h => h
        case hy15x19 => exact Or.inl ⟨by rfl, by intro w hSw; clear hSw; go_simp; try with_reducible rfl⟩
        try simp only [Act.put, List.setIfInBounds_toArray, List.set_cons_zero, List.set_cons_succ]
        refine wpAnyH_ready (rs := [20]) (by kernel_rfl) (by simp) ?_
        refine AllReadyH.cons rfl (fun K' hK => ?_) AllReadyH.nil
        have H1 := Lib.hid hHeld
        clear hHeld
        go_simp
        refine (T2.out _).mono ?_
        rintro e wk ⟨rfl, hb⟩
        replace H1 := Lib.hid (H1.out.call hb)
        replace XK := Lib.hid (XK.out.call hsb hb)
        refine hK.out _ _ H1.out (fun hHeld => ?_)
        clear hK H1 hb
        try simp only [Act.put, List.setIfInBounds_toArray, List.set_cons_zero, List.set_cons_succ]
        refine wpAnyH_take (i := 21) (oi := ?oi21x20) (v := ?v21x20) ?hi21x20 (by kernel_rfl) (by kernel_rfl) (by kernel_rfl) ?hq21x20 ?hy21x20 hHeld ?rest21x20
        case hi21x20 => ((try simp only [List.getElem?_toArray, List.getElem?_cons_succ, List.getElem?_cons_zero]); (try rfl))
        case hq21x20 => exact fun _ _ _ h => h
        case hy21x20 => exact Or.inl ⟨by rfl, by intro w hSw; clear hSw; go_simp; try with_reducible rfl⟩
        try simp only [Act.put, List.setIfInBounds_toArray, List.set_cons_zero, List.set_cons_succ]
        refine wpAnyH_take (i := 22) (oi := ?oi22x21) (v := ?v22x21) ?hi22x21 (by kernel_rfl) (by kernel_rfl) (by kernel_rfl) ?hq22x21 ?hy22x21 hHeld ?rest22x21
        case hi22x21 => ((try simp only [List.getElem?_toArray, List.getElem?_cons_succ, List.getElem?_cons_zero]); (try rfl))
        case hq22x21 => exact fun _ _ _ h => h
        case hy22x21 => exact Or.inl ⟨by rfl, by intro w hSw; clear hSw; go_simp; try with_reducible rfl⟩
        try simp only [Act.put, List.setIfInBounds_toArray, List.set_cons_zero, List.set_cons_succ]
        refine wpAnyH_ready (rs := [23]) (by kernel_rfl) (by simp) ?_
        refine AllReadyH.cons rfl (fun K' hK => ?_) AllReadyH.nil
        have H1 := Lib.hid hHeld
        clear hHeld
        have qk := XK.out.ws.cell (w32L_get (fillL_zero (l := schedL b k) (n := 64) (j := k) (by omega) hlt))
        have fk := XK.out.ws.free (j := k) (by rw [w32L_len, fillL_len (by omega)]; exact hlt)
        have XL := XK.out.put (l' := schedL b k ++ [r3]) k (.int .u32 (r3 : Int)) hlt (by omega) (by have := fillL_set (l := schedL b k) (n := 64) r3 (by omega); rw [lk] at this; rw [w32L_set, this]) hsb (Nat.le_refl _) lw2 HK.out
        go_simp
        refine hK.out _ _ (H1.out.set n16 n15 n7 n2) (fun hHeld => ?_)
        clear hK H1 qk fk XK
        try simp only [Act.put, List.setIfInBounds_toArray, List.set_cons_zero, List.set_cons_succ]
        refine wpAnyH_done (by kernel_rfl) ?_ _
        clear hHeld
        rw [ST.out] at XL
        have X4 := Lib.hid XL
        clear XL T1 T2
        go_wp2_with fail
        go_roundw
        case rel => exact ⟨k + 1, by omega, by go_num, X4⟩
        case measure => simp [intOf]; omega
    · obtain rfl : k = 64 := by omega
      have i1 : ¬ (64 : Int) < 64 := by omega
      have XK := X
      clear X TS
      have d0 := XK.out.st.cell (w32L_get (l := s.l) (j := 0) rfl)
      have d1 := XK.out.st.cell (w32L_get (l := s.l) (j := 1) rfl)
      have d2 := XK.out.st.cell (w32L_get (l := s.l) (j := 2) rfl)
      have d3 := XK.out.st.cell (w32L_get (l := s.l) (j := 3) rfl)
      have d4 := XK.out.st.cell (w32L_get (l := s.l) (j := 4) rfl)
      have d5 := XK.out.st.cell (w32L_get (l := s.l) (j := 5) rfl)
      have d6 := XK.out.st.cell (w32L_get (l := s.l) (j := 6) rfl)
      have d7 := XK.out.st.cell (w32L_get (l := s.l) (j := 7) rfl)
      go_wp2_with fail
      go_quiet (fail)
      have XQ := Lib.hid (XK.out.call hsb (drewN_below2 (Below.refl _ _) nq))
      obtain ⟨wq, hwq⟩ : ∃ wq, wr.drewN nq = wq := ⟨_, rfl⟩
      rw [hwq] at XQ ⊢
      clear hwq XK d0 d1 d2 d3 d4 d5 d6 d7
      obtain ⟨ws, hws⟩ : ∃ ws, schedL b 64 = ws := ⟨_, rfl⟩
      have HW := Lib.hid hws
      rw [hws] at XQ
      have wl : ws.length = 64 := by rw [← hws]; exact schedL_len b 64
      have wlt := Lib.hid (show ∀ x ∈ ws, x < 4294967296 by rw [← hws]; exact sched_lt b 64)
      clear hws
      go_wp2_with (refine wpList_load_mid rfl _ (.global 1) rfl 1 0 rfl (w32L keyL) _ XQ.out.keys.1 Tryd.underlying102 rfl info64 ?_)
      go_loopw [109, 9, 10, 11, 12, 13, 14, 15, 16] (fun i a1 a2 a3 a4 a5 a6 a7 a8 wi => ∃ (k : Nat) (T : St), k ≤ 64 ∧ i = .int .i64 k ∧ a1 = .int .u32 (T.a : Int) ∧ a2 = .int .u32 (T.b : Int) ∧ a3 = .int .u32 (T.c : Int) ∧ a4 = .int .u32 (T.d : Int) ∧ a5 = .int .u32 (T.e : Int) ∧ a6 = .int .u32 (T.f : Int) ∧ a7 = .int .u32 (T.g : Int) ∧ a8 = .int .u32 (T.h : Int) ∧ Hid (T = St.run ws s k) ∧ Hid (L1 w sb w.heap.size W2.heap.size s b ws wi)) (fun i _ _ _ _ _ _ _ _ _ => 64 - (intOf i).toNat)
      case atStart => exact ⟨0, s, Nat.zero_le _, rfl, rfl, rfl, rfl, rfl, rfl, rfl, rfl, rfl, Lib.hid rfl, XQ⟩
      case round =>
        obtain ⟨k, T, hk, rfl, rfl, rfl, rfl, rfl, rfl, rfl, rfl, rfl, HT, XR⟩ := hrel
        clear XQ
        have OT : T.Ok := by rw [HT.out]; exact ok.run ws k
        by_cases hlt : k < 64
        · have j1 : (k : Int) < 64 := by omega
          have ix := fun W => idx_key W k hlt
          obtain ⟨A, B, C, D, E, F, G, H⟩ := T
          have lA : A < 4294967296 := OT.a
          have lB : B < 4294967296 := OT.b
          have lC : C < 4294967296 := OT.c
          have lE : E < 4294967296 := OT.e
          have lF : F < 4294967296 := OT.f
          have lG : G < 4294967296 := OT.g
          have NXT := Lib.hid (show St.next ⟨A, B, C, D, E, F, G, H⟩ (keyL.getD k 0) (ws.getD k 0) = St.run ws s (k + 1) by rw [St.run, ← HT.out])
          have e1 := u32_and_nat E F lE lF
          have e2 := u32_andNot_nat G E lG lE
          have e3 := u32_xor_nat (E &&& F) (G &&& (4294967295 - E)) (and_lt lE) (and_lt lG)
          change _ = ((chs E F G : Nat) : Int) at e3
          have f1 := u32_and_nat A B lA lB
          have f2 := u32_and_nat A C lA lC
          have f3 := u32_and_nat B C lB lC
          have f4 := u32_xor_nat (A &&& B) (A &&& C) (and_lt lA) (and_lt lA)
          have f5 := u32_xor_nat ((A &&& B) ^^^ (A &&& C)) (B &&& C) (xor_lt (and_lt lA) (and_lt lA)) (and_lt lB)
          change _ = ((major A B C : Nat) : Int) at f5
          have TE := Lib.hid (fun w' => TN.out E 6 11 25 w' lE (by omega) (by omega) (by omega) (by omega) (by omega) (by omega))
          have TA := Lib.hid (fun w' => TN.out A 2 13 22 w' lA (by omega) (by omega) (by omega) (by omega) (by omega) (by omega))
          change Hid (∀ w', Calls _ _ _ w' fun e w'' => e = .returned (.int .u32 ((bg1 E : Nat) : Int)) ∧ _) at TE
          change Hid (∀ w', Calls _ _ _ w' fun e w'' => e = .returned (.int .u32 ((bg0 A : Nat) : Int)) ∧ _) at TA
          have m1 := wrap_add H (bg1 E)
          have m2 := wrap_add (add32 H (bg1 E)) (chs E F G)
          have m3 := wrap_add (add32 (add32 H (bg1 E)) (chs E F G)) (keyL.getD k 0)
          have m4 := wrap_add (add32 (add32 (add32 H (bg1 E)) (chs E F G)) (keyL.getD k 0)) (ws.getD k 0)
          have y1 := wrap_add (bg0 A) (major A B C)
          have z1 := wrap_add D (add32 (add32 (add32 (add32 H (bg1 E)) (chs E F G)) (keyL.getD k 0)) (ws.getD k 0))
          have z2 := wrap_add (add32 (add32 (add32 (add32 H (bg1 E)) (chs E F G)) (keyL.getD k 0)) (ws.getD k 0)) (add32 (bg0 A) (major A B C))
          have cw := XR.out.ws.cell (w32L_get (fillL_get (l := ws) (n := 64) (j := k) (by omega)))
          have NX2 : Hid (St.run ws s (k + 1) = ⟨add32 (add32 (add32 (add32 (add32 H (bg1 E)) (chs E F G)) (keyL.getD k 0)) (ws.getD k 0)) (add32 (bg0 A) (major A B C)), A, B, C, add32 D (add32 (add32 (add32 (add32 H (bg1 E)) (chs E F G)) (keyL.getD k 0)) (ws.getD k 0)), E, F, G⟩) := Lib.hid NXT.out.symm
          clear NXT OT HT TN lA lB lC lE lF lG
          generalize keyL.getD k 0 = ky at *
          generalize ws.getD k 0 = wk0 at *
          generalize bg1 E = q1 at *
          generalize bg0 A = q0 at *
          generalize chs E F G = q2 at *
          generalize major A B C = q3 at *
          generalize (A &&& B) ^^^ (A &&& C) = q4 at *
          generalize E &&& F = q5 at *
          generalize G &&& (4294967295 - E) = q6 at *
          generalize A &&& B = q7 at *
          generalize A &&& C = q8 at *
          generalize B &&& C = q9 at *
          generalize add32 q0 q3 = yy at *
          generalize add32 H q1 = r1 at *
          generalize add32 r1 q2 = r2 at *
          generalize add32 r2 ky = r3 at *
          generalize add32 r3 wk0 = xx at *
          generalize add32 D xx = dd at *
          generalize add32 xx yy = aa at *
          have HC := Lib.hid (show C1 W2.heap.size k wk0 wr from ⟨cw⟩)
          have kb : 0 ≤ (k : Int) ∧ (k : Int) < 64 := by omega
          have kw : IntKind.i64.wrap (k : Int) = (k : Int) := wrap_small _ (by omega) (by omega)
          clear cw
          go_wp2_with fail
          refine wp_region_held_drew (S := C1 W2.heap.size k wk0) (by kernel_rfl) (HC.out.call (Below.refl _ _).drew) (fun hHeld => ?_)
          have XK := Lib.hid (XR.out.call hsb (Below.refl _ _).drew)
          clear XR HC
          refine wpAnyH_take (i := 0) (oi := ?oi0x22) (v := ?v0x22) ?hi0x22 (by kernel_rfl) (by kernel_rfl) (by kernel_rfl) ?hq0x22 ?hy0x22 hHeld ?rest0x22
          case hi0x22 => ((try simp only [List.getElem?_toArray, List.getElem?_cons_succ, List.getElem?_cons_zero]); (try rfl))
          case hq0x22 => exact fun _ _ _ h => h
          case hy0x22 => exact Or.inl ⟨by rfl, by intro w hSw; clear hSw; go_simp; try with_reducible rfl⟩
          try simp only [Act.put, List.setIfInBounds_toArray, List.set_cons_zero, List.set_cons_succ]
          refine wpAnyH_take (i := 1) (oi := ?oi1x23) (v := ?v1x23) ?hi1x23 (by kernel_rfl) (by kernel_rfl) (by kernel_rfl) ?hq1x23 ?hy1x23 hHeld ?rest1x23
          case hi1x23 => ((try simp only [List.getElem?_toArray, List.getElem?_cons_succ, List.getElem?_cons_zero]); (try rfl))
          case hq1x23 => exact fun _ _ _ h => h
          case hy1x23 => exact Or.inl ⟨by rfl, by intro w hSw; clear hSw; go_simp; try with_reducible rfl⟩
          try simp only [Act.put, List.setIfInBounds_toArray, List.set_cons_zero, List.set_cons_succ]
          refine wpAnyH_take (i := 4) (oi := ?oi4x24) (v := ?v4x24) ?hi4x24 (by kernel_rfl) (by kernel_rfl) (by kernel_rfl) ?hq4x24 ?hy4x24 hHeld ?rest4x24
          case hi4x24 => ((try simp only [List.getElem?_toArray, List.getElem?_cons_succ, List.getElem?_cons_zero]); (try rfl))
          case hq4x24 => exact fun _ _ _ h => h
          case hy4x24 => exact Or.inl ⟨by rfl, by intro w hSw; clear hSw; go_simp; try with_reducible rfl⟩
          try simp only [Act.put, List.setIfInBounds_toArray, List.set_cons_zero, List.set_cons_succ]
          refine wpAnyH_take (i := 5) (oi := ?oi5x25) (v := ?v5x25) ?hi5x25 (by kernel_rfl) (by kernel_rfl) (by kernel_rfl) ?hq5x25 ?hy5x25 hHeld ?rest5x25
          case hi5x25 => ((try simp only [List.getElem?_toArray, List.getElem?_cons_succ, List.getElem?_cons_zero]); (try rfl))
          case hq5x25 => exact fun _ _ _ h => h
          case hy5x25 => exact Or.inl ⟨by rfl, by intro w hSw; clear hSw; go_simp; try with_reducible rfl⟩
          try simp only [Act.put, List.setIfInBounds_toArray, List.set_cons_zero, List.set_cons_succ]
          refine wpAnyH_take (i := 6) (oi := ?oi6x26) (v := ?v6x26) ?hi6x26 (by kernel_rfl) (by kernel_rfl) (by kernel_rfl) ?hq6x26 ?hy6x26 hHeld ?rest6x26
          case hi6x26 => ((try simp only [List.getElem?_toArray, List.getElem?_cons_succ, List.getElem?_cons_zero]); (try rfl))
          case hq6x26 => exact fun _ _ _ h => h
          case hy6x26 => exact Or.inl ⟨by rfl, by intro w hSw; clear hSw; go_simp; try with_reducible rfl⟩
          try simp only [Act.put, List.setIfInBounds_toArray, List.set_cons_zero, List.set_cons_succ]
          refine wpAnyH_take (i := 7) (oi := ?oi7x27) (v := ?v7x27) ?hi7x27 (by kernel_rfl) (by kernel_rfl) (by kernel_rfl) ?hq7x27 ?hy7x27 hHeld ?rest7x27
          case hi7x27 => ((try simp only [List.getElem?_toArray, List.getElem?_cons_succ, List.getElem?_cons_zero]); (try rfl))
          case hq7x27 => exact fun _ _ _ h => h
          case hy7x27 => exact Or.inl ⟨by rfl, by intro w hSw; clear hSw; go_simp; try with_reducible rfl⟩
          try simp only [Act.put, List.setIfInBounds_toArray, List.set_cons_zero, List.set_cons_succ]
          refine wpAnyH_take (i := 8) (oi := ?oi8x28) (v := ?v8x28) ?hi8x28 (by kernel_rfl) (by kernel_rfl) (by kernel_rfl) ?hq8x28 ?hy8x28 hHeld ?rest8x28
          case hi8x28 => ((try simp only [List.getElem?_toArray, List.getElem?_cons_succ, List.getElem?_cons_zero]); (try rfl))
          case hq8x28 => exact fun _ _ _ h => h
          case hy8x28 => exact Or.inl ⟨by rfl, by intro w hSw; clear hSw; go_simp; try with_reducible rfl⟩
          try simp only [Act.put, List.setIfInBounds_toArray, List.set_cons_zero, List.set_cons_succ]
          refine wpAnyH_take (i := 9) (oi := ?oi9x29) (v := ?v9x29) ?hi9x29 (by kernel_rfl) (by kernel_rfl) (by kernel_rfl) ?hq9x29 ?hy9x29 hHeld ?rest9x29
          case hi9x29 => ((try simp only [List.getElem?_toArray, List.getElem?_cons_succ, List.getElem?_cons_zero]); (try rfl))
          case hq9x29 => exact fun _ _ _ h => h
          case hy9x29 => exact Or.inl ⟨by rfl, by intro w hSw; clear hSw; go_simp; try with_reducible rfl⟩
          try simp only [Act.put, List.setIfInBounds_toArray, List.set_cons_zero, List.set_cons_succ]
          refine wpAnyH_take (i := 10) (oi := ?oi10x30) (v := ?v10x30) ?hi10x30 (by kernel_rfl) (by kernel_rfl) (by kernel_rfl) ?hq10x30 ?hy10x30 hHeld ?rest10x30
          case hi10x30 => ((try simp only [List.getElem?_toArray, List.getElem?_cons_succ, List.getElem?_cons_zero]); (try rfl))
          case hq10x30 => exact fun _ _ _ h => h
          case hy10x30 => exact Or.inl ⟨by rfl, by intro w hSw; clear hSw; go_simp; try with_reducible rfl⟩
          try simp only [Act.put, List.setIfInBounds_toArray, List.set_cons_zero, List.set_cons_succ]
          refine wpAnyH_take (i := 12) (oi := ?oi12x31) (v := ?v12x31) ?hi12x31 (by kernel_rfl) (by kernel_rfl) (by kernel_rfl) ?hq12x31 ?hy12x31 hHeld ?rest12x31
          case hi12x31 => ((try simp only [List.getElem?_toArray, List.getElem?_cons_succ, List.getElem?_cons_zero]); (try rfl))
          case hq12x31 => exact fun _ _ _ h => h
          case hy12x31 => exact Or.inl ⟨by rfl, by intro w hSw; clear hSw; go_simp; try with_reducible rfl⟩
          try simp only [Act.put, List.setIfInBounds_toArray, List.set_cons_zero, List.set_cons_succ]
          refine wpAnyH_take (i := 14) (oi := ?oi14x32) (v := ?v14x32) ?hi14x32 (by kernel_rfl) (by kernel_rfl) (by kernel_rfl) ?hq14x32 ?hy14x32 hHeld ?rest14x32
          case hi14x32 => ((try simp only [List.getElem?_toArray, List.getElem?_cons_succ, List.getElem?_cons_zero]); (try rfl))
          case hq14x32 => exact fun _ _ _ h => h
          case hy14x32 => exact Or.inl ⟨by rfl, by intro w hSw; clear hSw; go_simp; try with_reducible rfl⟩
          try simp only [Act.put, List.setIfInBounds_toArray, List.set_cons_zero, List.set_cons_succ]
          refine wpAnyH_take (i := 15) (oi := ?oi15x33) (v := ?v15x33) ?hi15x33 (by kernel_rfl) (by kernel_rfl) (by kernel_rfl) ?hq15x33 ?hy15x33 hHeld ?rest15x33
          case hi15x33 => ((try simp only [List.getElem?_toArray, List.getElem?_cons_succ, List.getElem?_cons_zero]); (try rfl))
          case hq15x33 => exact fun _ _ _ h => h
          case hy15x33 => exact Or.inl ⟨by rfl, by intro w hSw; clear hSw; go_simp; try with_reducible rfl⟩
          try simp only [Act.put, List.setIfInBounds_toArray, List.set_cons_zero, List.set_cons_succ]
          refine wpAnyH_take (i := 16) (oi := ?oi16x34) (v := ?v16x34) ?hi16x34 (by kernel_rfl) (by kernel_rfl) (by kernel_rfl) ?hq16x34 ?hy16x34 hHeld ?rest16x34
          case hi16x34 => ((try simp only [List.getElem?_toArray, List.getElem?_cons_succ, List.getElem?_cons_zero]); (try rfl))
          case hq16x34 => exact fun _ _ _ h => h
          case hy16x34 => exact Or.inl ⟨by rfl, by intro w hSw; have cw := hSw.a; clear hSw; go_simp; try with_reducible rfl⟩
          try simp only [Act.put, List.setIfInBounds_toArray, List.set_cons_zero, List.set_cons_succ]
          refine wpAnyH_ready (rs := [2]) (by kernel_rfl) (by simp) ?_
          refine AllReadyH.cons rfl (fun K' hK => ?_) AllReadyH.nil
          have H1 := Lib.hid hHeld
          clear hHeld
          go_simp
          refine (TE.out _).mono ?_
          rintro e wk ⟨rfl, hb⟩
          replace H1 := Lib.hid (H1.out.call hb)
          replace XK := Lib.hid (XK.out.call hsb hb)
          refine hK.out _ _ H1.out (fun hHeld => ?_)
          clear hK H1 hb
          try simp only [Act.put, List.setIfInBounds_toArray, List.set_cons_zero, List.set_cons_succ]
          refine wpAnyH_take (i := 3) (oi := ?oi3x35) (v := ?v3x35) ?hi3x35 (by kernel_rfl) (by kernel_rfl) (by kernel_rfl) ?hq3x35 ?hy3x35 hHeld ?rest3x35
          case hi3x35 => ((try simp only [List.getElem?_toArray, List.getElem?_cons_succ, List.getElem?_cons_zero]); (try rfl))
          case hq3x35 => exact fun _ _ _ h => h
          case hy3x35 => exact Or.inl ⟨by rfl, by intro w hSw; clear hSw; go_simp; try with_reducible rfl⟩
          try simp only [Act.put, List.setIfInBounds_toArray, List.set_cons_zero, List.set_cons_succ]
          refine wpAnyH_take (i := 11) (oi := ?oi11x36) (v := ?v11x36) ?hi11x36 (by kernel_rfl) (by kernel_rfl) (by kernel_rfl) ?hq11x36 ?hy11x36 hHeld ?rest11x36
          case hi11x36 => ((try simp only [List.getElem?_toArray, List.getElem?_cons_succ, List.getElem?_cons_zero]); (try rfl))
          case hq11x36 => exact fun _ _ _ h => h
          case hy11x36 => exact Or.inl ⟨by rfl, by intro w hSw; clear hSw; go_simp; try with_reducible rfl⟩
          try simp only [Act.put, List.setIfInBounds_toArray, List.set_cons_zero, List.set_cons_succ]
          refine wpAnyH_take (i := 13) (oi := ?oi13x37) (v := ?v13x37) ?hi13x37 (by kernel_rfl) (by kernel_rfl) (by kernel_rfl) ?hq13x37 ?hy13x37 hHeld ?rest13x37
          case hi13x37 => ((try simp only [List.getElem?_toArray, List.getElem?_cons_succ, List.getElem?_cons_zero]); (try rfl))
          case hq13x37 => exact fun _ _ _ h => h
          case hy13x37 => exact Or.inl ⟨by rfl, by intro w hSw; clear hSw; go_simp; try with_reducible rfl⟩
          try simp only [Act.put, List.setIfInBounds_toArray, List.set_cons_zero, List.set_cons_succ]
          refine wpAnyH_take (i := 17) (oi := ?oi17x38) (v := ?v17x38) ?hi17x38 (by kernel_rfl) (by kernel_rfl) (by kernel_rfl) ?hq17x38 ?hy17x38 hHeld ?rest17x38
          case hi17x38 => ((try simp only [List.getElem?_toArray, List.getElem?_cons_succ, List.getElem?_cons_zero]); (try rfl))
          case hq17x38 => exact fun _ _ _ h => h
          case hy17x38 => exact Or.inl ⟨by rfl, by intro w hSw; clear hSw; go_simp; try with_reducible rfl⟩
          try simp only [Act.put, List.setIfInBounds_toArray, List.set_cons_zero, List.set_cons_succ]
          refine wpAnyH_take (i := 18) (oi := ?oi18x39) (v := ?v18x39) ?hi18x39 (by kernel_rfl) (by kernel_rfl) (by kernel_rfl) ?hq18x39 ?hy18x39 hHeld ?rest18x39
          case hi18x39 => ((try simp only [List.getElem?_toArray, List.getElem?_cons_succ, List.getElem?_cons_zero]); (try rfl))
          case hq18x39 => exact fun _ _ _ h => h
          case hy18x39 => exact Or.inl ⟨by rfl, by intro w hSw; clear hSw; go_simp; try with_reducible rfl⟩
          try simp only [Act.put, List.setIfInBounds_toArray, List.set_cons_zero, List.set_cons_succ]
          refine wpAnyH_done (by kernel_rfl) ?_ _
          clear hHeld TE kb kw
          go_wp2_with fail
          refine (TA.out _).mono ?_
          rintro e wy ⟨rfl, hb⟩
          have XY := Lib.hid (XK.out.call hsb hb)
          clear hb XK TA
          go_wp2_with fail
          go_roundw
          case rel => exact ⟨k + 1, ⟨aa, A, B, C, dd, E, F, G⟩, by omega, by go_num, rfl, rfl, rfl, rfl, rfl, rfl, rfl, rfl, Lib.hid NX2.out.symm, XY⟩
          case measure => simp [intOf]; omega
        · obtain rfl : k = 64 := by omega
          have j1 : ¬ (64 : Int) < 64 := by omega
          have X4 := Lib.hid (show L4 w sb (mixL s T 0) wr from ⟨by rw [mix_zero]; exact XR.out.st, XR.out.only, XR.out.below⟩)
          have FT : Hid (s.block b = s.sum T) := Lib.hid (by unfold St.block; rw [HW.out, ← HT.out])
          clear XR TN HT OT
          have ix : ∀ (W : World) (i : Nat) (_ : i < 8), (Instr.index 86 (.agg #[.int .u32 (T.a : Int), .int .u32 (T.b : Int), .int .u32 (T.c : Int), .int .u32 (T.d : Int), .int .u32 (T.e : Int), .int .u32 (T.f : Int), .int .u32 (T.g : Int), .int .u32 (T.h : Int)]) (.int .i64 (i : Int))).run Tryd.prog W = .ok (.int .u32 ((T.l.getD i 0 : Nat) : Int)) W := fun W i hi => idx_eight W T.l i rfl hi
          have IX := Lib.hid ix
          clear ix
          go_wp2_with fail
          go_loopw [167] (fun i wi => ∃ k : Nat, k ≤ 8 ∧ i = .int .i64 k ∧ Hid (L4 w sb (mixL s T k) wi)) (fun i _ => 8 - (intOf i).toNat)
          case atStart => exact ⟨0, Nat.zero_le _, rfl, X4⟩
          case round =>
            obtain ⟨k, hk, rfl, X⟩ := hrel
            clear X4
            by_cases hl8 : k < 8
            · have j2 : (k : Int) < 8 := by omega
              have ix := fun W => IX.out W k hl8
              have cw := X.out.st.cell (w32L_get (mix_at s T k hl8))
              have HC := Lib.hid (show C1 sb k (s.l.getD k 0) wr from ⟨cw⟩)
              have a1 := wrap_add (s.l.getD k 0) (T.l.getD k 0)
              have MS := Lib.hid (mix_set s T k hl8)
              have kb : 0 ≤ (k : Int) ∧ (k : Int) < 8 := by omega
              have kw : IntKind.i64.wrap (k : Int) = (k : Int) := wrap_small _ (by omega) (by omega)
              generalize s.l.getD k 0 = sk at *
              generalize T.l.getD k 0 = tk at *
              generalize add32 sk tk = uk at *
              clear HC
              go_wp2_with fail
              have XK := Lib.hid (X.out.call hsb (Below.refl _ _).drew)
              have cq : (wr.drew).cell? ⟨sb, k, none⟩ = some (.int .u32 (sk : Int)) := cw
              have fk : (wr.drew).frozen? ⟨sb, k, none⟩ = false := XK.out.st.free (by rw [w32L_len, mix_len]; exact hl8)
              have fw : wr.frozen? ⟨sb, k, none⟩ = false := X.out.st.free (by rw [w32L_len, mix_len]; exact hl8)
              have XL := Lib.hid (XK.out.put k uk (by rw [mix_len]; exact hl8) MS.out)
              clear X XK
              refine wp_region_held_drew (S := fun _ => True) (by kernel_rfl) trivial (fun hHeld => ?_)
              refine wpAnyH_take (i := 0) (oi := ?oi0x40) (v := ?v0x40) ?hi0x40 (by kernel_rfl) (by kernel_rfl) (by kernel_rfl) ?hq0x40 ?hy0x40 hHeld ?rest0x40
              case hi0x40 => ((try simp only [List.getElem?_toArray, List.getElem?_cons_succ, List.getElem?_cons_zero]); (try rfl))
              case hq0x40 => exact fun _ _ _ h => h
              case hy0x40 => exact Or.inl ⟨by rfl, by intro w hSw; clear hSw; go_simp; try with_reducible rfl⟩
              try simp only [Act.put, List.setIfInBounds_toArray, List.set_cons_zero, List.set_cons_succ]
              refine wpAnyH_take (i := 1) (oi := ?oi1x41) (v := ?v1x41) ?hi1x41 (by kernel_rfl) (by kernel_rfl) (by kernel_rfl) ?hq1x41 ?hy1x41 hHeld ?rest1x41
              case hi1x41 => ((try simp only [List.getElem?_toArray, List.getElem?_cons_succ, List.getElem?_cons_zero]); (try rfl))
              case hq1x41 => exact fun _ _ _ h => h
              case hy1x41 => exact Or.inl ⟨by rfl, by intro w hSw; clear hSw; go_simp; try with_reducible rfl⟩
              try simp only [Act.put, List.setIfInBounds_toArray, List.set_cons_zero, List.set_cons_succ]
              refine wpAnyH_take (i := 2) (oi := ?oi2x42) (v := ?v2x42) ?hi2x42 (by kernel_rfl) (by kernel_rfl) (by kernel_rfl) ?hq2x42 ?hy2x42 hHeld ?rest2x42
              case hi2x42 => ((try simp only [List.getElem?_toArray, List.getElem?_cons_succ, List.getElem?_cons_zero]); (try rfl))
              case hq2x42 => exact fun _ _ _ h => h
              case hy2x42 => exact Or.inl ⟨by rfl, by intro w hSw; clear hSw; go_simp; try with_reducible rfl⟩
              try simp only [Act.put, List.setIfInBounds_toArray, List.set_cons_zero, List.set_cons_succ]
              refine wpAnyH_take (i := 3) (oi := ?oi3x43) (v := ?v3x43) ?hi3x43 (by kernel_rfl) (by kernel_rfl) (by kernel_rfl) ?hq3x43 ?hy3x43 hHeld ?rest3x43
              case hi3x43 => ((try simp only [List.getElem?_toArray, List.getElem?_cons_succ, List.getElem?_cons_zero]); (try rfl))
              case hq3x43 => exact fun _ _ _ h => h
              case hy3x43 => exact Or.inl ⟨by rfl, by intro w hSw; clear hSw; go_simp; try with_reducible rfl⟩
              try simp only [Act.put, List.setIfInBounds_toArray, List.set_cons_zero, List.set_cons_succ]
              refine wpAnyH_take (i := 5) (oi := ?oi5x44) (v := ?v5x44) ?hi5x44 (by kernel_rfl) (by kernel_rfl) (by kernel_rfl) ?hq5x44 ?hy5x44 hHeld ?rest5x44
              case hi5x44 => ((try simp only [List.getElem?_toArray, List.getElem?_cons_succ, List.getElem?_cons_zero]); (try rfl))
              case hq5x44 => exact fun _ _ _ h => h
              case hy5x44 => exact Or.inl ⟨by rfl, by intro w hSw; clear hSw; go_simp; try with_reducible rfl⟩
              try simp only [Act.put, List.setIfInBounds_toArray, List.set_cons_zero, List.set_cons_succ]
              refine wpAnyH_take (i := 7) (oi := ?oi7x45) (v := ?v7x45) ?hi7x45 (by kernel_rfl) (by kernel_rfl) (by kernel_rfl) ?hq7x45 ?hy7x45 hHeld ?rest7x45
              case hi7x45 => ((try simp only [List.getElem?_toArray, List.getElem?_cons_succ, List.getElem?_cons_zero]); (try rfl))
              case hq7x45 => exact fun _ _ _ h => h
              case hy7x45 => exact Or.inl ⟨by rfl, by intro w hSw; clear hSw; go_simp; try with_reducible rfl⟩
              try simp only [Act.put, List.setIfInBounds_toArray, List.set_cons_zero, List.set_cons_succ]
              refine wpAnyH_ready (rs := [4]) (by kernel_rfl) (by simp) ?_
              refine AllReadyH.cons rfl (fun K' hK => ?_) AllReadyH.nil
              clear hHeld
              go_simp
              refine hK.out _ _ trivial (fun hHeld => ?_)
              clear hK
              try simp only [Act.put, List.setIfInBounds_toArray, List.set_cons_zero, List.set_cons_succ]
              refine wpAnyH_take (i := 6) (oi := ?oi6x46) (v := ?v6x46) ?hi6x46 (by kernel_rfl) (by kernel_rfl) (by kernel_rfl) ?hq6x46 ?hy6x46 hHeld ?rest6x46
              case hi6x46 => ((try simp only [List.getElem?_toArray, List.getElem?_cons_succ, List.getElem?_cons_zero]); (try rfl))
              case hq6x46 => exact fun _ _ _ h => h
              case hy6x46 => exact Or.inl ⟨by rfl, by intro w hSw; clear hSw; go_simp; try with_reducible rfl⟩
              try simp only [Act.put, List.setIfInBounds_toArray, List.set_cons_zero, List.set_cons_succ]
              refine wpAnyH_take (i := 8) (oi := ?oi8x47) (v := ?v8x47) ?hi8x47 (by kernel_rfl) (by kernel_rfl) (by kernel_rfl) ?hq8x47 ?hy8x47 hHeld ?rest8x47
              case hi8x47 => ((try simp only [List.getElem?_toArray, List.getElem?_cons_succ, List.getElem?_cons_zero]); (try rfl))
              case hq8x47 => exact fun _ _ _ h => h
              case hy8x47 => exact Or.inl ⟨by rfl, by intro w hSw; clear hSw; go_simp; try with_reducible rfl⟩
              try simp only [Act.put, List.setIfInBounds_toArray, List.set_cons_zero, List.set_cons_succ]
              refine wpAnyH_ready (rs := [9]) (by kernel_rfl) (by simp) ?_
              refine AllReadyH.cons rfl (fun K' hK => ?_) AllReadyH.nil
              clear hHeld
              go_simp
              refine hK.out _ _ trivial (fun hHeld => ?_)
              clear hK
              try simp only [Act.put, List.setIfInBounds_toArray, List.set_cons_zero, List.set_cons_succ]
              refine wpAnyH_done (by kernel_rfl) ?_ _
              clear hHeld
              go_wp2_with fail
              go_roundw
              case rel => exact ⟨k + 1, by omega, by go_num, XL⟩
              case measure => simp [intOf]; omega
            · obtain rfl : k = 8 := by omega
              have j2 : ¬ (8 : Int) < 8 := by omega
              have XE := X.out
              rw [mix_eight, ← FT.out] at XE
              have XF := Lib.hid XE
              clear XE X
              go_wp2_with fail
              go_end0
              exact ⟨rfl, XF.out.st, XF.out.only, XF.out.below⟩
end Arw
end Go.Proofs.YtafeigpmldgifaaDoor
/-
  What the walk of padded of archive needs: a new row of bytes; the bytes that follow a message, one by one (the walk itself is under way).
-/
namespace Go.Proofs.YtafeigpmldgifaaDoor
namespace Arw
open Go.RowKit Lw Go.Proofs.YtafeigpmldgifaaDoor.Arp

theorem info8b : (Tryd.prog.info? 5).map (fun i => (i.zero, i.size, i.bytes)) = some (some (.int .u8 0), 1, 1) := by kernel_rfl
def zrow (m : Nat) : Array Value := madeCells #[.int .u8 0] (m * 1)
theorem zrow_list (m : Nat) : zrow m = (by8L (List.replicate m 0)).toArray := by
  unfold zrow madeCells by8L
  apply Array.ext
  · simp
  · intro i h1 h2
    simp only [Array.size_map, Array.size_range, Nat.mul_one] at h1
    simp [Nat.mod_one]
theorem make_by (m : Nat) (hm : m ≤ 100000000) (w : World) : (Instr.makeSlice 58 (.int .i64 (m : Int)) (.int .i64 (m : Int))).run Tryd.prog w = .ok (.slice (some ⟨w.heap.size, 0, none⟩) m m) (w.alloc (.cells (zrow m) 5)) := by
  obtain ⟨i, hi, hzz⟩ := Option.map_eq_some_iff.1 info8b
  simp only [Prod.mk.injEq] at hzz
  obtain ⟨hz, hs, hb⟩ := hzz
  have h := run_make (P := Tryd.prog) w 58 5 i _ Tryd.underlying58 hi hz .i64 .i64 (m : Int) (m : Int) (by omega) (Int.le_refl _) (by rw [hb]; omega) (by omega)
  rw [hs, Int.toNat_natCast] at h
  exact h
theorem zrow_rw (m : Nat) (w : World) : Rw (w.alloc (.cells (zrow m) 5)) w.heap.size (by8L (List.replicate m 0)) := by
  rw [zrow_list]
  exact Rw.new w _ _
/-- The eight bytes of the length, those laid so far. -/
def lastB (n i : Nat) : List UInt8 := (List.range 8).map fun q => if 7 - q < i then UInt8.ofNat (n * 8 / 256 ^ (7 - q) % 256) else 0
theorem lastB_zero (n : Nat) : lastB n 0 = List.replicate 8 0 := rfl
theorem lastB_eight (n : Nat) : lastB n 8 = (List.range 8).map fun q => UInt8.ofNat (n * 8 / 256 ^ (7 - q) % 256) := by
  unfold lastB
  exact List.map_congr_left fun q _ => if_pos (by omega)
theorem lastB_len (n i : Nat) : (lastB n i).length = 8 := by unfold lastB; rw [List.length_map, List.length_range]
theorem lastB_set (n i : Nat) (h : i < 8) : (lastB n i).set (7 - i) (UInt8.ofNat (n * 8 / 256 ^ i % 256)) = lastB n (i + 1) := by
  apply List.ext_getElem?
  intro j
  by_cases h8 : j < 8
  · by_cases hj : j = 7 - i
    · subst hj
      rw [List.getElem?_set_self (by rw [lastB_len]; omega)]
      unfold lastB
      rw [List.getElem?_map, List.getElem?_range h8, Option.map_some, if_pos (by omega), show 7 - (7 - i) = i by omega]
    · rw [List.getElem?_set_ne (fun e => hj e.symm)]
      unfold lastB
      rw [List.getElem?_map, List.getElem?_map, List.getElem?_range h8, Option.map_some, Option.map_some]
      by_cases h1 : 7 - j < i
      · rw [if_pos h1, if_pos (by omega)]
      · rw [if_neg h1, if_neg (by omega)]
  · rw [List.getElem?_eq_none (by rw [List.length_set, lastB_len]; omega), List.getElem?_eq_none (by rw [lastB_len]; omega)]
theorem tail_last (n : Nat) : tailL n = 128 :: (List.replicate (zerosN n) 0 ++ lastB n 8) := by rw [lastB_eight]; rfl
end Arw
end Go.Proofs.YtafeigpmldgifaaDoor
/-
  The walk of padded of archive: a message and what follows it.
-/
namespace Go.Proofs.YtafeigpmldgifaaDoor
namespace Arw
open Go.RowKit Lw Go.Proofs.YtafeigpmldgifaaDoor.Arp

theorem byte_shift (n i : Nat) (hn : n ≤ 1000000) : IntKind.u8.wrap (((n * 8 / 256 ^ i : Nat) : Int)) = ((UInt8.ofNat (n * 8 / 256 ^ i % 256)).toNat : Int) := by
  rw [IntKind.wrap_u8', UInt8.toNat_ofNat']
  omega
theorem by8_set (l : List UInt8) (j : Nat) (u : UInt8) : (by8L l).set j (.int .u8 (u.toNat : Int)) = by8L (l.set j u) := by unfold by8L; rw [List.map_set]
def setL : List Value → Nat → List Value → List Value
  | vs, _, [] => vs
  | vs, o, v :: r => setL (vs.set o v) (o + 1) r
theorem Rw.setsAt {b : Nat} : ∀ (us : List Value) {w : World} {vs : List Value} (o : Nat), Rw w b vs → o + us.length ≤ vs.length → Rw (w.setCells b o us) b (setL vs o us)
  | [], _, _, _, h, _ => h
  | v :: r, w, vs, o, h, hl => by
    have hl2 : o + (r.length + 1) ≤ vs.length := hl
    rw [World.setCells, setL]
    exact Rw.setsAt r (o + 1) (h.set o v (by omega)) (by rw [List.length_set]; omega)
theorem setL_front (us : List Value) : ∀ (pre zs : List Value), us.length ≤ zs.length → setL (pre ++ zs) pre.length us = pre ++ us ++ zs.drop us.length := by
  induction us with
  | nil => intro pre zs _; simp [setL]
  | cons v r ih =>
    intro pre zs h
    cases zs with
    | nil => simp at h
    | cons y ys =>
      have h2 : r.length ≤ ys.length := by simpa using h
      rw [setL, List.set_append_right _ _ (Nat.le_refl _), Nat.sub_self, List.set_cons_zero]
      have := ih (pre ++ [v]) ys h2
      rw [List.length_append] at this
      rw [show pre ++ v :: ys = pre ++ [v] ++ ys by simp]
      rw [show pre.length + 1 = pre.length + [v].length from rfl, this]
      simp
theorem setL_zero (b : List UInt8) (m : Nat) (h : b.length ≤ m) : setL (by8L (List.replicate m 0)) 0 (by8L b) = by8L (b ++ List.replicate (m - b.length) 0) := by
  have := setL_front (by8L b) [] (by8L (List.replicate m 0)) (by rw [by8_len, by8_len, List.length_replicate]; exact h)
  rw [List.nil_append, List.nil_append, List.length_nil] at this
  rw [this]
  unfold by8L
  rw [List.map_append, List.length_map, ← List.map_drop, List.drop_replicate]
set_option maxRecDepth 100000 in
set_option maxHeartbeats 16000000 in
theorem padded_any (b : List UInt8) (g o cap : Nat) (w : World) (hb : b.length ≤ 1000000) (hg : ∀ j v, (by8L b)[j]? = some v → w.cell? ⟨g, o + j, none⟩ = some v) (hgs : g < w.heap.size) :
    Calls Tryd.prog 41 #[.slice (some ⟨g, o, none⟩) b.length cap] w fun e w' => ∃ p, e = .returned (.slice (some ⟨p, 0, none⟩) (padL b).length (padL b).length) ∧ w.heap.size ≤ p ∧ Rw w' p (by8L (padL b)) ∧ Below w.heap.size w w' := by
  obtain ⟨n, hn⟩ : ∃ n, b.length = n := ⟨_, rfl⟩
  have PL := pad_len b
  have PE : padL b = b ++ 128 :: (List.replicate (zerosN n) 0 ++ lastB n 8) := by rw [← tail_last, ← hn]; rfl
  have HN := Lib.hid hn
  rw [hn] at hb PL ⊢
  obtain ⟨z, hz⟩ : ∃ z, zerosN n = z := ⟨_, rfl⟩
  have zb : z < 64 := by rw [← hz]; unfold zerosN; omega
  have z1 : (119 - (n : Int)) % 64 = (z : Int) := by rw [← hz]; unfold zerosN; omega
  have z2 : (119 - (n : Int) % 64) % 64 = (z : Int) := by rw [← hz]; unfold zerosN; omega
  rw [hz] at PE PL
  obtain ⟨m, hm⟩ : ∃ m, n + 9 + z = m := ⟨_, rfl⟩
  have HM := Lib.hid hm
  have PL2 := Lib.hid (PL.trans hm)
  have PE2 := Lib.hid PE
  have sm : (n : Int) + 1 + (z : Int) + 8 = (m : Int) := by omega
  have mk := make_by m (by omega)
  rw [PL2.out]
  have R0 := Lib.hid (zrow_rw m w)
  have B0 := Lib.hid ((Below.refl w.heap.size w).alloc (Nat.le_refl _) (.cells (zrow m) 5))
  obtain ⟨W2, hW2⟩ : ∃ W, (w.alloc (.cells (zrow m) 5)).setCells w.heap.size 0 (by8L b) = W := ⟨_, rfl⟩
  have cp : (Builtin.copy_ #[58, 58] 3 #[.slice (some ⟨w.heap.size, 0, none⟩) m m, .slice (some ⟨g, o, none⟩) n cap]).run Tryd.prog (w.alloc (.cells (zrow m) 5)) = .ok (goInt n) W2 := by
    rw [← hW2]
    have ln : (by8L (List.replicate m 0)).length = m := by rw [by8_len, List.length_replicate]
    refine run_copy_sl _ _ _ _ 5 w.heap.size 0 m m ⟨g, o, none⟩ n cap (by8L b) Tryd.underlying58 (by kernel_rfl) (by omega) (by rw [by8_len]; exact HN.out) (fun j v hv => ?_) (by8_one b) (fun j hj => (R0.out.th j (by rw [ln]; omega)).1) (fun j hj => (R0.out.th j (by rw [ln]; omega)).2)
    rw [Addr.add_mid, World.cell?_alloc_past _ _ _ hgs]
    exact hg j v hv
  have R2 : Rw W2 w.heap.size (by8L (b ++ List.replicate (m - n) 0)) := by
    have := R0.out.setsAt (by8L b) 0 (by rw [by8_len, by8_len, List.length_replicate, HN.out]; omega)
    rw [setL_zero b m (by rw [HN.out]; omega), HN.out, hW2] at this
    exact this
  have B2 : Below w.heap.size w W2 := by rw [← hW2]; exact below_setCells w.heap.size (Nat.le_refl _) _ _ _ B0.out
  have bl2 : (b ++ List.replicate (m - n) 0).length = m := by rw [List.length_append, List.length_replicate, HN.out]; omega
  have cn : W2.cell? ⟨w.heap.size, n, none⟩ = some (.int .u8 (((b ++ List.replicate (m - n) 0).getD n 0).toNat : Int)) := R2.cell (by8L_get (by rw [bl2]; omega))
  have fn : W2.frozen? ⟨w.heap.size, n, none⟩ = false := R2.free (by rw [by8_len, bl2]; omega)
  have R3 : Rw (W2.setCell ⟨w.heap.size, n, none⟩ (.int .u8 128)) w.heap.size (by8L (b ++ 128 :: (List.replicate z 0 ++ lastB n 0))) := by
    have := R2.set n (.int .u8 128) (by rw [by8_len, bl2]; omega)
    rw [show (Value.int .u8 128) = .int .u8 (((128 : UInt8).toNat : Nat) : Int) from rfl, by8_set] at this
    have e : (b ++ List.replicate (m - n) 0).set n 128 = b ++ 128 :: (List.replicate z 0 ++ lastB n 0) := by
      rw [lastB_zero, List.replicate_append_replicate, List.set_append_right _ _ (by rw [HN.out]; exact Nat.le_refl _), HN.out, Nat.sub_self, show m - n = z + 8 + 1 by omega, List.replicate_succ, List.set_cons_zero]
    rw [e] at this
    exact this
  have B3 := B2.setCell (p := ⟨w.heap.size, n, none⟩) (Nat.le_refl _) (.int .u8 128)
  have X0 := Lib.hid (And.intro R3 B3)
  clear hn hz PL PE hm R2 B2 R3 B3 hW2 hg hgs
  go_enter Tryd.func41, Tryd.ntmps41
  go_wp2_with fail
  clear cp mk cn fn
  go_loopw [30] (fun i wr => ∃ k : Nat, k ≤ 8 ∧ i = .int .i64 k ∧ Hid (Rw wr w.heap.size (by8L (b ++ 128 :: (List.replicate z 0 ++ lastB n k))) ∧ Below w.heap.size w wr)) (fun i _ => 8 - (intOf i).toNat)
  case atStart => exact ⟨0, Nat.zero_le _, rfl, X0⟩
  case round =>
    obtain ⟨k, hk, rfl, X⟩ := hrel
    clear X0
    by_cases hlt : k < 8
    · have i1 : (k : Int) < 8 := by omega
      obtain ⟨p, hp⟩ : ∃ p, m - 1 - k = p := ⟨_, rfl⟩
      have lenk : (b ++ 128 :: (List.replicate z 0 ++ lastB n k)).length = m := by
        rw [List.length_append, List.length_cons, List.length_append, List.length_replicate, lastB_len, HN.out]
        have := HM.out
        omega
      have pm : p < m := by have := HM.out; omega
      have cp2 : wr.cell? ⟨w.heap.size, p, none⟩ = some (.int .u8 (((b ++ 128 :: (List.replicate z 0 ++ lastB n k)).getD p 0).toNat : Int)) := X.out.1.cell (by8L_get (by rw [lenk]; exact pm))
      have fp2 : wr.frozen? ⟨w.heap.size, p, none⟩ = false := X.out.1.free (by rw [by8_len, lenk]; exact pm)
      have ev : (n : Int) * 8 / 2 ^ (8 * k) % 256 = ((UInt8.ofNat (n * 8 / 256 ^ k % 256)).toNat : Int) := by
        rw [UInt8.toNat_ofNat']
        have e : (2 : Int) ^ (8 * k) = ((256 ^ k : Nat) : Int) := by
          rw [Int.pow_mul, show (2 : Int) ^ 8 = ((256 : Nat) : Int) from rfl, Int.natCast_pow]
        rw [e, show (n : Int) * 8 = ((n * 8 : Nat) : Int) by omega, ← Int.natCast_ediv]
        generalize n * 8 / 256 ^ k = q
        omega
      have X1 : Hid (Rw (wr.setCell ⟨w.heap.size, p, none⟩ (.int .u8 ((UInt8.ofNat (n * 8 / 256 ^ k % 256)).toNat : Int))) w.heap.size (by8L (b ++ 128 :: (List.replicate z 0 ++ lastB n (k + 1)))) ∧ Below w.heap.size w (wr.setCell ⟨w.heap.size, p, none⟩ (.int .u8 ((UInt8.ofNat (n * 8 / 256 ^ k % 256)).toNat : Int)))) := Lib.hid (by
        have h1 := X.out.1.set p (.int .u8 ((UInt8.ofNat (n * 8 / 256 ^ k % 256)).toNat : Int)) (by rw [by8_len, lenk]; exact pm)
        have e : (b ++ 128 :: (List.replicate z 0 ++ lastB n k)).set p (UInt8.ofNat (n * 8 / 256 ^ k % 256)) = b ++ 128 :: (List.replicate z 0 ++ lastB n (k + 1)) := by
          have hm := HM.out
          have hn := HN.out
          rw [List.set_append_right _ _ (by omega), show p - b.length = (z + (7 - k)) + 1 by omega, List.set_cons_succ, List.set_append_right _ _ (by rw [List.length_replicate]; omega), List.length_replicate, show z + (7 - k) - z = 7 - k by omega, lastB_set n k hlt]
        rw [by8_set, e] at h1
        exact ⟨h1, X.out.2.setCell (p := ⟨w.heap.size, p, none⟩) (Nat.le_refl _) _⟩)
      obtain ⟨u, hu⟩ : ∃ u, ((UInt8.ofNat (n * 8 / 256 ^ k % 256)).toNat : Int) = u := ⟨_, rfl⟩
      rw [hu] at ev X1
      clear hu X lenk
      go_wp2_with fail
      go_roundw
      case rel => exact ⟨k + 1, by omega, by go_num, X1⟩
      case measure => simp [intOf]; omega
    · obtain rfl : k = 8 := by omega
      have i1 : ¬ (8 : Int) < 8 := by omega
      have XE := X.out
      rw [← PE2.out] at XE
      have XF := Lib.hid XE
      clear XE X
      go_wp2_with fail
      go_ret
      exact ⟨_, rfl, Nat.le_refl _, XF.out.1, XF.out.2⟩
end Arw
end Go.Proofs.YtafeigpmldgifaaDoor
/-
  The blocks of a padded message in memory (for the walk of digest, under way).
-/
namespace Go.Proofs.YtafeigpmldgifaaDoor
namespace Arw
open Go.RowKit Lw Go.Proofs.YtafeigpmldgifaaDoor.Arp

theorem info8w : (Tryd.prog.info? 86).map (·.size) = some 8 := by kernel_rfl
/-- A block of the padded message. -/
theorem block_bytes {w : World} {p : Nat} {l : List UInt8} (h : Rw w p (by8L l)) (k : Nat) (hk : 64 * k + 64 ≤ l.length) : ∀ j v, (by8L ((l.drop (64 * k)).take 64))[j]? = some v → w.cell? ⟨p, 64 * k + j, none⟩ = some v := fun j v hv => by
  have hj : j < 64 := by
    have := (List.getElem?_eq_some_iff.1 hv).1
    rw [by8_len, List.length_take] at this
    omega
  refine h.cell ?_
  unfold by8L at hv ⊢
  rw [List.getElem?_map] at hv ⊢
  rw [List.getElem?_take_of_lt hj, List.getElem?_drop] at hv
  exact hv
theorem block_len {l : List UInt8} (k : Nat) (hk : 64 * k + 64 ≤ l.length) : ((l.drop (64 * k)).take 64).length = 64 := by rw [List.length_take, List.length_drop]; omega
end Arw
end Go.Proofs.YtafeigpmldgifaaDoor
/-
  The walk of digest of archive: the digest of bytes, block by block.
-/
namespace Go.Proofs.YtafeigpmldgifaaDoor
namespace Arw
open Go.RowKit Lw Go.Proofs.YtafeigpmldgifaaDoor.Arp

def lenOf' : Value → Nat
  | .slice _ n _ => n
  | _ => 0
theorem info32d : (Tryd.prog.info? 23).map (·.size) = some 32 := by kernel_rfl
/-- What the blocks' loop keeps. -/
structure DL (w0 : World) (p : Nat) (b : List UInt8) (k : Nat) (w : World) : Prop where
  res : Rw w w0.heap.size (List.replicate 32 (.int .u8 0))
  st : Rw w (w0.heap.size + 1) (w32L (blocksS (padL b) k).l)
  pd : Rw w p (by8L (padL b))
  keys : Keys w
  below : Below w0.heap.size w0 w
theorem DL.round {w0 w w' : World} {p k : Nat} {b : List UInt8} (h : DL w0 p b k w) (hp : w0.heap.size + 1 < p) (hk : Keys w0) (hs : Rw w' (w0.heap.size + 1) (w32L ((blocksS (padL b) k).block (((padL b).drop (64 * k)).take 64)).l)) (ho : Only (w0.heap.size + 1) w w') (hb : Below (w0.heap.size + 1) w w') : DL w0 p b (k + 1) w' :=
  ⟨h.res.only ho (by omega), hs, h.pd.only ho (by omega), h.keys.only ho (by have := hk.2; omega), h.below.trans (hb.mono (Nat.le_succ _))⟩
/-- The bytes of a digest, so far. -/
def outV (S : St) (k : Nat) : List Value := (List.range 32).map fun i => .int .u8 ((if i < k then digB S i else 0 : Nat) : Int)
theorem outV_len (S : St) (k : Nat) : (outV S k).length = 32 := by unfold outV; rw [List.length_map, List.length_range]
theorem outV_zero (S : St) : outV S 0 = List.replicate 32 (.int .u8 0) := rfl
theorem outV_all (S : St) : outV S 32 = ((List.range 32).map fun i => digB S i).map fun (x : Nat) => Value.int .u8 (x : Int) := by
  unfold outV
  rw [List.map_map]
  refine List.map_congr_left fun i hi => ?_
  rw [if_pos (List.mem_range.1 hi)]
  rfl
theorem outV_get (S : St) (k i : Nat) (h : i < 32) : (outV S k)[i]? = some (.int .u8 ((if i < k then digB S i else 0 : Nat) : Int)) := by
  unfold outV
  rw [List.getElem?_map, List.getElem?_range h, Option.map_some]
theorem outV_set (S : St) (k : Nat) (h : k < 32) : (outV S k).set k (.int .u8 (digB S k : Int)) = outV S (k + 1) := by
  apply List.ext_getElem?
  intro j
  by_cases hj : j = k
  · subst hj
    rw [List.getElem?_set_self (by rw [outV_len]; exact h), outV_get S _ _ h, if_pos (Nat.lt_succ_self j)]
  · rw [List.getElem?_set_ne (fun e => hj e.symm)]
    by_cases h8 : j < 32
    · rw [outV_get S _ _ h8, outV_get S _ _ h8]
      by_cases h1 : j < k
      · rw [if_pos h1, if_pos (by omega)]
      · rw [if_neg h1, if_neg (by omega)]
    · rw [List.getElem?_eq_none (by rw [outV_len]; omega), List.getElem?_eq_none (by rw [outV_len]; omega)]
theorem digB_lt (S : St) (k : Nat) : digB S k < 256 := by unfold digB; omega
/-- What the last loop keeps. -/
structure DO (w0 : World) (ob : Nat) (S : St) (k : Nat) (w : World) : Prop where
  res : Rw w w0.heap.size (List.replicate 32 (.int .u8 0))
  st : Rw w (w0.heap.size + 1) (w32L S.l)
  ob : Rw w ob (outV S k)
  below : Below w0.heap.size w0 w
theorem DO.next {w0 w : World} {ob k : Nat} {S : St} (h : DO w0 ob S k w) (hk : k < 32) (ho : w0.heap.size + 1 < ob) : DO w0 ob S (k + 1) (w.setCell ⟨ob, k, none⟩ (.int .u8 (digB S k : Int))) := by
  have h1 := h.ob.set k (.int .u8 (digB S k : Int)) (by rw [outV_len]; exact hk)
  rw [outV_set S k hk] at h1
  exact ⟨h.res.apart (by omega) k _, h.st.apart (by omega) k _, h1, h.below.setCell (p := ⟨ob, k, none⟩) (by show w0.heap.size ≤ ob; omega) _⟩
set_option maxRecDepth 100000 in
set_option maxHeartbeats 16000000 in
theorem digest_any (b : List UInt8) (g o cap : Nat) (w : World) (hb : b.length ≤ 1000000) (hg : ∀ j v, (by8L b)[j]? = some v → w.cell? ⟨g, o + j, none⟩ = some v) (hgs : g < w.heap.size) (hk : Keys w) :
    Calls Tryd.prog 25 #[.slice (some ⟨g, o, none⟩) b.length cap] w fun e w' => e = .returned (.agg ((digestL b).map fun (x : Nat) => Value.int .u8 (x : Int)).toArray) ∧ Below w.heap.size w w' := by
  have B0 := (Below.refl w.heap.size w).alloc (Nat.le_refl _) (.cells #[.int .u8 0, .int .u8 0, .int .u8 0, .int .u8 0, .int .u8 0, .int .u8 0, .int .u8 0, .int .u8 0, .int .u8 0, .int .u8 0, .int .u8 0, .int .u8 0, .int .u8 0, .int .u8 0, .int .u8 0, .int .u8 0, .int .u8 0, .int .u8 0, .int .u8 0, .int .u8 0, .int .u8 0, .int .u8 0, .int .u8 0, .int .u8 0, .int .u8 0, .int .u8 0, .int .u8 0, .int .u8 0, .int .u8 0, .int .u8 0, .int .u8 0, .int .u8 0] 23)
  have B1 := B0.alloc (by simp) (.cells #[.int .u32 1779033703, .int .u32 3144134277, .int .u32 1013904242, .int .u32 2773480762, .int .u32 1359893119, .int .u32 2600822924, .int .u32 528734635, .int .u32 1541459225] 86)
  have R0 : Rw (w.alloc (.cells #[.int .u8 0, .int .u8 0, .int .u8 0, .int .u8 0, .int .u8 0, .int .u8 0, .int .u8 0, .int .u8 0, .int .u8 0, .int .u8 0, .int .u8 0, .int .u8 0, .int .u8 0, .int .u8 0, .int .u8 0, .int .u8 0, .int .u8 0, .int .u8 0, .int .u8 0, .int .u8 0, .int .u8 0, .int .u8 0, .int .u8 0, .int .u8 0, .int .u8 0, .int .u8 0, .int .u8 0, .int .u8 0, .int .u8 0, .int .u8 0, .int .u8 0, .int .u8 0] 23)) w.heap.size (List.replicate 32 (.int .u8 0)) := Rw.new w (List.replicate 32 (.int .u8 0)) 23
  have R1 := Rw.new (w.alloc (.cells #[.int .u8 0, .int .u8 0, .int .u8 0, .int .u8 0, .int .u8 0, .int .u8 0, .int .u8 0, .int .u8 0, .int .u8 0, .int .u8 0, .int .u8 0, .int .u8 0, .int .u8 0, .int .u8 0, .int .u8 0, .int .u8 0, .int .u8 0, .int .u8 0, .int .u8 0, .int .u8 0, .int .u8 0, .int .u8 0, .int .u8 0, .int .u8 0, .int .u8 0, .int .u8 0, .int .u8 0, .int .u8 0, .int .u8 0, .int .u8 0, .int .u8 0, .int .u8 0] 23)) (w32L firstS.l) 86
  have R0' := R0.call ((Below.refl _ _).alloc (Nat.le_refl _) (.cells (w32L firstS.l).toArray 86))
  obtain ⟨W1, hW1⟩ : ∃ W, (w.alloc (.cells #[.int .u8 0, .int .u8 0, .int .u8 0, .int .u8 0, .int .u8 0, .int .u8 0, .int .u8 0, .int .u8 0, .int .u8 0, .int .u8 0, .int .u8 0, .int .u8 0, .int .u8 0, .int .u8 0, .int .u8 0, .int .u8 0, .int .u8 0, .int .u8 0, .int .u8 0, .int .u8 0, .int .u8 0, .int .u8 0, .int .u8 0, .int .u8 0, .int .u8 0, .int .u8 0, .int .u8 0, .int .u8 0, .int .u8 0, .int .u8 0, .int .u8 0, .int .u8 0] 23)).alloc (.cells #[.int .u32 1779033703, .int .u32 3144134277, .int .u32 1013904242, .int .u32 2773480762, .int .u32 1359893119, .int .u32 2600822924, .int .u32 528734635, .int .u32 1541459225] 86) = W := ⟨_, rfl⟩
  change Rw ((w.alloc (.cells #[.int .u8 0, .int .u8 0, .int .u8 0, .int .u8 0, .int .u8 0, .int .u8 0, .int .u8 0, .int .u8 0, .int .u8 0, .int .u8 0, .int .u8 0, .int .u8 0, .int .u8 0, .int .u8 0, .int .u8 0, .int .u8 0, .int .u8 0, .int .u8 0, .int .u8 0, .int .u8 0, .int .u8 0, .int .u8 0, .int .u8 0, .int .u8 0, .int .u8 0, .int .u8 0, .int .u8 0, .int .u8 0, .int .u8 0, .int .u8 0, .int .u8 0, .int .u8 0] 23)).alloc (.cells #[.int .u32 1779033703, .int .u32 3144134277, .int .u32 1013904242, .int .u32 2773480762, .int .u32 1359893119, .int .u32 2600822924, .int .u32 528734635, .int .u32 1541459225] 86)) _ _ at R1
  change Rw ((w.alloc (.cells #[.int .u8 0, .int .u8 0, .int .u8 0, .int .u8 0, .int .u8 0, .int .u8 0, .int .u8 0, .int .u8 0, .int .u8 0, .int .u8 0, .int .u8 0, .int .u8 0, .int .u8 0, .int .u8 0, .int .u8 0, .int .u8 0, .int .u8 0, .int .u8 0, .int .u8 0, .int .u8 0, .int .u8 0, .int .u8 0, .int .u8 0, .int .u8 0, .int .u8 0, .int .u8 0, .int .u8 0, .int .u8 0, .int .u8 0, .int .u8 0, .int .u8 0, .int .u8 0] 23)).alloc (.cells #[.int .u32 1779033703, .int .u32 3144134277, .int .u32 1013904242, .int .u32 2773480762, .int .u32 1359893119, .int .u32 2600822924, .int .u32 528734635, .int .u32 1541459225] 86)) _ _ at R0'
  rw [hW1] at B1 R1 R0'
  have es : (w.alloc (.cells #[.int .u8 0, .int .u8 0, .int .u8 0, .int .u8 0, .int .u8 0, .int .u8 0, .int .u8 0, .int .u8 0, .int .u8 0, .int .u8 0, .int .u8 0, .int .u8 0, .int .u8 0, .int .u8 0, .int .u8 0, .int .u8 0, .int .u8 0, .int .u8 0, .int .u8 0, .int .u8 0, .int .u8 0, .int .u8 0, .int .u8 0, .int .u8 0, .int .u8 0, .int .u8 0, .int .u8 0, .int .u8 0, .int .u8 0, .int .u8 0, .int .u8 0, .int .u8 0] 23)).heap.size = w.heap.size + 1 := by simp
  rw [es] at R1
  have F1 := Lib.hid (And.intro R0' (And.intro R1 B1))
  have HW1 := Lib.hid hW1
  have zW1 : w.heap.size + 2 ≤ W1.heap.size := by rw [← hW1]; simp
  have PA := Lib.hid (padded_any b g o cap W1 hb (fun j v hv => cell_call (hg j v hv) B1) (Nat.lt_of_lt_of_le hgs B1.size))
  have HK := Lib.hid hk
  have kl := hk.2
  have PM := pad_64 b
  obtain ⟨n, hn⟩ : ∃ n, (padL b).length = n := ⟨_, rfl⟩
  have HN := Lib.hid hn
  have nb : n ≤ 1000200 := by rw [← hn, pad_len]; unfold zerosN; omega
  rw [hn] at PA PM
  clear hg hk B0 B1 R0 R1 R0' hW1 es hn hgs
  go_enter Tryd.func25, Tryd.ntmps25
  go_wp2_with (refine wpList_store_new_at rfl _ (.tmp 3) (.tmp 7) rfl _ _ (w.heap.size + 1) (by simp) rfl rfl info8w rfl ?_ ; simp [Value.oneCell'])
  rw [HW1.out]
  refine PA.out.mono ?_
  rintro e w2 ⟨p, rfl, hp, R, hb2⟩
  have X0 : Hid (DL w p b 0 w2) := Lib.hid ⟨F1.out.1.call hb2, F1.out.2.1.call hb2, R, (HK.out.below F1.out.2.2).below hb2, below_then F1.out.2.2 hb2⟩
  have lp : w.heap.size + 1 < p := by omega
  clear F1 HW1 hp R hb2 PA zW1
  go_wp2_with fail
  go_loopw [4] (fun v wr => ∃ k off r, v = .slice (some ⟨p, off, none⟩) r r ∧ r + 64 * k = n ∧ (0 < r → off = 64 * k) ∧ Hid (DL w p b k wr)) (fun v _ => lenOf' v)
  case atStart => exact ⟨0, 0, n, rfl, rfl, fun _ => rfl, X0⟩
  case round =>
    obtain ⟨k, off, r, rfl, hr, ho, X⟩ := hrel
    clear X0
    by_cases h0 : 0 < r
    · obtain rfl := ho h0
      have h64 : 64 ≤ r := by omega
      have i0 : (0 : Int) < (r : Int) := by omega
      have i1 : (64 : Int) ≤ (r : Int) := by omega
      have RD := Lib.hid (round_any (blocksS (padL b) k) (blocks_ok _ k) (((padL b).drop (64 * k)).take 64) (block_len k (by have := HN.out; omega)) (w.heap.size + 1) p (64 * k) r wr X.out.st (block_bytes X.out.pd k (by have := HN.out; omega)) X.out.keys X.out.pd.lt (by omega))
      clear ho h0
      go_wp2_with fail
      refine RD.out.mono ?_
      rintro e w3 ⟨rfl, hs3, ho3, hb3⟩
      have X1 := Lib.hid (X.out.round lp HK.out hs3 ho3 hb3)
      clear X RD hs3 ho3 hb3
      rcases Nat.eq_or_lt_of_le h64 with rfl | hlt
      · clear i0 i1 h64
        go_wp2_with fail
        go_roundw
        case rel => exact ⟨k + 1, _, 0, rfl, by omega, fun h => absurd h (Nat.lt_irrefl 0), X1⟩
        case measure => simp [lenOf']
      · have i2 : (64 : Int) < (r : Int) := by omega
        clear i0
        go_wp2_with fail
        go_roundw
        case rel => exact ⟨k + 1, 64 * k + 64, r - 64, rfl, by omega, fun _ => by omega, X1⟩
        case measure => simp [lenOf']; omega
    · obtain ⟨WO, hWO⟩ : ∃ W, W = wr := ⟨_, rfl⟩
      subst hWO
      obtain rfl : r = 0 := by omega
      obtain ⟨S, hS⟩ : ∃ S, blocksS (padL b) k = S := ⟨_, rfl⟩
      have ED : Hid (digestL b = (List.range 32).map fun i => digB S i) := Lib.hid (by unfold digestL; rw [HN.out, ← hS, show n / 64 = k by omega])
      have bo := (Below.refl WO.heap.size WO).alloc (Nat.le_refl _) (.cells #[.int .u8 0, .int .u8 0, .int .u8 0, .int .u8 0, .int .u8 0, .int .u8 0, .int .u8 0, .int .u8 0, .int .u8 0, .int .u8 0, .int .u8 0, .int .u8 0, .int .u8 0, .int .u8 0, .int .u8 0, .int .u8 0, .int .u8 0, .int .u8 0, .int .u8 0, .int .u8 0, .int .u8 0, .int .u8 0, .int .u8 0, .int .u8 0, .int .u8 0, .int .u8 0, .int .u8 0, .int .u8 0, .int .u8 0, .int .u8 0, .int .u8 0, .int .u8 0] 23)
      have ro : Rw (WO.alloc (.cells #[.int .u8 0, .int .u8 0, .int .u8 0, .int .u8 0, .int .u8 0, .int .u8 0, .int .u8 0, .int .u8 0, .int .u8 0, .int .u8 0, .int .u8 0, .int .u8 0, .int .u8 0, .int .u8 0, .int .u8 0, .int .u8 0, .int .u8 0, .int .u8 0, .int .u8 0, .int .u8 0, .int .u8 0, .int .u8 0, .int .u8 0, .int .u8 0, .int .u8 0, .int .u8 0, .int .u8 0, .int .u8 0, .int .u8 0, .int .u8 0, .int .u8 0, .int .u8 0] 23)) WO.heap.size (outV S 0) := Rw.new WO (List.replicate 32 (.int .u8 0)) 23
      have X1 := X.out
      have st1 := X1.st
      rw [hS] at st1
      have Y0 : Hid (DO w WO.heap.size S 0 (WO.alloc (.cells #[.int .u8 0, .int .u8 0, .int .u8 0, .int .u8 0, .int .u8 0, .int .u8 0, .int .u8 0, .int .u8 0, .int .u8 0, .int .u8 0, .int .u8 0, .int .u8 0, .int .u8 0, .int .u8 0, .int .u8 0, .int .u8 0, .int .u8 0, .int .u8 0, .int .u8 0, .int .u8 0, .int .u8 0, .int .u8 0, .int .u8 0, .int .u8 0, .int .u8 0, .int .u8 0, .int .u8 0, .int .u8 0, .int .u8 0, .int .u8 0, .int .u8 0, .int .u8 0] 23))) := Lib.hid ⟨X1.res.call bo, st1.call bo, ro, below_then X1.below bo⟩
      have lo : w.heap.size + 1 < WO.heap.size := X1.st.lt
      clear X X1 st1 ro bo h0 ho hr HK hS
      go_wp2_with fail
      go_loopw [18] (fun i wi => ∃ j : Nat, j ≤ 32 ∧ i = .int .i64 j ∧ Hid (DO w WO.heap.size S j wi)) (fun i _ => 32 - (intOf i).toNat)
      case atStart => exact ⟨0, Nat.zero_le _, rfl, Y0⟩
      case round =>
        obtain ⟨j, hj, rfl, Y⟩ := hrel
        clear Y0
        by_cases hlt : j < 32
        · have j1 : (j : Int) < 32 := by omega
          obtain ⟨q, hq⟩ : ∃ q, j / 4 = q := ⟨_, rfl⟩
          obtain ⟨s, hs⟩ : ∃ s, 24 - j % 4 * 8 = s := ⟨_, rfl⟩
          have q1 : (j : Int) / 4 = (q : Int) := by omega
          have s1 : 24 - (j : Int) % 4 * 8 = (s : Int) := by omega
          have ql : q < 8 := by omega
          have q2 : 0 ≤ (q : Int) ∧ (q : Int) < 8 := by omega
          have ce := Y.out.st.cell (w32L_get (l := S.l) (j := q) (x := S.l.getD q 0) (by rw [List.getD_eq_getElem?_getD, List.getElem?_eq_getElem (show q < S.l.length from ql)]; rfl))
          have co := Y.out.ob.cell (outV_get S j j hlt)
          have fo := Y.out.ob.free (j := j) (by rw [outV_len]; exact hlt)
          have dv : S.l.getD q 0 >>> s % 256 = digB S j := by unfold digB; rw [hq, hs]
          have Y1 := Lib.hid (Y.out.next hlt lo)
          rw [← dv] at Y1
          generalize S.l.getD q 0 = x at *
          have ev : ((x >>> s % 256 : Nat) : Int) = (x : Int) / 2 ^ s % 256 := by rw [Nat.shiftRight_eq_div_pow, Int.natCast_emod, Int.natCast_ediv, Int.natCast_pow]; rfl
          rw [ev] at Y1
          clear ev
          have DV := Lib.hid dv
          clear dv Y hq hs
          go_wp2_with fail
          go_roundw
          case rel => exact ⟨j + 1, by omega, by go_num, Y1⟩
          case measure => simp [intOf]; omega
        · obtain rfl : j = 32 := by omega
          have j1 : ¬ (32 : Int) < 32 := by omega
          have ro := Y.out.ob.row
          have tr : wr.there w.heap.size 0 32 := Y.out.res.th
          have Z := Lib.hid (And.intro Y.out.res (below_setCells w.heap.size (Nat.le_refl _) (outV S 32) 0 wr Y.out.below))
          have one : ((outV S 32).toArray).all (·.oneCell') = true := all_oneCell_toArray (fun v hv => by
            obtain ⟨x, _, rfl⟩ := List.mem_map.1 hv
            rfl)
          have os : (outV S 32).toArray.size = 32 := by rw [List.size_toArray, outV_len]
          have EV : Hid (outV S 32 = (digestL b).map fun (x : Nat) => Value.int .u8 (x : Int)) := Lib.hid (by rw [outV_all, ED.out])
          have OL := Lib.hid (outV_len S 32)
          generalize outV S 32 = V at *
          clear Y ED
          go_wp2_with (first | (refine wpList_load_mid rfl _ (.tmp 5) rfl WO.heap.size 0 rfl V _ ro Tryd.underlying23 rfl (by rw [OL.out]; exact info32d) ?_) | (refine wpList_store_mid rfl _ (.tmp 2) (.tmp 34) rfl w.heap.size 0 V.toArray rfl rfl (by rw [os]; exact tr) (by rw [os]; exact info32d) one ?_))
          have eq1 : wr.setCells w.heap.size 0 V.toArray.toList = wr.setCells w.heap.size 0 V := rfl
          rw [eq1]
          have rr := Z.out.1.sets V (by rw [OL.out]; simp)
          exact bodyPost_ret (ret_cell Tryd.results25 _ _ w.heap.size V _ rfl rr.row Tryd.underlying23 rfl (by rw [OL.out]; exact info32d)) rfl ⟨by rw [EV.out], Z.out.2⟩
end Arw
end Go.Proofs.YtafeigpmldgifaaDoor
/-
  A slice of the call's own, whose elements are one cell each: append.
-/
namespace Go.Proofs.YtafeigpmldgifaaDoor
namespace Arw
open Go.RowKit Lw Go.Proofs.YtafeigpmldgifaaDoor.Arp

def Own1 (t : TypeId) (w : World) (B : Nat) (v : Value) (vs : List Value) : Prop := w.ownsRow B t 1 v vs.length vs ∧ B ≤ w.heap.size
theorem Own1.nil (t : TypeId) (w : World) (B : Nat) (h : B ≤ w.heap.size) : Own1 t w B (.slice none 0 0) [] := ⟨World.ownsRow_nil _ _ _ _, h⟩
theorem own1_lt {w : World} {g : Nat} {o : Obj} (hh : w.heap[g]? = some o) : g < w.heap.size := by
  rcases Nat.lt_or_ge g w.heap.size with h | h
  · exact h
  · rw [Array.getElem?_eq_none h] at hh; cases hh
theorem ownsRow_below1 {w w' : World} {B size n : Nat} {t : TypeId} {v : Value} {xs : List Value} (h : w.ownsRow B t size v n xs) (hb : Below w.heap.size w w') : w'.ownsRow B t size v n xs := by
  obtain ⟨h1, h2⟩ := h
  refine ⟨h1, ?_⟩
  rcases h2 with h2 | ⟨g, cap, cur, hv, hg, hh, r⟩
  · exact Or.inl h2
  · exact Or.inr ⟨g, cap, cur, hv, hg, by rw [hb.block g (own1_lt hh)]; exact hh, r⟩
theorem Own1.below {t : TypeId} {w w' : World} {B : Nat} {v : Value} {l : List Value} (h : Own1 t w B v l) (hb : Below w.heap.size w w') : Own1 t w' B v l := ⟨ownsRow_below1 h.1 hb, Nat.le_trans h.2 hb.size⟩
theorem Own1.form {t : TypeId} {w : World} {B : Nat} {v : Value} {l : List Value} (h : Own1 t w B v l) : (l = [] ∧ v = .slice none 0 0) ∨ ∃ g cap, v = .slice (some ⟨g, 0, none⟩) l.length cap ∧ l.length ≤ cap ∧ B ≤ g ∧ g < w.heap.size ∧ ∀ (j : Nat) x, l[j]? = some x → w.cell? ⟨g, j, none⟩ = some x := by
  have hc := fun (g : Nat) (hg : v.ownBlock = some g) => h.1.cells hg
  rcases h.1.2 with ⟨hv, hn⟩ | ⟨g, cap, cur, hv, hb, hh, r⟩
  · exact Or.inl ⟨List.length_eq_zero_iff.1 hn, hv⟩
  · refine Or.inr ⟨g, cap, hv, r.1, hb, own1_lt hh, fun j x hx => ?_⟩
    have e := hc g (by rw [hv]; rfl) j x hx
    rw [Addr.add_mid, Nat.zero_add] at e
    exact e
theorem Own1.formN {t : TypeId} {w : World} {B n : Nat} {v : Value} {l : List Value} (h : Own1 t w B v l) (hn : l.length = n) (h0 : 0 < n) : ∃ g cap, v = .slice (some ⟨g, 0, none⟩) n cap ∧ n ≤ cap ∧ B ≤ g ∧ g < w.heap.size ∧ ∀ (j : Nat) x, l[j]? = some x → w.cell? ⟨g, j, none⟩ = some x := by
  rcases h.form with ⟨e, _⟩ | ⟨g, cap, h1, h2, h3⟩
  · rw [e] at hn
    exact absurd hn (by rw [List.length_nil]; omega)
  · rw [hn] at h1 h2
    exact ⟨g, cap, h1, h2, h3⟩
/-- A slice of the call's own, or one whose cells lie somewhere: its length and its cells. -/
theorem wp_app1 {P : Program} {S t : TypeId} {z : Value} {bytes : Nat} (hu : P.underlying S = some (.slice t)) (hin : (P.info? t).map (fun i => (i.zero, i.size, i.bytes)) = some (some z, 1, bytes)) (hz : z.cells.size = 1) (hby : bytes ≤ 100)
    {ops : Array Oper} {rest : List Oper} {o : Oper} {a : Act} {Q : Exit → Act → World → Prop} (w : World) (hgd : o.guard = none) (s x : Operand)
    (ho : o.op = .call { callee := .builtin .append, args := #[s, x], argTypes := #[S, S] })
    (B : Nat) (v : Value) (l : List Value) (C : Array Value) (m c : Nat) (hs : a.eval s = v) (hx : a.eval x = .slice (some ⟨w.heap.size, 0, none⟩) m c) (hm : C.size = m) (hC : ∀ u ∈ C.toList, u.oneCell' = true) (hown : Own1 t w B v l) (hl : l.length ≤ 1000000) (hm2 : m ≤ 1000)
    (h : ∀ v' w', Own1 t w' B v' (l ++ C.toList) → Below B w w' → wpList P ops Q rest (a.put o.dst v') w') : wpList P ops Q (o :: rest) a (w.alloc (.cells C t)) := by
  obtain ⟨i0, hi, hz0, hz1, hz2⟩ := info_parts hin
  have ho' := hown.1.alloc (.cells C t)
  have nw : ∀ j u, C.toList[j]? = some u → (w.alloc (.cells C t)).cell? ((⟨w.heap.size, 0, none⟩ : Addr).add j) = some u := fun j u hj => by
    rw [Addr.add_mid]
    exact rangeAt_new w C.toList t j u hj
  have b1 : Below B w (w.alloc (.cells C t)) := (Below.refl _ _).alloc hown.2 _
  have lc : C.toList.length = m := by rw [Array.length_toList, hm]
  refine wpList_append_own _ hgd s x S ho B t i0 _ 1 bytes hu hi hz0 hz1 hz2 hz (by decide) v l.length l hs ho' ⟨w.heap.size, 0, none⟩ m c C.toList hx (by rw [lc, Nat.mul_one]) nw hC (by unfold maxLen; omega) (Nat.le_trans (Nat.mul_le_mul_left _ hby) (by omega)) (Nat.le_trans hown.2 b1.size) ?_
  intro v' w' h1 h2 _
  have hb : Below B w w' := b1.trans ((Below.refl B _).grown h2 (Nat.le_trans hown.2 b1.size) (fun k hk => (hown.1.lt k hk).1))
  refine h v' w' ⟨?_, Nat.le_trans hown.2 hb.size⟩ hb
  rw [List.length_append, lc]
  exact h1
/-- append of a slice that lies somewhere else. -/
theorem wp_app1_src {P : Program} {S t : TypeId} {z : Value} {bytes : Nat} (hu : P.underlying S = some (.slice t)) (hin : (P.info? t).map (fun i => (i.zero, i.size, i.bytes)) = some (some z, 1, bytes)) (hz : z.cells.size = 1) (hby : bytes ≤ 100)
    {ops : Array Oper} {rest : List Oper} {o : Oper} {a : Act} {Q : Exit → Act → World → Prop} (w : World) (hgd : o.guard = none) (s x : Operand)
    (ho : o.op = .call { callee := .builtin .append, args := #[s, x], argTypes := #[S, S] })
    (B : Nat) (v : Value) (l : List Value) (ad : Addr) (m c : Nat) (news : List Value) (hs : a.eval s = v) (hx : a.eval x = .slice (some ad) m c) (hm : news.length = m) (hnew : ∀ j u, news[j]? = some u → w.cell? (ad.add j) = some u) (hC : ∀ u ∈ news, u.oneCell' = true) (hown : Own1 t w B v l) (hl : l.length ≤ 1000000) (hm2 : m ≤ 1000000)
    (h : ∀ v' w', Own1 t w' B v' (l ++ news) → Below B w w' → wpList P ops Q rest (a.put o.dst v') w') : wpList P ops Q (o :: rest) a w := by
  obtain ⟨i0, hi, hz0, hz1, hz2⟩ := info_parts hin
  refine wpList_append_own _ hgd s x S ho B t i0 _ 1 bytes hu hi hz0 hz1 hz2 hz (by decide) v l.length l hs hown.1 ad m c news hx (by rw [hm, Nat.mul_one]) hnew hC (by unfold maxLen; omega) (Nat.le_trans (Nat.mul_le_mul_left _ hby) (by omega)) hown.2 ?_
  intro v' w' h1 h2 _
  have hb : Below B w w' := (Below.refl B _).grown h2 hown.2 (fun k hk => (hown.1.lt k hk).1)
  refine h v' w' ⟨?_, Nat.le_trans hown.2 hb.size⟩ hb
  rw [List.length_append, hm]
  exact h1
/-- append at a step of a region that draws. -/
theorem step_app1 {P : Program} {S t : TypeId} {z : Value} {bytes : Nat} (hu : P.underlying S = some (.slice t)) (hin : (P.info? t).map (fun i => (i.zero, i.size, i.bytes)) = some (some z, 1, bytes)) (hz : z.cells.size = 1) (hby : bytes ≤ 100)
    {ops : Array Oper} {o : Oper} {a : Act} {K : Act → World → Prop} {Q : Exit → Act → World → Prop} {E : Prop} (w : World) (hgd : o.guard = none) (s x : Operand)
    (ho : o.op = .call { callee := .builtin .append, args := #[s, x], argTypes := #[S, S] })
    (B : Nat) (v : Value) (l : List Value) (C : Array Value) (m c : Nat) (hs : a.eval s = v) (hx : a.eval x = .slice (some ⟨w.heap.size, 0, none⟩) m c) (hm : C.size = m) (hC : ∀ u ∈ C.toList, u.oneCell' = true) (hown : Own1 t w B v l) (hl : l.length ≤ 1000000) (hm2 : m ≤ 1000)
    (h : ∀ v' w', Own1 t w' B v' (l ++ C.toList) → Below B w w' → K (a.put o.dst v') w') : if Region.wanted o (yielded ops a.tmps) = true then Oper.wp P o a (w.alloc (.cells C t)) K Q else E := by
  have hw : Region.wanted o (yielded ops a.tmps) = true := by simp [Region.wanted, hgd]
  rw [if_pos hw]
  obtain ⟨i0, hi, hz0, hz1, hz2⟩ := info_parts hin
  have ho' := hown.1.alloc (.cells C t)
  have nw : ∀ j u, C.toList[j]? = some u → (w.alloc (.cells C t)).cell? ((⟨w.heap.size, 0, none⟩ : Addr).add j) = some u := fun j u hj => by
    rw [Addr.add_mid]
    exact rangeAt_new w C.toList t j u hj
  have b1 : Below B w (w.alloc (.cells C t)) := (Below.refl _ _).alloc hown.2 _
  have lc : C.toList.length = m := by rw [Array.length_toList, hm]
  refine wp_append_own _ s x S ho B t i0 _ 1 bytes hu hi hz0 hz1 hz2 hz (by decide) v l.length l hs ho' ⟨w.heap.size, 0, none⟩ m c C.toList hx (by rw [lc, Nat.mul_one]) nw hC (by unfold maxLen; omega) (Nat.le_trans (Nat.mul_le_mul_left _ hby) (by omega)) (Nat.le_trans hown.2 b1.size) ?_
  intro v' w' h1 h2 _
  have hb : Below B w w' := b1.trans ((Below.refl B _).grown h2 (Nat.le_trans hown.2 b1.size) (fun k hk => (hown.1.lt k hk).1))
  refine h v' w' ⟨?_, Nat.le_trans hown.2 hb.size⟩ hb
  rw [List.length_append, lc]
  exact h1
end Arw
end Go.Proofs.YtafeigpmldgifaaDoor
