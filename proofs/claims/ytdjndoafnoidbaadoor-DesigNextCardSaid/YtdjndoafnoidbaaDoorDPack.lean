/-
  Pack of package desig.
-/
import Derived.Test.YtdjndoafnoidbaaDoorDRText
namespace Go.Proofs.YtdjndoafnoidbaaDoor
namespace Dw
open Go.RowKit Dp Lw

/-- A builder that the call has made in world W0, and what it holds. -/
structure BW (W0 : World) (l : List UInt8) (w' : World) : Prop where
  bld : Lib.IsBuilder 63 5 W0.heap.size W0.heap.size (Lib.byteCells l) w'
  tb : Tb w'
  below : Below W0.heap.size W0 w'
theorem BW.new {W0 : World} (h : Tb W0) : BW W0 [] (W0.alloc (.cells #[.pointer none, .slice none 0 0] 63)) :=
  ⟨Lib.fresh_isBuilder _ _ W0, h.below ((Below.refl _ _).alloc (Nat.le_refl _) _), (Below.refl _ _).alloc (Nat.le_refl _) _⟩
theorem owns_below {B : Nat} {e : TypeId} {k : Nat} {v : Value} {n : Nat} {xs : List Value} {w w' : World} (h : w.ownsRow B e k v n xs) (hb : Below w.heap.size w w') : w'.ownsRow B e k v n xs :=
  h.kept (row := none) ⟨hb.os, hb.tape, hb.output, hb.size, fun j hj _ => hb.block j hj⟩ (by cases h : v.ownBlock <;> simp)
theorem lt_of_get {w : World} {b : Nat} {o : Obj} (h : w.heap[b]? = some o) : b < w.heap.size := (Array.getElem?_eq_some_iff.1 h).1
theorem bat_below {T e : TypeId} {B b : Nat} {p : Value} {bs : List Value} {w w' : World} (h : Lib.BuilderAt T e B b p bs w) (hb : Below w.heap.size w w') : Lib.BuilderAt T e B b p bs w' := by
  obtain ⟨h1, v, h2, h3, h4⟩ := h
  exact ⟨h1, v, by rw [hb.block b (lt_of_get h2)]; exact h2, owns_below h3 hb, h4⟩
theorem BW.call {W0 : World} {l : List UInt8} {a b : World} (h : BW W0 l a) (hb : Below a.heap.size a b) : BW W0 l b :=
  ⟨h.bld.imp (fun x => bat_below x hb) (fun x => bat_below x hb), h.tb.below hb, below_then h.below hb⟩
theorem BW.cell {W0 : World} {l : List UInt8} {a : World} (h : BW W0 l a) (b j : Nat) (v : Value) (hlt : b < W0.heap.size) (hv : W0.cell? ⟨b, j, none⟩ = some v) : a.cell? ⟨b, j, none⟩ = some v :=
  (h.below.cell (p := ⟨b, j, none⟩) hlt).trans hv
theorem BW.write {W0 : World} {l : List UInt8} {a : World} (h : BW W0 l a) (hT : Tb W0) (hl : l.length ≤ 1000) (c : UInt8) :
    Calls Tryd.prog 36 #[.pointer (some ⟨W0.heap.size, 0, none⟩), .int .u8 (c.toNat : Int)] a fun e w' => e = .returned .nilIface ∧ BW W0 (l ++ [c]) w' :=
  (Tryd.Builder_WriteByte W0.heap.size W0.heap.size (Lib.byteCells l) (c.toNat : Int) a h.bld (by rw [Lib.byteCells_length]; omega) h.below.size).mono fun e w' ⟨he, h1, hb⟩ =>
    have hB := h.below.trans hb
    ⟨he, ⟨by rw [Lib.byteCells_append]; exact Or.inr h1, hT.below hB, hB⟩⟩
theorem BW.writes {W0 : World} {l : List UInt8} {a : World} (h : BW W0 l a) (hT : Tb W0) (hl : l.length ≤ 1000) (m : List UInt8) (hm : m.length ≤ 1000) :
    Calls Tryd.prog 37 #[.pointer (some ⟨W0.heap.size, 0, none⟩), .string ⟨m.toArray⟩] a fun e w' => e = .returned (.tuple #[.int .i64 m.length, .nilIface]) ∧ BW W0 (l ++ m) w' :=
  (Tryd.Builder_WriteString W0.heap.size W0.heap.size (Lib.byteCells l) ⟨m.toArray⟩ a h.bld (by rw [Lib.byteCells_length, size_mk]; omega) h.below.size).mono fun e w' ⟨he, h1, hb⟩ =>
    have hB := h.below.trans hb
    ⟨by rw [he, size_mk], ⟨by rw [Lib.byteCells_append]; rw [Lib.strCells_eq] at h1; exact Or.inr h1, hT.below hB, hB⟩⟩
theorem BW.str {W0 : World} {l : List UInt8} {a : World} (h : BW W0 l a) :
    Calls Tryd.prog 39 #[.pointer (some ⟨W0.heap.size, 0, none⟩)] a fun e w' => e = .returned (.string ⟨l.toArray⟩) ∧ Below W0.heap.size W0 w' :=
  (Tryd.Builder_String_any W0.heap.size W0.heap.size l a h.bld h.below.size).mono fun e w' ⟨he, hb⟩ => ⟨he, h.below.trans hb⟩
def PackOk (n y h s c : Int) (w : World) (e : Ending) (w' : World) : Prop := e = .returned (.tuple #[.string ⟨(packG ⟨n, y, h, s, c⟩).toArray⟩, .int .i64 0]) ∧ Below w.heap.size w w'
set_option maxRecDepth 100000 in
set_option maxHeartbeats 4000000 in
theorem pack_no (n y h s c : Int) (w : World) (hT : Tb w) (h0 : 0 ≤ h) (h1 : h < 256) (s0 : 0 ≤ s) (s1 : s < 256) (g : ¬ okD n y h s c) :
    Calls Tryd.prog 18 #[desigV n y h s c] w (TextNo w) := by
  have C := Lib.hid (check_any n y h s c (w.alloc (.cells (desigC n y h s c).toArray 23)) (hT.ord.alloc _) h0 h1 s0 s1)
  rw [errC_no g] at C
  have r1 := rangeAt_new w (desigC n y h s c) 23
  have hb0 : Below w.heap.size w (w.alloc (.cells (desigC n y h s c).toArray 23)) := (Below.refl w.heap.size w).alloc (Nat.le_refl _) _
  clear g hT
  go_enter Tryd.func18, Tryd.ntmps18
  go_wp2_with (refine wpList_load_mid rfl _ (.tmp 1) rfl w.heap.size 0 rfl (desigC n y h s c) _ r1 Tryd.underlying23 rfl info5d ?_)
  go_at_call 24
  refine C.out.mono ?_
  rintro e w1 ⟨rfl, hb1⟩
  have hB := below_then hb0 hb1
  clear C r1 hb0 hb1
  go_wp2_with fail
  go_ret2
  exact ⟨rfl, hB⟩
theorem idx_litI (i : Int) (h0 : 0 ≤ i) (h1 : i < 62) (w : World) : (Instr.index 9 (.string ⟨#[48, 49, 50, 51, 52, 53, 54, 55, 56, 57, 65, 66, 67, 68, 69, 70, 71, 72, 73, 74, 75, 76, 77, 78, 79, 80, 81, 82, 83, 84, 85, 86, 87, 88, 89, 90, 97, 98, 99, 100, 101, 102, 103, 104, 105, 106, 107, 108, 109, 110, 111, 112, 113, 114, 115, 116, 117, 118, 119, 120, 121, 122]⟩) (.int .i64 i)).run Tryd.prog w = .ok (.int .u8 ((dig62 i.toNat).toNat : Int)) w := by
  obtain ⟨k, rfl⟩ := Int.eq_ofNat_of_zero_le h0
  rw [Int.toNat_natCast]
  exact idx_lit k (by omega) w
theorem packG_big (m y h s c : Int) (h0 : 0 ≤ m) (h1 : m ≤ 14776335) : packG ⟨m + 620000, y, h, s, c⟩ = [126, dig62 (m / 62 / 62 / 62).toNat, dig62 (m / 62 / 62 % 62).toNat, dig62 (m / 62 % 62).toNat, dig62 (m % 62).toNat] := by
  obtain ⟨k, rfl⟩ := Int.eq_ofNat_of_zero_le h0
  have hl : lessL ((k : Int) + 620000) = k := by unfold lessL; omega
  have hp : packG ⟨(k : Int) + 620000, y, h, s, c⟩ = bigL (lessL ((k : Int) + 620000)) := if_pos (by show 620000 ≤ (k : Int) + 620000; omega)
  rw [hp, hl]
  unfold bigL
  rw [show ((k : Int) / 62 / 62 / 62).toNat = k / 238328 by omega, show ((k : Int) / 62 / 62 % 62).toNat = k / 3844 % 62 by omega, show ((k : Int) / 62 % 62).toNat = k / 62 % 62 by omega, show ((k : Int) % 62).toNat = k % 62 by omega]
set_option maxRecDepth 100000 in
set_option maxHeartbeats 8000000 in
theorem pack_big (m y h s c : Int) (w : World) (hT : Tb w) (h0 : 0 ≤ h) (h1 : h < 256) (s0 : 0 ≤ s) (s1 : s < 256) (g : okD (m + 620000) y h s c) (hm : 0 ≤ m) :
    Calls Tryd.prog 18 #[desigV (m + 620000) y h s c] w (PackOk (m + 620000) y h s c w) := by
  have C := Lib.hid (check_any (m + 620000) y h s c (w.alloc (.cells (desigC (m + 620000) y h s c).toArray 23)) (hT.ord.alloc _) h0 h1 s0 s1)
  rw [errC_ok g] at C
  have hbd := (okD_bd g).2
  have m1 : m ≤ 14776335 := by omega
  have F := Lib.hid (packG_big m y h s c hm m1)
  have r1 := rangeAt_new w (desigC (m + 620000) y h s c) 23
  have hts := TS.box hT (.cells (desigC (m + 620000) y h s c).toArray 23)
  have x1 := fun w => idx_litI (m / 62 / 62 / 62) (by omega) (by omega) w
  have x2 := fun w => idx_litI (m / 62 / 62 % 62) (by omega) (by omega) w
  have x3 := fun w => idx_litI (m / 62 % 62) (by omega) (by omega) w
  have x4 := fun w => idx_litI (m % 62) (by omega) (by omega) w
  have e1 : m + 620000 - 620000 = m := by omega
  have e2 : (620000 : Int) ≤ m + 620000 := by omega
  clear g hT hbd
  go_enter Tryd.func18, Tryd.ntmps18
  go_wp2_with (refine wpList_load_mid rfl _ (.tmp 1) rfl w.heap.size 0 rfl (desigC (m + 620000) y h s c) _ r1 Tryd.underlying23 rfl info5d ?_)
  go_at_call 24
  refine C.out.mono ?_
  rintro e w1 ⟨rfl, hb1⟩
  have ht1 := hts.call hb1
  have k0 : w1.cell? ⟨w.heap.size, 0, none⟩ = some (.int .i64 (m + 620000)) := rangeAt_below r1 hb1 (by simp) 0 _ rfl
  clear C r1 hts hb1
  have b0 := BW.new ht1.tab
  have T1 := Lib.hid ht1.tab
  have lt1 := ht1.lt
  have B0 := Lib.hid ht1.below
  clear ht1
  go_wp2_with fail
  refine (b0.write T1.out (by simp) 126).mono ?_
  rintro e w2 ⟨rfl, b1⟩
  clear b0
  go_wp2_with fail
  refine (b1.write T1.out (by simp) _).mono ?_
  rintro e w3 ⟨rfl, b2⟩
  clear b1
  go_wp2_with fail
  refine (b2.write T1.out (by simp) _).mono ?_
  rintro e w4 ⟨rfl, b3⟩
  clear b2
  go_wp2_with fail
  refine (b3.write T1.out (by simp) _).mono ?_
  rintro e w5 ⟨rfl, b4⟩
  clear b3
  go_wp2_with fail
  refine (b4.write T1.out (by simp) _).mono ?_
  rintro e w6 ⟨rfl, b5⟩
  clear b4
  go_wp2_with fail
  refine b5.str.mono ?_
  rintro e w7 ⟨rfl, hb⟩
  clear b5
  go_wp2_with fail
  go_ret2
  exact ⟨by rw [F.out]; rfl, below_then B0.out hb⟩
end Dw
end Go.Proofs.YtdjndoafnoidbaaDoor
