/-
  The chapter's examples: alive returns true.
-/
import Derived.Test.YtmafjoboikbnnaaDoorTDeg
import Derived.Test.YtmafjoboikbnnaaDoorPRa
import Derived.Test.YtmafjoboikbnnaaDoorPDeg
namespace Go.Proofs.YtmafjoboikbnnaaDoor
namespace At
open Go.RowKit Lw Ap

instance (s : ByteArray) : Decidable (shapeP s) := by unfold shapeP; infer_instance
instance (s : ByteArray) : Decidable (validP s) := by unfold validP; infer_instance
instance (t : ByteArray) (p : Nat) : Decidable (formP t p) := by unfold formP; infer_instance
instance (neg : Bool) (D F : Int) : Decidable (numP neg D F) := by unfold numP; infer_instance
instance (s : ByteArray) : Decidable (signP s) := by unfold signP; infer_instance
instance (s : ByteArray) : Decidable (decOk s) := by unfold decOk; infer_instance
instance (s : ByteArray) (v e : Int) : Decidable (RaIs s v e) := by unfold RaIs; infer_instance
instance (s : ByteArray) (v e : Int) : Decidable (DecIs s v e) := by unfold DecIs; infer_instance
instance (neg : Bool) (t : ByteArray) (p : Nat) (v e : Int) : Decidable (DegT neg t p v e) := by unfold DegT; infer_instance

theorem itoa_one (n : Nat) (h : n < 10) : Lib.itoa (n : Int) = [UInt8.ofNat (48 + n)] := by
  unfold Lib.itoa
  rw [if_neg (by omega), Int.toNat_natCast, Lib.decDigits_one h]
theorem itoa_two (n : Nat) (h1 : ¬ n < 10) (h : n < 100) : Lib.itoa (n : Int) = [UInt8.ofNat (48 + n / 10), UInt8.ofNat (48 + n % 10)] := by
  unfold Lib.itoa
  rw [if_neg (by omega), Int.toNat_natCast, Lib.decDigits_two h1 h]
theorem itoa_three (n : Nat) (h1 : ¬ n < 100) (h : n < 1000) : Lib.itoa (n : Int) = [UInt8.ofNat (48 + n / 10 / 10), UInt8.ofNat (48 + n / 10 % 10), UInt8.ofNat (48 + n % 10)] := by
  unfold Lib.itoa
  rw [if_neg (by omega), Int.toNat_natCast, Lib.decDigits, dif_neg (by omega), Lib.decDigits_two (by omega) (by omega)]
  rfl
theorem i0 : Lib.itoa 0 = [48] := itoa_one 0 (by omega)
theorem i1 : Lib.itoa 1 = [49] := itoa_one 1 (by omega)
theorem i90 : Lib.itoa 90 = [57, 48] := itoa_two 90 (by omega) (by omega)
theorem i500 : Lib.itoa 500 = [53, 48, 48] := itoa_three 500 (by omega) (by omega)
theorem pad0 (d : Nat) : padL 0 d = Lib.repeatL [48] (d - 1) ++ [48] := by unfold padL; rw [i0]; rfl
theorem pad1 (d : Nat) : padL 1 d = Lib.repeatL [48] (d - 1) ++ [49] := by unfold padL; rw [i1]; rfl
theorem pad90 : padL 90 2 = [57, 48] := by unfold padL; rw [i90]; rfl
theorem pad500 : padL 500 3 = [53, 48, 48] := by unfold padL; rw [i500]; rfl
theorem p02 : padL 0 2 = [48, 48] := by rw [pad0]; rfl
theorem p12 : padL 1 2 = [48, 49] := by rw [pad1]; rfl
theorem g000 : glueL 0 0 0 = [48, 48, 32, 48, 48, 32, 48, 48] := by unfold glueL; rw [p02]; rfl
theorem g001 : glueL 0 0 1 = [48, 48, 32, 48, 48, 32, 48, 49] := by unfold glueL; rw [p02, p12]; rfl
theorem ra_1 : raL 15000000 2 = [48, 48, 32, 48, 48, 32, 48, 49, 46, 48, 48] := by
  have e : rndN ((15000000 : Int) % 1296000000000).toNat (15000000 / 10 ^ 2) % (86400 * 10 ^ 2) = 100 := by decide
  unfold raL
  rw [e]
  show glueL 0 0 1 ++ (46 :: padL 0 2) = _
  rw [g001, p02]; rfl
theorem dec_1 : decL (-1) 0 = [45, 48, 48, 32, 48, 48, 32, 48, 48] := by
  have e : rndN ((-1 : Int)).natAbs (1000000 / 10 ^ 0) = 0 := by decide
  unfold decL
  rw [e]
  show 45 :: (glueL 0 0 0 ++ []) = _
  rw [g000]; rfl
theorem deg_1 : degL 1800000000 3 = [48, 46, 53, 48, 48] := by
  have e : degN ((1800000000 : Int)).natAbs 3 = 500 := by decide
  unfold degL
  rw [e, if_neg (by omega)]
  show Lib.itoa 0 ++ 46 :: padL 500 3 = _
  rw [i0, pad500]; rfl

set_option maxRecDepth 100000 in
theorem text_eq (s : ByteArray) (w : World) : Calls Tryd.prog 20 #[.string s, .int .i64 0, .string s] w fun e w' => e = .returned (.bool true) ∧ w = w' := by
  go_enter Tryd.func20, Tryd.ntmps20
  go_wp2
  go_ret
  exact ⟨rfl, rfl⟩
set_option maxRecDepth 100000 in
theorem number_eq (n : Int) (w : World) : Calls Tryd.prog 21 #[.int .i64 n, .int .i64 0, .int .i64 n] w fun e w' => e = .returned (.bool true) ∧ w = w' := by
  go_enter Tryd.func21, Tryd.ntmps21
  go_wp2
  go_ret
  exact ⟨rfl, rfl⟩
/-- What the calls need of memory: the table, and the library's cell. -/
structure AS (m : Int) (w w' : World) : Prop where
  ts : TS w w'
  cell : w'.cell? ⟨0, 0, none⟩ = some (.int .i64 m)
theorem AS.call {m : Int} {w a b : World} (h : AS m w a) (hb : Below a.heap.size a b) : AS m w b :=
  ⟨h.ts.call hb, (hb.cell (p := ⟨0, 0, none⟩) (World.block_lt_of_cell? a _ h.cell)).trans h.cell⟩
theorem AS.start {m : Int} {w : World} (hT : Tab w) (hm : w.cell? ⟨0, 0, none⟩ = some (.int .i64 m)) : AS m w w := ⟨⟨hT, Below.refl _ _⟩, hm⟩
/-- A text of a right ascension that is written down. -/
theorem ra_lit (s : ByteArray) (v c : Int) (h : RaIs s v c) (hs : s.size ≤ 1000) (w : World) :
    Calls Tryd.prog 7 #[.string s] w fun e w' => e = .returned (.tuple #[.int .i64 v, .int .i64 c]) ∧ Below w.heap.size w w' := by
  refine (ra_any s w hs).mono ?_
  rintro e w' ⟨v', c', rfl, g, hb⟩
  obtain ⟨rfl, rfl⟩ := g.det h
  exact ⟨rfl, hb⟩
theorem dec_lit (s : ByteArray) (v c : Int) (h : DecIs s v c) (hs : s.size ≤ 1000) (w : World) :
    Calls Tryd.prog 9 #[.string s] w fun e w' => e = .returned (.tuple #[.int .i64 v, .int .i64 c]) ∧ Below w.heap.size w w' := by
  refine (dec_any s w hs).mono ?_
  rintro e w' ⟨v', c', rfl, g, hb⟩
  obtain ⟨rfl, rfl⟩ := g.det h
  exact ⟨rfl, hb⟩
theorem deg_lit (s : ByteArray) (v c : Int) (h : DegT (negB s) (bodyOf s) (ptOf (bodyOf s)) v c) (hs : s.size ≤ 100) (m : Int) (w : World) (hm : w.cell? ⟨0, 0, none⟩ = some (.int .i64 m)) :
    Calls Tryd.prog 11 #[.string s] w fun e w' => e = .returned (.tuple #[.int .i64 v, .int .i64 c]) ∧ Below w.heap.size w w' := by
  refine (deg_any s w m hm hs).mono ?_
  rintro e w' ⟨v', c', rfl, g, hb⟩
  obtain ⟨rfl, rfl⟩ := g.det h
  exact ⟨rfl, hb⟩

abbrev sRa : ByteArray := ⟨#[50, 51, 32, 53, 57, 32, 53, 57, 46, 57, 57, 57, 57, 57, 57]⟩
abbrev sDeg : ByteArray := ⟨#[45, 48, 46, 48, 48, 48, 48, 48, 48, 48, 48, 49]⟩
theorem ra_2 : RaIs sRa 1295999999985 0 := by decide +kernel
theorem deg_2 : DegT (negB sDeg) (bodyOf sDeg) (ptOf (bodyOf sDeg)) (-4) 0 := by decide +kernel

set_option maxRecDepth 100000 in
set_option maxHeartbeats 4000000 in
theorem alive_any (m : Int) (w : World) (hT : Tab w) (hm : w.cell? ⟨0, 0, none⟩ = some (.int .i64 m)) :
    Calls Tryd.prog 13 #[] w fun e w' => e = .returned (.bool true) ∧ Below w.heap.size w w' := by
  have A0 := Lib.hid (AS.start hT hm)
  clear hT hm
  go_enter Tryd.func13, Tryd.ntmps13
  go_wp2_with fail
  go_at_call 16
  refine (ratext_any 15000000 2 _ A0.out.ts.tab (by omega) (by omega) (by omega)).mono ?_
  rintro e w1 ⟨rfl, b1⟩
  rw [ra_1]
  have A1 := Lib.hid (A0.out.call b1)
  clear A0 b1
  go_wp2_with fail
  go_at_call 7
  refine (ra_lit sRa _ _ ra_2 (by decide) _).mono ?_
  rintro e w2 ⟨rfl, b2⟩
  have A2 := Lib.hid (A1.out.call b2)
  clear A1 b2
  go_wp2_with fail
  go_at_call 17
  refine (dectext_any (-1) 0 _ A2.out.ts.tab (by omega) (by omega) (by omega)).mono ?_
  rintro e w3 ⟨rfl, b3⟩
  rw [dec_1]
  have A3 := Lib.hid (A2.out.call b3)
  clear A2 b3
  go_wp2_with fail
  go_at_call 18
  refine (degtext_any 1800000000 3 _ A3.out.ts.tab (by omega) (by omega) (by omega) (by omega)).mono ?_
  rintro e w4 ⟨rfl, b4⟩
  rw [deg_1]
  have A4 := Lib.hid (A3.out.call b4)
  clear A3 b4
  go_wp2_with fail
  go_at_call 11
  refine (deg_lit sDeg _ _ deg_2 (by decide) m _ A4.out.cell).mono ?_
  rintro e w5 ⟨rfl, b5⟩
  have A5 := Lib.hid (A4.out.call b5)
  clear A4 b5
  have dz : Pl.dif 0 648000000000 = 648000000000 := by decide
  go_wp2_with (first | (go_at_call 20; refine (text_eq _ _).mono ?_; rintro e w' ⟨rfl, rfl⟩) | (go_at_call 21; refine (number_eq _ _).mono ?_; rintro e w' ⟨rfl, rfl⟩) | (go_at_call 15; refine (Turns.diff_any _ _ _ (by decide) (by decide) (by decide) (by decide)).mono ?_; rintro e w' ⟨rfl, rfl⟩))
  go_ret
  exact ⟨by first | rfl | decide, A5.out.ts.below⟩
end At
end Go.Proofs.YtmafjoboikbnnaaDoor
