/-
  Lemmas and walks, texts joined: TTurn, TRa, OMag, BPl, OLine, OPut, OLine2, OSeg, OGood, OName, OCand, MRDay, OPrint, PRa, OParse, OParse2, OGood2, OAny, OAllPl, OGreat, OBox, ORCheck, OAllW, ORLine, ORCut, MRParse, ORRead, OPrAll, OApp, OSame, TKPl, TKFr, TKNum, TKRul, TKPl2.
-/
import Derived.WalkKit
import Derived.ProofKit
import Derived.Outline
import Derived.Lib.Hide
import Derived.Deep.QuietTactic
import Derived.BigQuiet
import Derived.WalkLawsBesides
import Derived.WalkSpells
import Derived.Laws.IdiomCopy
import Derived.Laws.DeepBits32
import Derived.RegionTactic
import Derived.BigRegion
import Derived.StillTailTactics
import Derived.LoopTactic
import Derived.Deep.RegionHeld3
import Derived.Deep.MidRow
import Derived.Deep.DeepCutAuto
import Derived.IntWalk
import Derived.OwnWalk
import Derived.Laws.AppendOwnNone
import Derived.Shelf.Spec.BitsCarry
import Derived.Test.YtjgcbeihgeaimaaGreatDoorRows
import Derived.Test.YtjgcbeihgeaimaaGreatDoorTa02
import Derived.Test.YtjgcbeihgeaimaaGreatDoorTa01
set_option linter.unusedSimpArgs false
set_option linter.unusedVariables false
/-
  Norm and Diff of package angle, Norm of the reference.
-/
namespace Go.Proofs.YtjgcbeihgeaimaaGreatDoor
namespace Turns
open Go.RowKit

open Pl
set_option maxHeartbeats 400000 in
theorem norm_any (a : Int) (w : World) (h0 : -9223372036854775808 ≤ a) (h1 : a ≤ 9223372036854775807) :
    Calls Tryz.prog 84 #[.int .i64 a] w fun e w' => e = .returned (.int .i64 (a % 1296000000000)) ∧ w = w' := by
  have hf := Pl.tmod_fix a 1296000000000 (by omega)
  obtain ⟨hb1, hb2⟩ := Pl.tmod_bd a 1296000000000 (by omega)
  by_cases hc : a.tmod 1296000000000 < 0
  · rw [if_pos hc] at hf
    have Hf := Lib.hid hf
    clear hf
    go_enter Tryz.func84, Tryz.ntmps84
    go_wp2
    go_ret
    exact ⟨ret_int Hf.out, rfl⟩
  · rw [if_neg hc] at hf
    have Hf := Lib.hid hf
    clear hf
    go_enter Tryz.func84, Tryz.ntmps84
    go_wp2
    go_ret
    exact ⟨ret_int Hf.out, rfl⟩

set_option maxHeartbeats 400000 in
theorem rnorm_any (a : Int) (w : World) (h0 : -9223372036854775808 ≤ a) (h1 : a ≤ 9223372036854775807) :
    Calls Tryz.prog 90 #[.int .i64 a] w fun e w' => e = .returned (.int .i64 (a % 1296000000000)) ∧ w = w' := by
  have hf := Pl.tmod_fix a 1296000000000 (by omega)
  obtain ⟨hb1, hb2⟩ := Pl.tmod_bd a 1296000000000 (by omega)
  by_cases hc : a.tmod 1296000000000 < 0
  · rw [if_pos hc] at hf
    have Hf := Lib.hid hf
    clear hf
    go_enter Tryz.func90, Tryz.ntmps90
    go_wp2
    go_ret
    exact ⟨ret_int Hf.out, rfl⟩
  · rw [if_neg hc] at hf
    have Hf := Lib.hid hf
    clear hf
    go_enter Tryz.func90, Tryz.ntmps90
    go_wp2
    go_ret
    exact ⟨ret_int Hf.out, rfl⟩

set_option maxHeartbeats 400000 in
theorem diff_any (a b : Int) (w : World) (h0 : -9223372036854775808 ≤ a) (h1 : a ≤ 9223372036854775807) (h2 : -9223372036854775808 ≤ b) (h3 : b ≤ 9223372036854775807) :
    Calls Tryz.prog 52 #[.int .i64 a, .int .i64 b] w fun e w' => e = .returned (.int .i64 (dif a b)) ∧ w = w' := by
  have g := sub_nrm a b
  have Hg := Lib.hid g
  clear g
  go_enter Tryz.func52, Tryz.ntmps52
  go_wp2_with (go_at_call 84; refine (norm_any _ _ (by omega) (by omega)).mono ?_; rintro e w' ⟨rfl, rfl⟩)
  all_goals
    go_ret
    refine ⟨ret_int ?_, rfl⟩
    rw [Hg.out] at *
    unfold dif
    first | rw [if_pos (by omega)] | rw [if_neg (by omega)]

end Turns
end Go.Proofs.YtjgcbeihgeaimaaGreatDoor
/-
  Texts of angles: RaText, DecText and DegText of package angle.
-/
namespace Go.Proofs.YtjgcbeihgeaimaaGreatDoor
namespace Gt
open Go.RowKit Lw Gp

/-- The parts of an angle, rounded. -/
def rndN (a u : Nat) : Nat := (rndI a u).toNat
theorem rndN_eq (a u : Nat) : ((rndN a u : Nat) : Int) = rndI a u := by
  have : 0 ≤ rndI a u := by
    unfold rndI
    have : (0 : Int) ≤ (a : Int) / u := Int.ediv_nonneg (by omega) (by omega)
    split <;> omega
  unfold rndN
  omega
/-- The text of a right ascension: so many digits. -/
def raL (a : Int) (d : Nat) : List UInt8 := clockL (rndN (a % 1296000000000).toNat (15000000 / 10 ^ d) % (86400 * 10 ^ d)) d
/-- The text of a declination. -/
def decL (a : Int) (d : Nat) : List UInt8 := (if a < 0 then 45 else 43) :: clockL (rndN a.natAbs (1000000 / 10 ^ d)) d
end Gt
end Go.Proofs.YtjgcbeihgeaimaaGreatDoor
/-
  The walk of magText of package obs.
-/
namespace Go.Proofs.YtjgcbeihgeaimaaGreatDoor
namespace Ow
open Go.RowKit Lw Go.Proofs.YtjgcbeihgeaimaaGreatDoor.Ap Go.Proofs.YtjgcbeihgeaimaaGreatDoor.Op Go.Proofs.YtjgcbeihgeaimaaGreatDoor.Mp Go.Proofs.YtjgcbeihgeaimaaGreatDoor.Mw Go.Proofs.YtjgcbeihgeaimaaGreatDoor.At

theorem itoa_dg (n : Nat) (h : n < 10) : Lib.itoa (n : Int) = [dg n] := by
  unfold Lib.itoa
  rw [if_neg (by omega), Int.toNat_natCast, Lib.decDigits_one h]
  rfl
end Ow
end Go.Proofs.YtjgcbeihgeaimaaGreatDoor
/-
  A text of digits is read as its number.
-/
namespace Go.Proofs.YtjgcbeihgeaimaaGreatDoor
namespace Gt
open Go.RowKit Lw Gp

theorem u8_of (n : Nat) (h : n < 10) : (((UInt8.ofNat (48 + n)).toNat : Nat) : Int) = 48 + n := by
  rw [UInt8.toNat_ofNat']
  omega
theorem dd_num (u : Nat) : numL (Lib.decDigits u) = u ∧ allD (Lib.decDigits u) := by
  induction u using Nat.strongRecOn with
  | _ u ih =>
    by_cases h : u < 10
    · rw [Lib.decDigits_one h]
      have e := u8_of u h
      refine ⟨by unfold numL; simp only [List.foldl_cons, List.foldl_nil]; omega, fun c hc => ?_⟩
      rw [List.mem_singleton.1 hc]
      omega
    · rw [Lib.decDigits, dif_neg h]
      obtain ⟨h1, h2⟩ := ih (u / 10) (by omega)
      have e := u8_of (u % 10) (Nat.mod_lt _ (by omega))
      exact ⟨by rw [numL_snoc, h1]; omega, allD_snoc h2 (by omega) (by omega)⟩
theorem itoa_num (r : Nat) : numL (Lib.itoa (r : Int)) = r ∧ allD (Lib.itoa (r : Int)) := by
  unfold Lib.itoa
  rw [if_neg (by omega), Int.toNat_natCast]
  exact dd_num r
theorem rep_num (k : Nat) : numL (Lib.repeatL [48] k) = 0 ∧ allD (Lib.repeatL [48] k) := by
  induction k with
  | zero => exact ⟨rfl, fun c hc => by simp [Lib.repeatL] at hc⟩
  | succ k ih =>
    have e : Lib.repeatL [48] (k + 1) = 48 :: Lib.repeatL [48] k := rfl
    rw [e]
    refine ⟨?_, fun c hc => ?_⟩
    · have := ih.1
      unfold numL at this ⊢
      rw [List.foldl_cons]
      exact this
    · rcases List.mem_cons.1 hc with rfl | g
      · decide
      · exact ih.2 c g
theorem pad_num (r d : Nat) : numV (padL (r : Int) d) = r := by
  have h1 := itoa_num r
  have h2 := rep_num (d - (Lib.itoa (r : Int)).length)
  have hA : allD (padL (r : Int) d) := fun c hc => by
    rcases List.mem_append.1 hc with g | g
    · exact h2.2 c g
    · exact h1.2 c g
  unfold numV
  rw [if_pos hA]
  unfold padL numL
  rw [List.foldl_append]
  have e2 := h2.1
  have e1 := h1.1
  unfold numL at e1 e2
  rw [e2, e1]
theorem nd_le : ∀ (d r : Nat), r < 10 ^ (d + 1) → Lib.nDigits r ≤ d + 1
  | 0, r, h => by rw [Lib.nDigits_small (by simpa using h)]; exact Nat.le_refl _
  | d + 1, r, h => by
    by_cases g : r < 10
    · rw [Lib.nDigits_small g]; omega
    · rw [Lib.nDigits_big g]
      have := nd_le d (r / 10) (by rw [Nat.pow_succ] at h; omega)
      omega
theorem pad_size (r d : Nat) (hd : 1 ≤ d) (h : r < 10 ^ d) : (padL (r : Int) d).length = d := by
  obtain ⟨k, rfl⟩ : ∃ k, d = k + 1 := ⟨d - 1, by omega⟩
  have h1 := nd_le k r h
  have hl : (Lib.itoa (r : Int)).length = Lib.nDigits r := by
    unfold Lib.itoa
    rw [if_neg (by omega), Int.toNat_natCast, Lib.decDigits_length]
  unfold padL
  rw [List.length_append, rep_len, hl]
  omega
end Gt
end Go.Proofs.YtjgcbeihgeaimaaGreatDoor
/-
  Plain law of observations: the line of an observation is read as the rounded observation; no walk here.
-/
namespace Go.Proofs.YtjgcbeihgeaimaaGreatDoor
namespace Op
open Go.RowKit Lw Go.Proofs.YtjgcbeihgeaimaaGreatDoor.Ap Go.Proofs.YtjgcbeihgeaimaaGreatDoor.Mp Go.Proofs.YtjgcbeihgeaimaaGreatDoor.At

/-- A line: the day's text is handed over. -/
def lineL (day : ByteArray) (o : Ob) : List UInt8 := nameF o.name ++ (67 :: (day.data.toList ++ (Gt.raL o.ra 3 ++ (Gt.decL o.dec 2 ++ (spL 9 ++ (magF o.mag o.band ++ (spL 6 ++ o.site.data.toList)))))))
/-- What Print returns. -/
def PrintIs (o : Ob) (s : ByteArray) (c : Int) : Prop := (okO o ∧ (∃ day, DayIs o.t 6 day 0 ∧ s = ⟨(lineL day o).toArray⟩) ∧ c = 0) ∨ (¬ okO o ∧ s = ByteArray.empty ∧ c = 8)
theorem PrintIs.uniq {o : Ob} {s s' : ByteArray} {c c' : Int} (a : PrintIs o s c) (b : PrintIs o s' c') : s = s' ∧ c = c' := by
  rcases a with ⟨a1, ⟨d, a2, a3⟩, a4⟩ | ⟨a1, a2, a3⟩ <;> rcases b with ⟨b1, ⟨d', b2, b3⟩, b4⟩ | ⟨b1, b2, b3⟩
  · obtain ⟨rfl, _⟩ := a2.uniq b2
    exact ⟨by rw [a3, b3], by omega⟩
  · exact absurd a1 b1
  · exact absurd b1 a1
  · exact ⟨by rw [a2, b2], by omega⟩
theorem ext_seg {s : ByteArray} {A B C : List UInt8} {i j : Nat} (h : s.data.toList = A ++ (B ++ C)) (hi : A.length = i) (hj : i + B.length = j) : s.extract i j = ⟨B.toArray⟩ := by
  have sz : s.size = A.length + (B.length + C.length) := by have := congrArg List.length h; simpa using this
  apply toL_inj
  rw [ext_L s i j (by omega), h, ← hi, List.drop_left, show j - A.length = B.length by omega, List.take_left]
theorem bt_seg {s : ByteArray} {A C : List UInt8} {c : UInt8} {i : Nat} (h : s.data.toList = A ++ (c :: C)) (hi : A.length = i) : bt s i = (c.toNat : Int) := by
  have sz : s.size = A.length + (1 + C.length) := by have := congrArg List.length h; simp at this; omega
  rw [bt_L s i (by omega), h, ← hi, List.getD_eq_getElem?_getD, List.getElem?_append_right (Nat.le_refl _), Nat.sub_self]
  rfl
theorem cut_id {l : List UInt8} {c : UInt8} (h : c ≠ 32) : cutL (l ++ [c]) = l ++ [c] := by
  unfold cutL
  rw [List.reverse_append, List.reverse_singleton, List.singleton_append, List.dropWhile_cons_of_neg (by simpa using h), List.reverse_cons, List.reverse_reverse]
theorem spL_len (n : Nat) : (spL n).length = n := List.length_replicate
theorem dec_of_pad {r d : Nat} (hd : 1 ≤ d) (h : r < 10 ^ d) : Gt.padL (r : Int) d = decL r d := pad_dec r d hd h
/-- A clock of two digits each. -/
theorem clock_dec {n d : Nat} (hd : 1 ≤ d) (h : n / 10 ^ d < 360000) : Gt.clockL n d = decL (n / 10 ^ d / 3600) 2 ++ ([32] ++ (decL (n / 10 ^ d / 60 % 60) 2 ++ ([32] ++ (decL (n / 10 ^ d % 60) 2 ++ (46 :: decL (n % 10 ^ d) d))))) := by
  unfold Gt.clockL Gt.glueL
  rw [if_pos (by omega), dec_of_pad (by omega) (by omega), dec_of_pad (by omega) (by omega), dec_of_pad (by omega) (by omega), dec_of_pad hd (Nat.mod_lt _ (Nat.pow_pos (by omega)))]
  simp only [List.append_assoc]
end Op
end Go.Proofs.YtjgcbeihgeaimaaGreatDoor
/-
  The walk of the closure of Print of package obs: bytes are put into the line.
-/
namespace Go.Proofs.YtjgcbeihgeaimaaGreatDoor
namespace Ow
open Go.RowKit Lw Go.Proofs.YtjgcbeihgeaimaaGreatDoor.Ap Go.Proofs.YtjgcbeihgeaimaaGreatDoor.Op Go.Proofs.YtjgcbeihgeaimaaGreatDoor.Mp Go.Proofs.YtjgcbeihgeaimaaGreatDoor.Mw Go.Proofs.YtjgcbeihgeaimaaGreatDoor.At

def bytesV (l : List UInt8) : List Value := l.map (fun b => .int .u8 (b.toNat : Int))
theorem bytesV_len (l : List UInt8) : (bytesV l).length = l.length := List.length_map _
theorem size_L (s : ByteArray) : s.size = s.data.toList.length := (Array.length_toList (xs := s.data)).symm
theorem below_sets {B : Nat} {a : World} (b : Nat) (hb : B ≤ b) : ∀ (vs : List Value) (o : Nat) {w : World}, Below B a w → Below B a (w.setCells b o vs)
  | [], _, _, h => h
  | v :: r, o, _, h => below_sets b hb r (o + 1) (h.setCell (p := ⟨b, o, none⟩) hb v)
theorem sets_size (b : Nat) : ∀ (vs : List Value) (o : Nat) (w : World), (w.setCells b o vs).heap.size = w.heap.size
  | [], _, _ => rfl
  | v :: r, o, w => by rw [World.setCells, sets_size b r (o + 1)]; simp
/-- An observation in its box; a line of eighty bytes; the variable that holds the line. -/
structure PX (w0 : World) (b : Nat) (o : Ob) (g p c : Nat) (L : List UInt8) (w : World) : Prop where
  ox : OX w0 b o w
  hb : b < g
  hg : w0.heap.size ≤ g
  hp : g < p
  lt : p < w.heap.size
  var : w.rangeAt p 0 [.slice (some ⟨g, 0, none⟩) 80 c]
  len : L.length = 80
  row : w.rangeAt g 0 (bytesV L)
  free : w.there g 0 80
theorem PX.call {w0 w w' : World} {b g p c : Nat} {o : Ob} {L : List UInt8} (h : PX w0 b o g p c L w) (hb : Below w.heap.size w w') : PX w0 b o g p c L w' :=
  ⟨h.ox.call hb, h.hb, h.hg, h.hp, Nat.lt_of_lt_of_le h.lt hb.size, rangeAt_below h.var hb h.lt, h.len, rangeAt_below h.row hb (Nat.lt_trans h.hp h.lt), there_below h.free hb (Nat.lt_trans h.hp h.lt)⟩
/-- Bytes put into a line. -/
def wput (L : List UInt8) (k : Nat) (s : List UInt8) : List UInt8 := L.take k ++ (s ++ L.drop (k + s.length))
theorem wput_len {L : List UInt8} {k : Nat} {s : List UInt8} (h : k + s.length ≤ L.length) : (wput L k s).length = L.length := by
  unfold wput; simp; omega
theorem wput_in {L : List UInt8} {k : Nat} {s : List UInt8} (h : k + s.length ≤ L.length) (j : Nat) (hj : j < s.length) : (wput L k s)[k + j]? = s[j]? := by
  unfold wput
  rw [List.getElem?_append_right (by simp; omega), List.length_take, Nat.min_eq_left (by omega), Nat.add_sub_cancel_left, List.getElem?_append_left hj]
theorem wput_lo {L : List UInt8} {k : Nat} {s : List UInt8} (h : k + s.length ≤ L.length) (j : Nat) (hj : j < k) : (wput L k s)[j]? = L[j]? := by
  unfold wput
  rw [List.getElem?_append_left (by simp; omega), List.getElem?_take_of_lt hj]
theorem wput_hi {L : List UInt8} {k : Nat} {s : List UInt8} (h : k + s.length ≤ L.length) (j : Nat) (hj : k + s.length ≤ j) : (wput L k s)[j]? = L[j]? := by
  unfold wput
  rw [List.getElem?_append_right (by simp; omega), List.length_take, Nat.min_eq_left (by omega), List.getElem?_append_right (by omega), List.getElem?_drop]
  congr 1; omega
theorem PX.put {w0 w : World} {b g p c : Nat} {o : Ob} {L : List UInt8} (h : PX w0 b o g p c L w) (k : Nat) (s : List UInt8) (hs : k + s.length ≤ 80) : PX w0 b o g p c (wput L k s) (w.setCells g k (bytesV s)) := by
  have hl := h.len
  have bl : (bytesV s).length = s.length := bytesV_len s
  have bL : (bytesV L).length = L.length := bytesV_len L
  have hout := World.cell?_setCells_out g (bytesV s) k w
  have hin := World.cell?_setCells_in g (bytesV s) k w (fun j hj => (by have := (h.free (k + j) (by omega)).1; rwa [Nat.zero_add] at this))
  refine ⟨⟨below_sets g h.hg _ _ h.ox.below, ?_, ?_⟩, h.hb, h.hg, h.hp, ?_, ?_, ?_, ?_, ?_⟩
  · rw [sets_size]; exact h.ox.lt
  · intro i x hi
    rw [hout _ (fun e => absurd e (Nat.ne_of_lt h.hb))]
    exact h.ox.row i x hi
  · rw [sets_size]; exact h.lt
  · intro i x hi
    rw [hout _ (fun e => absurd e (Nat.ne_of_gt h.hp))]
    exact h.var i x hi
  · rw [wput_len (by omega), hl]
  · intro i x hi
    rw [Nat.zero_add]
    unfold bytesV at hi
    rw [List.getElem?_map] at hi
    obtain ⟨y, hy, rfl⟩ := Option.map_eq_some_iff.1 hi
    by_cases h1 : i < k
    · rw [wput_lo (by omega) i h1] at hy
      rw [hout _ (fun _ _ => Or.inl h1)]
      have := h.row i (.int .u8 (y.toNat : Int)) (by unfold bytesV; rw [List.getElem?_map, hy]; rfl)
      rwa [Nat.zero_add] at this
    · by_cases h2 : k + s.length ≤ i
      · rw [wput_hi (by omega) i h2] at hy
        rw [hout _ (fun _ _ => Or.inr (by show k + (bytesV s).length ≤ i; omega))]
        have := h.row i (.int .u8 (y.toNat : Int)) (by unfold bytesV; rw [List.getElem?_map, hy]; rfl)
        rwa [Nat.zero_add] at this
      · obtain ⟨j, rfl⟩ : ∃ j, i = k + j := ⟨i - k, by omega⟩
        rw [wput_in (by omega) j (by omega)] at hy
        rw [hin j (by omega)]
        unfold bytesV
        rw [List.getElem_map]
        rw [(List.getElem?_eq_some_iff.1 hy).2]
  · intro j hj
    refine ⟨?_, by rw [World.frozen?_setCells]; exact (h.free j hj).2⟩
    by_cases h1 : k ≤ j ∧ j < k + s.length
    · obtain ⟨i, rfl⟩ : ∃ i, j = k + i := ⟨j - k, by omega⟩
      rw [Nat.zero_add, hin i (by omega)]
      rfl
    · rw [hout _ (fun _ _ => by show 0 + j < _ ∨ _ ≤ 0 + j; omega)]
      exact (h.free j hj).1

end Ow
end Go.Proofs.YtjgcbeihgeaimaaGreatDoor
/-
  Plain law of observations: bytes put into eighty spaces make the line; lengths of the parts; no walk here.
-/
namespace Go.Proofs.YtjgcbeihgeaimaaGreatDoor
namespace Op
open Go.RowKit Lw Go.Proofs.YtjgcbeihgeaimaaGreatDoor.Ap Go.Proofs.YtjgcbeihgeaimaaGreatDoor.Mp Go.Proofs.YtjgcbeihgeaimaaGreatDoor.At Go.Proofs.YtjgcbeihgeaimaaGreatDoor.Ow

theorem spL_add (a b : Nat) : spL (a + b) = spL a ++ spL b := by unfold spL; exact (List.replicate_append_replicate).symm
theorem clock_len12 {n d : Nat} (hd : 1 ≤ d) (h : n / 10 ^ d < 360000) : (Gt.clockL n d).length = 9 + d := by
  rw [clock_dec hd h]
  simp [decL_len]; omega
theorem ra_len (a : Int) : (Gt.raL a 3).length = 12 := by
  unfold Gt.raL
  refine clock_len12 (by omega) ?_
  have := Nat.mod_lt (Gt.rndN (a % 1296000000000).toNat (15000000 / 10 ^ 3)) (show 0 < 86400 * 10 ^ 3 by decide)
  omega
theorem rnd_le2 (a u : Nat) : Gt.rndN a u ≤ a / u + 1 := by
  have h := Gt.rndN_eq a u
  have e : ((a / u : Nat) : Int) = (a : Int) / u := by omega
  unfold Gp.rndI at h
  split at h <;> omega
theorem dec_len {a : Int} (h0 : -324000000000 ≤ a) (h1 : a ≤ 324000000000) : (Gt.decL a 2).length = 12 := by
  unfold Gt.decL
  rw [List.length_cons, clock_len12 (by omega)]
  have := rnd_le2 a.natAbs (1000000 / 10 ^ 2)
  have e : 1000000 / 10 ^ 2 = 10000 := by decide
  rw [e] at this ⊢
  omega
theorem day_len17 {t : Int} {s : ByteArray} (h : DayIs t 6 s 0) : s.data.toList.length = 17 := by
  rw [← size_L]
  rcases h with ⟨_, _, h⟩ | ⟨_, _, _, _, h⟩ | ⟨_, _, _, _, n, y, m, z, k, _, rfl, _⟩
  · cases h
  · cases h
  · unfold daytS dbS
    rw [if_pos (by decide)]
    simp only [ByteArray.size_append, dS_size]
    rfl
theorem magB_len {m : Int} (h0 : -999 ≤ m) (h1 : m ≤ 9999) : (magB m).length ≤ 5 ∧ 4 ≤ (magB m).length := by
  unfold magB
  have h2 : (decL m.natAbs 2).length = 2 := decL_len _ _
  have l : (m.natAbs / 100 < 10 → (Lib.itoa ((m.natAbs / 100 : Nat) : Int)).length = 1) ∧ (Lib.itoa ((m.natAbs / 100 : Nat) : Int)).length ≤ 2 ∧ 1 ≤ (Lib.itoa ((m.natAbs / 100 : Nat) : Int)).length := by
    by_cases c : m.natAbs / 100 < 10
    · rw [itoa_dg _ c]; simp
    · refine ⟨fun h => absurd h c, ?_⟩
      unfold Lib.itoa
      rw [if_neg (by omega), Int.toNat_natCast, Lib.decDigits_two c (by omega)]; simp
  rw [List.length_append, List.length_append, List.length_append, h2, List.length_singleton]
  by_cases c : m < 0
  · rw [if_pos c, List.length_singleton, l.1 (by omega)]; omega
  · rw [if_neg c, List.length_nil]; omega
theorem magL_len {m : Int} (h0 : -999 ≤ m) (h1 : m ≤ 9999) : (magL m).length = 5 := by
  have := magB_len h0 h1
  unfold magL
  rw [List.length_append, spL_len]; omega
end Op
end Go.Proofs.YtjgcbeihgeaimaaGreatDoor
/-
  Plain law of observations: the columns of a line that is made of its parts; no walk here.
-/
namespace Go.Proofs.YtjgcbeihgeaimaaGreatDoor
namespace Op
open Go.RowKit Lw Go.Proofs.YtjgcbeihgeaimaaGreatDoor.Ap Go.Proofs.YtjgcbeihgeaimaaGreatDoor.Mp Go.Proofs.YtjgcbeihgeaimaaGreatDoor.At Go.Proofs.YtjgcbeihgeaimaaGreatDoor.Ow Go.Proofs.YtjgcbeihgeaimaaGreatDoor.Mw

/-- A line made of its parts. -/
def rowL (n1 n2 n3 D R E M S : List UInt8) : List UInt8 := n1 ++ (n2 ++ (n3 ++ (67 :: (D ++ (R ++ (E ++ (spL 9 ++ (M ++ (spL 6 ++ S)))))))))
structure Seg (s : ByteArray) (n1 n2 n3 D R E M S : List UInt8) : Prop where
  eq : s.data.toList = rowL n1 n2 n3 D R E M S
  l1 : n1.length = 5
  l2 : n2.length = 7
  l3 : n3 = [32, 32]
  d : D.length = 17
  r : R.length = 12
  e : E.length = 12
  m : M.length = 6
  s : S.length = 3
section
variable {s : ByteArray} {n1 n2 n3 D R E M S : List UInt8}
theorem Seg.size (h : Seg s n1 n2 n3 D R E M S) : s.size = 80 := by
  have := congrArg List.length h.eq
  have e : s.data.toList.length = s.size := Array.length_toList (xs := s.data)
  unfold rowL at this
  simp only [List.length_append, List.length_cons, spL_len, h.l1, h.l2, h.l3, h.d, h.r, h.e, h.m, h.s, List.length_nil] at this
  omega
theorem Seg.x0 (h : Seg s n1 n2 n3 D R E M S) : s.extract 0 5 = ⟨n1.toArray⟩ := by
  refine ext_seg (A := []) (C := n2 ++ (n3 ++ (67 :: (D ++ (R ++ (E ++ (spL 9 ++ (M ++ (spL 6 ++ S))))))))) ?_ rfl (by rw [h.l1])
  rw [h.eq]; rfl
theorem Seg.x5 (h : Seg s n1 n2 n3 D R E M S) : s.extract 5 12 = ⟨n2.toArray⟩ := by
  refine ext_seg (A := n1) (C := (n3 ++ (67 :: (D ++ (R ++ (E ++ (spL 9 ++ (M ++ (spL 6 ++ S))))))))) ?_ h.l1 (by rw [h.l2])
  rw [h.eq]; rfl
theorem Seg.b12 (h : Seg s n1 n2 n3 D R E M S) : bt s 12 = 32 := by
  refine bt_seg (A := n1 ++ n2) (c := 32) (C := 32 :: (67 :: (D ++ (R ++ (E ++ (spL 9 ++ (M ++ (spL 6 ++ S)))))))) ?_ (by rw [List.length_append, h.l1, h.l2])
  rw [h.eq, rowL, h.l3, List.append_assoc]; rfl
end
/-! ### Points and ends -/
end Op
end Go.Proofs.YtjgcbeihgeaimaaGreatDoor
/-
  Plain law of observations: the line of an observation is read as the rounded observation; no walk here.
-/
namespace Go.Proofs.YtjgcbeihgeaimaaGreatDoor
namespace Op
open Go.RowKit Lw Go.Proofs.YtjgcbeihgeaimaaGreatDoor.Ap Go.Proofs.YtjgcbeihgeaimaaGreatDoor.Mp Go.Proofs.YtjgcbeihgeaimaaGreatDoor.At Go.Proofs.YtjgcbeihgeaimaaGreatDoor.Ow Go.Proofs.YtjgcbeihgeaimaaGreatDoor.Mw

theorem cutL_sp (l : List UInt8) : ∀ k, cutL (l ++ spL k) = cutL l
  | 0 => by simp [spL]
  | k + 1 => by
    have ih := cutL_sp l k
    have e : spL (k + 1) = spL k ++ [32] := by unfold spL; rw [List.replicate_succ']
    rw [e, ← List.append_assoc]
    unfold cutL at ih ⊢
    have e2 : (l ++ spL k ++ [32]).reverse = 32 :: (l ++ spL k).reverse := by simp
    rw [e2, List.dropWhile_cons_of_pos (by decide)]
    exact ih
theorem toL_mk (l : List UInt8) : (⟨l.toArray⟩ : ByteArray).data.toList = l := by simp
theorem mk_toL (s : ByteArray) : (⟨s.data.toList.toArray⟩ : ByteArray) = s := toL_inj (by simp)
theorem blank_sp (n : Nat) : blankP ⟨(spL n).toArray⟩ := fun c hc => by rw [toL_mk] at hc; exact (List.mem_replicate.1 hc).2
theorem word_ne {c : UInt8} (h : dgP (c.toNat : Int) ∨ ltP (c.toNat : Int)) : c ≠ 32 := fun e => by
  rw [e] at h
  revert h
  decide
/-- What the columns of a name say. -/
def NameIs (n1 n2 : List UInt8) (nm : ByteArray) : Prop := (blankP ⟨n1.toArray⟩ ∧ nm = cutS ⟨n2.toArray⟩ ∧ ¬ numbP nm) ∨ (¬ blankP ⟨n1.toArray⟩ ∧ nm = ⟨n1.toArray⟩ ∧ numbP nm ∧ blankP ⟨n2.toArray⟩)
theorem numb_first {s : ByteArray} (h : numbP s) : ¬ blankP s := by
  intro b
  obtain ⟨z, h⟩ := h
  have e : s.data.toList.length = s.size := Array.length_toList (xs := s.data)
  match hl : s.data.toList with
  | [] => rw [hl] at e; simp at e; omega
  | x :: l =>
    have hx : x = 32 := b x (by rw [hl]; exact List.mem_cons_self)
    rcases h with ⟨h, _⟩ | ⟨h, _⟩
    · rw [bt_L s 0 (by omega), hl, hx] at h
      change ((32 : UInt8).toNat : Int) = 126 at h
      exact absurd h (by decide)
    · have := h x (by rw [ext_L s 0 1 (by omega), hl]; simp)
      exact word_ne this hx
theorem name_split {nm : ByteArray} (h : nameP nm) : ∃ n1 n2, nameF nm = n1 ++ (n2 ++ [32, 32]) ∧ n1.length = 5 ∧ n2.length = 7 ∧ NameIs n1 n2 nm := by
  have e : nm.data.toList.length = nm.size := Array.length_toList (xs := nm.data)
  unfold nameF
  by_cases c : numbP nm
  · rw [if_pos c]
    refine ⟨nm.data.toList, spL 7, by rfl, by rw [e]; exact c.1, spL_len 7, Or.inr ⟨?_, (mk_toL nm).symm, c, blank_sp 7⟩⟩
    rw [mk_toL]
    exact numb_first c
  · rw [if_neg c]
    rcases h with h | ⟨h1, h2, h3⟩
    · exact absurd h c
    · refine ⟨spL 5, nm.data.toList ++ spL (7 - nm.size), ?_, spL_len 5, by rw [List.length_append, e, spL_len]; omega, Or.inl ⟨blank_sp 5, ?_, c⟩⟩
      · rw [show 9 - nm.size = (7 - nm.size) + 2 by omega, spL_add]
        simp only [List.append_assoc]
        rfl
      · obtain ⟨l, x, hl⟩ : ∃ l x, nm.data.toList = l ++ [x] := ⟨_, _, (List.dropLast_concat_getLast (by intro hn; rw [hn] at e; simp at e; omega)).symm⟩
        unfold cutS
        rw [toL_mk, cutL_sp, hl, cut_id (word_ne (h3 x (by rw [hl]; simp))), ← hl, mk_toL]
/-! ### Magnitudes -/
/-! ### Angles -/
/-! ### Days -/
theorem day_time {t d : Int} {s : ByteArray} (h : DayIs t d s 0) : timeP t := by
  rcases h with ⟨_, _, h⟩ | ⟨_, _, _, _, h⟩ | ⟨_, _, h1, h2, _⟩
  · cases h
  · cases h
  · exact ⟨h1, h2⟩
end Op
end Go.Proofs.YtjgcbeihgeaimaaGreatDoor
/-
  The walk of name of package obs.
-/
namespace Go.Proofs.YtjgcbeihgeaimaaGreatDoor
namespace Ow
open Go.RowKit Lw Go.Proofs.YtjgcbeihgeaimaaGreatDoor.Ap Go.Proofs.YtjgcbeihgeaimaaGreatDoor.Op Go.Proofs.YtjgcbeihgeaimaaGreatDoor.Mp Go.Proofs.YtjgcbeihgeaimaaGreatDoor.Mw Go.Proofs.YtjgcbeihgeaimaaGreatDoor.At

/-- What the columns of a name say. -/
def NameOf (s n : ByteArray) : Prop := (blankP (s.extract 0 5) ∧ n = cutS (s.extract 5 12) ∧ ¬ numbP n) ∨ (¬ blankP (s.extract 0 5) ∧ n = s.extract 0 5 ∧ numbP n ∧ blankP (s.extract 5 12))
end Ow
end Go.Proofs.YtjgcbeihgeaimaaGreatDoor
/-
  Plain law of observations: a line's candidate, all of it but the check; no walk here.
-/
namespace Go.Proofs.YtjgcbeihgeaimaaGreatDoor
namespace Op
open Go.RowKit Lw Go.Proofs.YtjgcbeihgeaimaaGreatDoor.Ap Go.Proofs.YtjgcbeihgeaimaaGreatDoor.Mp Go.Proofs.YtjgcbeihgeaimaaGreatDoor.At Go.Proofs.YtjgcbeihgeaimaaGreatDoor.Ow Go.Proofs.YtjgcbeihgeaimaaGreatDoor.Mw

/-- The variance of a line, by the digits of its declination. -/
def sgOf (n : Nat) : Int := if n = 0 then 1000000 else if n = 1 then 300000 else 100000
structure Cand (s : ByteArray) (o : Ob) : Prop where
  size : s.size = 80
  mark : bt s 12 = 32 ∧ bt s 13 = 32 ∧ bt s 14 = 67
  b1 : blankP (s.extract 56 65)
  b2 : blankP (s.extract 71 77)
  p : 3 ≤ decs (cutS (s.extract 15 32)) ∧ decs (cutS (s.extract 15 32)) ≤ 6
  q : 1 ≤ decs (cutS (s.extract 32 44)) ∧ decs (cutS (s.extract 32 44)) ≤ 3
  r : decs (cutS (s.extract 44 56)) ≤ 2
  day : PDayIs (cutS (s.extract 15 32)) o.t 0
  ra : Gp.RaIs (cutS (s.extract 32 44)) o.ra 0
  dec : Gp.DecIs (cutS (s.extract 44 56)) o.dec 0
  site : o.site = s.extract 77 80
  sg : o.sg = sgOf (decs (cutS (s.extract 44 56)))
  name : NameOf s o.name
  mag : (blankP (s.extract 65 71) ∧ o.mag = 9999 ∧ o.band = 32) ∨ (¬ blankP (s.extract 65 71) ∧ MagIs (s.extract 65 70) o.mag ∧ o.band = bt s 70)
theorem nameOf_uniq {s a b : ByteArray} (h : NameOf s a) (g : NameOf s b) : a = b := by
  rcases h with ⟨x1, x2, _⟩ | ⟨x1, x2, _⟩ <;> rcases g with ⟨y1, y2, _⟩ | ⟨y1, y2, _⟩
  · rw [x2, y2]
  · exact absurd x1 y1
  · exact absurd y1 x1
  · rw [x2, y2]
theorem Cand.uniq {s : ByteArray} {o o' : Ob} (a : Cand s o) (b : Cand s o') : o = o' := by
  have e1 := (a.day.uniq b.day).1
  have e2 := (a.ra.det b.ra).1
  have e3 := (a.dec.det b.dec).1
  have e4 := a.site.trans b.site.symm
  have e5 := a.sg.trans b.sg.symm
  have e6 := nameOf_uniq (s := s) a.name b.name
  have e7 : o.mag = o'.mag ∧ o.band = o'.band := by
    rcases a.mag with ⟨x1, x2, x3⟩ | ⟨x1, x2, x3⟩ <;> rcases b.mag with ⟨y1, y2, y3⟩ | ⟨y1, y2, y3⟩
    · exact ⟨by omega, by omega⟩
    · exact absurd x1 y1
    · exact absurd y1 x1
    · exact ⟨x2.uniq y2, by omega⟩
  obtain ⟨e7, e8⟩ := e7
  cases o; cases o'
  simp only at e1 e2 e3 e4 e5 e6 e7 e8
  rw [e1, e2, e3, e4, e5, e6, e7, e8]
end Op
end Go.Proofs.YtjgcbeihgeaimaaGreatDoor
/-
  The day texts of times: Day of the reference.
-/
namespace Go.Proofs.YtjgcbeihgeaimaaGreatDoor
namespace At
open Go.RowKit Lw Ap Go.Proofs.YtjgcbeihgeaimaaGreatDoor.Mp Go.Proofs.YtjgcbeihgeaimaaGreatDoor.Mw

theorem XSr.call {w : World} {b : Nat} {a c : World} (h : XSr w b a) (hb : Below a.heap.size a c) : XSr w b c := ⟨Nat.lt_of_lt_of_le h.lt hb.size, below_then h.below hb⟩
end At
end Go.Proofs.YtjgcbeihgeaimaaGreatDoor
/-
  The walk of Print of package obs.
-/
namespace Go.Proofs.YtjgcbeihgeaimaaGreatDoor
namespace Ow
open Go.RowKit Lw Go.Proofs.YtjgcbeihgeaimaaGreatDoor.Ap Go.Proofs.YtjgcbeihgeaimaaGreatDoor.Op Go.Proofs.YtjgcbeihgeaimaaGreatDoor.Mp Go.Proofs.YtjgcbeihgeaimaaGreatDoor.Mw Go.Proofs.YtjgcbeihgeaimaaGreatDoor.At

theorem info8 : (Tryz.prog.info? 44).map (·.size) = some 8 := by kernel_rfl
theorem PX.tab {w0 w' : World} {b g p c : Nat} {o : Ob} {L' : List UInt8} (h : PX w0 b o g p c L' w') (hT : Gt.Tab w0) : Gt.Tab w' := hT.below h.ox.below
/-- Before or behind one put. -/
structure PS (w0 : World) (b : Nat) (o : Ob) (g p c : Nat) (L : List UInt8) (k : Nat) (s : ByteArray) (w : World) : Prop where
  px : ∃ L0, (L0 = L ∨ L0 = wput L k s.data.toList) ∧ PX w0 b o g p c L0 w
  tab : Gt.Tab w
  len : k + s.data.toList.length ≤ L.length
theorem PS.call {w0 w w' : World} {b g p c k : Nat} {o : Ob} {L : List UInt8} {s : ByteArray} (h : PS w0 b o g p c L k s w) (hb : Below w.heap.size w w') : PS w0 b o g p c L k s w' := by
  obtain ⟨⟨L0, h1, h2⟩, h3, h4⟩ := h
  exact ⟨⟨L0, h1, h2.call hb⟩, h3.below hb, h4⟩
theorem PS.drew {w0 w : World} {b g p c k : Nat} {o : Ob} {L : List UInt8} {s : ByteArray} (h : PS w0 b o g p c L k s w) : PS w0 b o g p c L k s w.drew := h.call (Below.refl _ _).drew
/-- The same with the cells that are read. -/
abbrev PQ (w0 : World) (b : Nat) (o : Ob) (g p c : Nat) (L : List UInt8) (k : Nat) (s : ByteArray) (w : World) : Prop := w.cell? ⟨b, 6, none⟩ = some (.int .i64 o.mag) ∧ w.cell? ⟨b, 7, none⟩ = some (.int .u8 o.band) ∧ PS w0 b o g p c L k s w
theorem PS.q {w0 w : World} {b g p c k : Nat} {o : Ob} {L : List UInt8} {s : ByteArray} (h : PS w0 b o g p c L k s w) : PQ w0 b o g p c L k s w := by
  obtain ⟨L0, h1, h2⟩ := h.px
  have a := h2.ox.row 6 _ rfl
  have b := h2.ox.row 7 _ rfl
  rw [Nat.zero_add] at a b
  exact ⟨a, b, h⟩
end Ow
end Go.Proofs.YtjgcbeihgeaimaaGreatDoor
/-
  ParseRa and ParseDec of package angle.
-/
namespace Go.Proofs.YtjgcbeihgeaimaaGreatDoor
namespace Gp
open Go.RowKit Lw

theorem mul_neg {p q : Int} (h0 : -1 ≤ p) (h1 : p ≤ 999999) (g0 : 0 ≤ q) (g1 : q ≤ 15000000) : -15000000 ≤ p * q ∧ p * q ≤ 14999985000000 := by
  by_cases h : 0 ≤ p
  · have := mul_bd h h1 g0 g1
    omega
  · obtain rfl : p = -1 := by omega
    omega
end Gp
end Go.Proofs.YtjgcbeihgeaimaaGreatDoor
/-
  The walk of Parse of package obs.
-/
namespace Go.Proofs.YtjgcbeihgeaimaaGreatDoor
namespace Ow
open Go.RowKit Lw Go.Proofs.YtjgcbeihgeaimaaGreatDoor.Ap Go.Proofs.YtjgcbeihgeaimaaGreatDoor.Op Go.Proofs.YtjgcbeihgeaimaaGreatDoor.Mp Go.Proofs.YtjgcbeihgeaimaaGreatDoor.Mw Go.Proofs.YtjgcbeihgeaimaaGreatDoor.At

/-- The result's box. -/
structure Res (w0 w : World) : Prop where
  below : Below w0.heap.size w0 w
  lt : w0.heap.size < w.heap.size
  th : w.there w0.heap.size 0 8
theorem Res.new (w : World) : Res w (w.alloc (.cells (obsC zeroO).toArray 44)) := ⟨(Below.refl _ _).alloc (Nat.le_refl _) _, by simp, there_new _ _ _ 8 (by show 8 ≤ 8; omega)⟩
theorem Res.call {w0 w w' : World} (h : Res w0 w) (hb : Below w.heap.size w w') : Res w0 w' := ⟨below_then h.below hb, Nat.lt_of_lt_of_le h.lt hb.size, there_below h.th hb h.lt⟩
end Ow
end Go.Proofs.YtjgcbeihgeaimaaGreatDoor
/-
  The walk of Parse of package obs: the main way.
-/
namespace Go.Proofs.YtjgcbeihgeaimaaGreatDoor
namespace Ow
open Go.RowKit Lw Go.Proofs.YtjgcbeihgeaimaaGreatDoor.Ap Go.Proofs.YtjgcbeihgeaimaaGreatDoor.Op Go.Proofs.YtjgcbeihgeaimaaGreatDoor.Mp Go.Proofs.YtjgcbeihgeaimaaGreatDoor.Mw Go.Proofs.YtjgcbeihgeaimaaGreatDoor.At

/-- The result's box, and an observation in a box of its own. -/
structure OY (w0 : World) (b : Nat) (o : Ob) (w : World) : Prop where
  res : Res w0 w
  hb : w0.heap.size < b
  lt : b < w.heap.size
  row : w.rangeAt b 0 (obsC o)
  th : w.there b 0 8
theorem OY.call {w0 w w' : World} {b : Nat} {o : Ob} (h : OY w0 b o w) (hb : Below w.heap.size w w') : OY w0 b o w' := ⟨h.res.call hb, h.hb, Nat.lt_of_lt_of_le h.lt hb.size, rangeAt_below h.row hb h.lt, there_below h.th hb h.lt⟩
theorem OY.set {w0 w : World} {b : Nat} {o : Ob} (h : OY w0 b o w) (i : Nat) (v : Value) (o' : Ob) (_hi : i < 8) (e : obsC o' = (obsC o).set i v) : OY w0 b o' (w.setCell ⟨b, i, none⟩ v) := by
  have hw0 : w0.heap.size ≠ b := Nat.ne_of_lt h.hb
  have out := World.cell?_setCells_out b [v] i w
  have inn := World.cell?_setCells_in b [v] i w (fun j hj => by
    have hj : j < 1 := hj
    have := (h.th (i + j) (by omega)).1
    rwa [Nat.zero_add] at this)
  have ew : w.setCells b i [v] = w.setCell ⟨b, i, none⟩ v := rfl
  have fz : ∀ p, (w.setCell ⟨b, i, none⟩ v).frozen? p = w.frozen? p := fun p => by rw [← ew, World.frozen?_setCells]
  rw [ew] at out inn
  refine ⟨⟨?_, ?_, ?_⟩, h.hb, ?_, ?_, ?_⟩
  · exact h.res.below.setCell (p := ⟨b, i, none⟩) (Nat.le_of_lt h.hb) v
  · have := sets_size b [v] i w
    rw [ew] at this
    rw [this]; exact h.res.lt
  · intro j hj
    rw [fz, out _ (fun e => absurd e hw0)]
    exact h.res.th j hj
  · have := sets_size b [v] i w
    rw [ew] at this
    rw [this]; exact h.lt
  · intro j x hx
    rw [e] at hx
    rw [Nat.zero_add]
    by_cases hj : j = i
    · subst hj
      have hl : j < (obsC o).length := _hi
      rw [List.getElem?_set_self hl] at hx
      have := inn 0 (by show 0 < 1; omega)
      rw [Nat.add_zero] at this
      rw [this]; exact hx
    · rw [List.getElem?_set_ne (fun h => hj h.symm)] at hx
      rw [out _ (fun _ _ => by show j < i ∨ i + 1 ≤ j; omega)]
      have := h.row j x hx
      rwa [Nat.zero_add] at this
  · intro j hj
    refine ⟨?_, by rw [fz]; exact (h.th j hj).2⟩
    rw [Nat.zero_add]
    by_cases hj2 : j = i
    · subst hj2
      have := inn 0 (by show 0 < 1; omega)
      rw [Nat.add_zero] at this
      rw [this]; rfl
    · rw [out _ (fun _ _ => by show j < i ∨ i + 1 ≤ j; omega)]
      have := (h.th j hj).1
      rwa [Nat.zero_add] at this
end Ow
end Go.Proofs.YtjgcbeihgeaimaaGreatDoor
/-
  Plain law of observations: the line of an observation is read as the rounded observation; rounding again changes nothing; no walk here.
-/
namespace Go.Proofs.YtjgcbeihgeaimaaGreatDoor
namespace Op
open Go.RowKit Lw Go.Proofs.YtjgcbeihgeaimaaGreatDoor.Ap Go.Proofs.YtjgcbeihgeaimaaGreatDoor.Mp Go.Proofs.YtjgcbeihgeaimaaGreatDoor.At Go.Proofs.YtjgcbeihgeaimaaGreatDoor.Ow Go.Proofs.YtjgcbeihgeaimaaGreatDoor.Mw

theorem line_seg {day : ByteArray} {o : Ob} (ok : okO o) (hd : DayIs o.t 6 day 0) : ∃ n1 n2, NameIs n1 n2 o.name ∧
    Seg ⟨(lineL day o).toArray⟩ n1 n2 [32, 32] day.data.toList (Gt.raL o.ra 3) (Gt.decL o.dec 2) (magF o.mag o.band) o.site.data.toList := by
  obtain ⟨_, hn, hs, _, _, _, d0, d1, _, _, hm⟩ := ok
  obtain ⟨n1, n2, e, l1, l2, hN⟩ := name_split hn
  refine ⟨n1, n2, hN, ?_, l1, l2, rfl, day_len17 hd, ra_len _, dec_len d0 d1, ?_, by rw [← size_L]; exact hs⟩
  · rw [toL_mk]
    unfold lineL rowL
    rw [e]
    simp only [List.append_assoc]
  · unfold magF
    by_cases c : o.mag = 9999
    · rw [if_pos c, spL_len]
    · rw [if_neg c, List.length_append]
      rcases hm with ⟨h, _⟩ | ⟨h1, h2, _⟩
      · exact absurd h c
      · rw [magL_len (by omega) (by omega)]; rfl
/-- The rounded observation. -/
structure Rnd (day : ByteArray) (o r : Ob) : Prop where
  name : r.name = o.name
  site : r.site = o.site
  mag : r.mag = o.mag
  band : r.band = o.band
  sg : r.sg = 100000
  le : r.t ≤ o.t
  near : o.t - r.t < 100000
  pday : PDayIs day r.t 0
  day : DayIs r.t 6 day 0
  pra : Gp.RaIs ⟨(Gt.raL o.ra 3).toArray⟩ r.ra 0
  ra : Gt.raL r.ra 3 = Gt.raL o.ra 3
  ra0 : 0 ≤ r.ra
  ra1 : r.ra < 1296000000000
  dif1 : 2 * Pl.dif r.ra o.ra ≤ 15000
  dif2 : -15000 ≤ 2 * Pl.dif r.ra o.ra
  pdec : Gp.DecIs ⟨(Gt.decL o.dec 2).toArray⟩ r.dec 0
  dec0 : -324000000000 ≤ r.dec
  dec1 : r.dec ≤ 324000000000
  dd1 : r.dec - o.dec ≤ 5000
  dd2 : -5000 ≤ r.dec - o.dec
  dec : (o.dec < 0 ∧ r.dec = 0 ∧ Gt.decL o.dec 2 = 45 :: Gt.clockL 0 2) ∨ Gt.decL r.dec 2 = Gt.decL o.dec 2
theorem Rnd.okO {day : ByteArray} {o r : Ob} (h : Rnd day o r) (ok : okO o) : Op.okO r := by
  obtain ⟨_, a2, a3, a4, _, _, _, _, _, _, a9⟩ := ok
  have := h.sg
  exact ⟨day_time h.day, by rw [h.name]; exact a2, by rw [h.site]; exact a3, by rw [h.site]; exact a4, h.ra0, h.ra1, h.dec0, h.dec1, by omega, by omega, by rw [h.mag, h.band]; exact a9⟩
end Op
end Go.Proofs.YtjgcbeihgeaimaaGreatDoor
/-
  The contracts of package obs: Print, Parse, Round, for any observation and string.
-/
namespace Go.Proofs.YtjgcbeihgeaimaaGreatDoor
namespace Ow
open Go.RowKit Lw Go.Proofs.YtjgcbeihgeaimaaGreatDoor.Ap Go.Proofs.YtjgcbeihgeaimaaGreatDoor.Op Go.Proofs.YtjgcbeihgeaimaaGreatDoor.Mp Go.Proofs.YtjgcbeihgeaimaaGreatDoor.Mw Go.Proofs.YtjgcbeihgeaimaaGreatDoor.At

/-- The bounds of a Go observation. -/
structure OB (o : Ob) : Prop where
  t0 : -9223372036854775808 ≤ o.t
  t1 : o.t ≤ 9223372036854775807
  b0 : 0 ≤ o.band
  b1 : o.band ≤ 255
  n1 : o.name.size ≤ maxLen
  n2 : o.site.size ≤ maxLen
/-- What Round returns. -/
def RoundIs (o q : Ob) (c : Int) : Prop := (∃ s, PrintIs o s 0 ∧ ObsIs s q c) ∨ (¬ okO o ∧ q = zeroO ∧ c = 8)
theorem RoundIs.uniq {o q q' : Ob} {c c' : Int} (a : RoundIs o q c) (b : RoundIs o q' c') : q = q' ∧ c = c' := by
  have ok : ∀ {s}, PrintIs o s 0 → okO o := fun h => by
    rcases h with ⟨h, _⟩ | ⟨_, _, h⟩
    · exact h
    · cases h
  rcases a with ⟨s, a1, a2⟩ | ⟨a1, a2, a3⟩ <;> rcases b with ⟨s', b1, b2⟩ | ⟨b1, b2, b3⟩
  · obtain ⟨rfl, _⟩ := a1.uniq b1
    exact a2.uniq b2
  · exact absurd (ok a1) b1
  · exact absurd (ok b1) a1
  · exact ⟨by rw [a2, b2], by omega⟩
/-- The boxes of Round. -/
structure RX (w0 : World) (o : Ob) (w : World) : Prop where
  below : Below w0.heap.size w0 w
  lt : w0.heap.size + 1 < w.heap.size
  row : w.rangeAt w0.heap.size 0 (obsC o)
  th : w.there (w0.heap.size + 1) 0 8
theorem RX.call {w0 w w' : World} {o : Ob} (h : RX w0 o w) (hb : Below w.heap.size w w') : RX w0 o w' :=
  ⟨below_then h.below hb, Nat.lt_of_lt_of_le h.lt hb.size, rangeAt_below h.row hb (by have := h.lt; omega), there_below h.th hb h.lt⟩
theorem RX.new (w : World) (o : Ob) : RX w o ((w.alloc (.cells (obsC o).toArray 44)).alloc (.cells (obsC zeroO).toArray 44)) := by
  have b1 : Below w.heap.size w (w.alloc (.cells (obsC o).toArray 44)) := (Below.refl _ _).alloc (Nat.le_refl _) _
  refine ⟨b1.alloc (by simp) _, by simp, rangeAt_below (rangeAt_new w _ _) ((Below.refl _ _).alloc (Nat.le_refl _) _) (by simp), ?_⟩
  have := there_new (w.alloc (.cells (obsC o).toArray 44)) (obsC zeroO).toArray 44 8 (by show 8 ≤ 8; omega)
  rwa [show (w.alloc (.cells (obsC o).toArray 44)).heap.size = w.heap.size + 1 by simp] at this
end Ow
end Go.Proofs.YtjgcbeihgeaimaaGreatDoor
/-
  Plain law of lists of observations: what PrintAll, ParseAll say; no walk here.
-/
namespace Go.Proofs.YtjgcbeihgeaimaaGreatDoor
namespace Op
open Go.RowKit Lw Go.Proofs.YtjgcbeihgeaimaaGreatDoor.Ap Go.Proofs.YtjgcbeihgeaimaaGreatDoor.Mp Go.Proofs.YtjgcbeihgeaimaaGreatDoor.At Go.Proofs.YtjgcbeihgeaimaaGreatDoor.Ow Go.Proofs.YtjgcbeihgeaimaaGreatDoor.Mw

def nlS : ByteArray := ⟨#[10]⟩
/-- The error of a list. -/
def allC (l : List Ob) : Int := if 500 < l.length then 4 else if ∀ o ∈ l, okO o then 0 else 8
/-- The lines of the first k observations. -/
def LinesTo (l : List Ob) : Nat → ByteArray → Prop
  | 0, s => s = ByteArray.empty
  | k + 1, s => ∃ a b o, LinesTo l k a ∧ l[k]? = some o ∧ PrintIs o b 0 ∧ s = a ++ (b ++ nlS)
theorem LinesTo.uniq {l : List Ob} : ∀ {k : Nat} {s s' : ByteArray}, LinesTo l k s → LinesTo l k s' → s = s'
  | 0, _, _, h, h' => h.trans h'.symm
  | _ + 1, _, _, ⟨_, _, _, h1, h2, h3, h4⟩, ⟨_, _, _, g1, g2, g3, g4⟩ => by
    obtain rfl := LinesTo.uniq h1 g1
    obtain rfl := Option.some.inj (h2.symm.trans g2)
    obtain ⟨rfl, _⟩ := h3.uniq g3
    rw [h4, g4]
theorem print0_size {o : Ob} {s : ByteArray} (h : PrintIs o s 0) : s.size = 80 := by
  rcases h with ⟨ok, ⟨day, hd, rfl⟩, _⟩ | ⟨_, _, h⟩
  · obtain ⟨n1, n2, _, G⟩ := line_seg ok hd
    rw [G.size]
  · cases h
theorem LinesTo.size {l : List Ob} : ∀ {k : Nat} {s : ByteArray}, LinesTo l k s → s.size = 81 * k
  | 0, _, h => by rw [h]; rfl
  | k + 1, _, ⟨_, _, _, h1, _, h3, h4⟩ => by
    rw [h4, ByteArray.size_append, ByteArray.size_append, h1.size, print0_size h3, show nlS.size = 1 from rfl]; omega
/-- What PrintAll returns. -/
def PrintAllIs (l : List Ob) (s : ByteArray) (c : Int) : Prop := (allC l = 0 ∧ LinesTo l l.length s ∧ c = 0) ∨ (allC l ≠ 0 ∧ s = ByteArray.empty ∧ c = allC l)
theorem PrintAllIs.uniq {l : List Ob} {s s' : ByteArray} {c c' : Int} (a : PrintAllIs l s c) (b : PrintAllIs l s' c') : s = s' ∧ c = c' := by
  rcases a with ⟨a1, a2, a3⟩ | ⟨a1, a2, a3⟩ <;> rcases b with ⟨b1, b2, b3⟩ | ⟨b1, b2, b3⟩
  · exact ⟨a2.uniq b2, by omega⟩
  · exact absurd a1 b1
  · exact absurd b1 a1
  · exact ⟨by rw [a2, b2], by omega⟩
/-- A line of a file. -/
def StepAt (s : ByteArray) (k : Nat) (o : Ob) : Prop := 81 * k + 81 ≤ s.size ∧ Good (s.extract (81 * k) (81 * k + 80)) o ∧ bt s (81 * k + 80) = 10
/-- The first k lines are read. -/
def PartTo (s : ByteArray) : Nat → List Ob → Prop
  | 0, l => l = []
  | k + 1, l => ∃ l' o, PartTo s k l' ∧ StepAt s k o ∧ l = l' ++ [o]
theorem PartTo.uniq {s : ByteArray} : ∀ {k : Nat} {l l' : List Ob}, PartTo s k l → PartTo s k l' → l = l'
  | 0, _, _, h, h' => h.trans h'.symm
  | _ + 1, _, _, ⟨_, _, h1, h2, h3⟩, ⟨_, _, g1, g2, g3⟩ => by
    obtain rfl := PartTo.uniq h1 g1
    obtain rfl := h2.2.1.uniq g2.2.1
    rw [h3, g3]
theorem PartTo.len {s : ByteArray} : ∀ {k : Nat} {l : List Ob}, PartTo s k l → l.length = k ∧ 81 * k ≤ s.size
  | 0, _, h => by rw [h]; exact ⟨rfl, by omega⟩
  | k + 1, _, ⟨_, _, h1, h2, h3⟩ => by
    obtain ⟨e1, e2⟩ := h1.len
    rw [h3]
    refine ⟨by simp [e1], ?_⟩
    have := h2.1
    omega
theorem PartTo.step {s : ByteArray} : ∀ {k : Nat} {l : List Ob}, PartTo s k l → ∀ j, j < k → ∃ o, StepAt s j o
  | 0, _, _, j, hj => by omega
  | k + 1, _, ⟨_, o, h1, h2, _⟩, j, hj => by
    by_cases e : j = k
    · subst e; exact ⟨o, h2⟩
    · exact h1.step j (by omega)
/-- What ParseAll returns. -/
def ParseAllIs (s : ByteArray) (l : List Ob) (c : Int) : Prop := ∃ k l', PartTo s k l' ∧
  ((81 * k = s.size ∧ k ≤ 500 ∧ l = l' ∧ c = 0) ∨ (81 * k = s.size ∧ 500 < k ∧ l = [] ∧ c = 4) ∨ (81 * k < s.size ∧ (∀ o, ¬ StepAt s k o) ∧ l = [] ∧ c = 12))
theorem ParseAllIs.uniq {s : ByteArray} {l l' : List Ob} {c c' : Int} (a : ParseAllIs s l c) (b : ParseAllIs s l' c') : l = l' ∧ c = c' := by
  obtain ⟨k, m, a1, a2⟩ := a
  obtain ⟨k', m', b1, b2⟩ := b
  have e : k = k' := by
    rcases Nat.lt_trichotomy k k' with h | h | h
    · obtain ⟨o, ho⟩ := b1.step k h
      have := b1.len.2
      have := ho.1
      rcases a2 with ⟨e, _⟩ | ⟨e, _⟩ | ⟨_, e, _⟩
      · omega
      · omega
      · exact absurd ho (e o)
    · exact h
    · obtain ⟨o, ho⟩ := a1.step k' h
      have := a1.len.2
      have := ho.1
      rcases b2 with ⟨e, _⟩ | ⟨e, _⟩ | ⟨_, e, _⟩
      · omega
      · omega
      · exact absurd ho (e o)
  subst e
  obtain rfl := a1.uniq b1
  rcases a2 with ⟨a3, a4, a5, a6⟩ | ⟨a3, a4, a5, a6⟩ | ⟨a3, a4, a5, a6⟩ <;> rcases b2 with ⟨b3, b4, b5, b6⟩ | ⟨b3, b4, b5, b6⟩ | ⟨b3, b4, b5, b6⟩
  · exact ⟨a5.trans b5.symm, by omega⟩
  · omega
  · omega
  · omega
  · exact ⟨a5.trans b5.symm, by omega⟩
  · omega
  · omega
  · omega
  · exact ⟨a5.trans b5.symm, by omega⟩
end Op
end Go.Proofs.YtjgcbeihgeaimaaGreatDoor
/-
  The walk of Great of the reference of observations.
-/
namespace Go.Proofs.YtjgcbeihgeaimaaGreatDoor
namespace Ow
open Go.RowKit Lw Go.Proofs.YtjgcbeihgeaimaaGreatDoor.Ap Go.Proofs.YtjgcbeihgeaimaaGreatDoor.Op Go.Proofs.YtjgcbeihgeaimaaGreatDoor.Mp Go.Proofs.YtjgcbeihgeaimaaGreatDoor.Mw

/-- Observations in a row of memory. -/
def ObsAt (w : World) (b off : Nat) (l : List Ob) : Prop := ∀ i (h : i < l.length), w.rangeAt b (off + i * 8) (obsC (l[i]'h))
theorem ObsAt.below {w w' : World} {b off : Nat} {l : List Ob} (h : ObsAt w b off l) (hb : Below w.heap.size w w') (lt : b < w.heap.size) : ObsAt w' b off l := fun i hi => rangeAt_below (h i hi) hb lt
/-- An observation with long names. -/
def longP (o : Ob) : Prop := 100 < o.name.size ∨ 100 < o.site.size
instance (o : Ob) : Decidable (longP o) := by unfold longP; infer_instance
end Ow
end Go.Proofs.YtjgcbeihgeaimaaGreatDoor
/-
  An observation in a box: what stays at calls, and at stores into its cells.
-/
namespace Go.Proofs.YtjgcbeihgeaimaaGreatDoor
namespace Ow
open Go.RowKit Lw Go.Proofs.YtjgcbeihgeaimaaGreatDoor.Ap Go.Proofs.YtjgcbeihgeaimaaGreatDoor.Op Go.Proofs.YtjgcbeihgeaimaaGreatDoor.Mp Go.Proofs.YtjgcbeihgeaimaaGreatDoor.Mw

structure Box (b : Nat) (o : Ob) (w : World) : Prop where
  lt : b < w.heap.size
  row : w.rangeAt b 0 (obsC o)
  th : w.there b 0 8
theorem Box.call {w w' : World} {b : Nat} {o : Ob} (h : Box b o w) (hb : Below w.heap.size w w') : Box b o w' := ⟨Nat.lt_of_lt_of_le h.lt hb.size, rangeAt_below h.row hb h.lt, there_below h.th hb h.lt⟩
theorem Box.new (w : World) (o : Ob) : Box w.heap.size o (w.alloc (.cells (obsC o).toArray 44)) := ⟨by simp, rangeAt_new w _ _, there_new w _ _ 8 (by show 8 ≤ 8; omega)⟩
theorem Box.set {w : World} {b : Nat} {o : Ob} (h : Box b o w) (i : Nat) (v : Value) (o' : Ob) (_hi : i < 8) (e : obsC o' = (obsC o).set i v) : Box b o' (w.setCell ⟨b, i, none⟩ v) := by
  have out := World.cell?_setCells_out b [v] i w
  have inn := World.cell?_setCells_in b [v] i w (fun j hj => by
    have hj : j < 1 := hj
    have := (h.th (i + j) (by omega)).1
    rwa [Nat.zero_add] at this)
  have ew : w.setCells b i [v] = w.setCell ⟨b, i, none⟩ v := rfl
  have fz : ∀ p, (w.setCell ⟨b, i, none⟩ v).frozen? p = w.frozen? p := fun p => by rw [← ew, World.frozen?_setCells]
  rw [ew] at out inn
  refine ⟨?_, ?_, ?_⟩
  · have := sets_size b [v] i w
    rw [ew] at this
    rw [this]; exact h.lt
  · intro j x hx
    rw [e] at hx
    rw [Nat.zero_add]
    by_cases hj : j = i
    · subst hj
      have hl : j < (obsC o).length := _hi
      rw [List.getElem?_set_self hl] at hx
      have := inn 0 (by show 0 < 1; omega)
      rw [Nat.add_zero] at this
      rw [this]; exact hx
    · rw [List.getElem?_set_ne (fun h => hj h.symm)] at hx
      rw [out _ (fun _ _ => by show j < i ∨ i + 1 ≤ j; omega)]
      have := h.row j x hx
      rwa [Nat.zero_add] at this
  · intro j hj
    refine ⟨?_, by rw [fz]; exact (h.th j hj).2⟩
    rw [Nat.zero_add]
    by_cases hj2 : j = i
    · subst hj2
      have := inn 0 (by show 0 < 1; omega)
      rw [Nat.add_zero] at this
      rw [this]; rfl
    · rw [out _ (fun _ _ => by show j < i ∨ i + 1 ≤ j; omega)]
      have := (h.th j hj).1
      rwa [Nat.zero_add] at this
end Ow
end Go.Proofs.YtjgcbeihgeaimaaGreatDoor
/-
  The walk of Check of the reference of observations.
-/
namespace Go.Proofs.YtjgcbeihgeaimaaGreatDoor
namespace Ow
open Go.RowKit Lw Go.Proofs.YtjgcbeihgeaimaaGreatDoor.Ap Go.Proofs.YtjgcbeihgeaimaaGreatDoor.Op Go.Proofs.YtjgcbeihgeaimaaGreatDoor.Mp Go.Proofs.YtjgcbeihgeaimaaGreatDoor.Mw

set_option maxRecDepth 100000 in
set_option maxHeartbeats 16000000 in
theorem rcheck_any (o : Ob) (w : World) (h0 : -9223372036854775808 ≤ o.t) (h1 : o.t ≤ 9223372036854775807) (b0 : 0 ≤ o.band) (b1 : o.band ≤ 255) (n1 : o.name.size ≤ maxLen) (n2 : o.site.size ≤ maxLen) :
    Calls Tryz.prog 51 #[obsV o] w fun e w' => e = .returned (.int .i64 (checkC o)) ∧ Below w.heap.size w w' := by
  have K1 := Lib.hid (fun (a : preB o = true) (b : magP o.mag o.band) => check_ok a b)
  have K2 := Lib.hid (fun (b : ¬ magP o.mag o.band) => check_m b)
  have K3 := Lib.hid (fun (b : preB o = false) => check_p b)
  have PD := Lib.hid (show preA o = decide (timeP o.t ∧ nameP o.name ∧ o.site.size = 3 ∧ wordP o.site.data.toList) from rfl)
  have PB := Lib.hid (preB_of o)
  have X0 := OX.new w o
  obtain ⟨nm, st, tt, ra, dec, sg, mg, bd⟩ := o
  simp only at h0 h1 b0 b1 n1 n2 K1 K2 PD PB
  generalize checkC ⟨nm, st, tt, ra, dec, sg, mg, bd⟩ = cc at *
  generalize preB ⟨nm, st, tt, ra, dec, sg, mg, bd⟩ = pb at *
  generalize preA ⟨nm, st, tt, ra, dec, sg, mg, bd⟩ = pa at *
  have C1 := Lib.hid (fun w' => rtime_any tt w' h0 h1)
  have C2 := Lib.hid (fun w' => rname_any nm w' n1)
  have C3 := Lib.hid (fun w' => rword_any st w' n2)
  have q0 := X0.row 0 _ rfl
  have q1 := X0.row 1 _ rfl
  have q2 := X0.row 2 _ rfl
  have q3 := X0.row 3 _ rfl
  have q4 := X0.row 4 _ rfl
  have q5 := X0.row 5 _ rfl
  have q6 := X0.row 6 _ rfl
  have q7 := X0.row 7 _ rfl
  simp only [Nat.zero_add] at q0 q1 q2 q3 q4 q5 q6 q7
  have XX := Lib.hid X0
  have NB := Lib.hid (show nameB nm = true ↔ nameP nm from decide_eq_true_iff)
  have WB := Lib.hid (show wordB st.data.toList = true ↔ wordP st.data.toList from decide_eq_true_iff)
  clear X0 h0 h1 n1
  unfold maxLen at n2
  generalize nameB nm = nb at *
  generalize wordB st.data.toList = wb at *
  go_enter Tryz.func51, Tryz.ntmps51
  go_wp2_with fail
  refine (C1.out _).mono ?_
  rintro e w1 ⟨y, m, d, h, i, s, u, c, rfl, hc, hb⟩
  have bb := below_then hb ((Below.refl _ w1).alloc (Nat.le_refl _) (.cells (dateC y m d h i s u).toArray 126))
  have X1 := XX.out.call bb
  have lt1 : w.heap.size < w1.heap.size := by have := hb.size; simp at this; omega
  clear q0 q1 q2 q3 q4 q5 q6 q7
  have q0 := (XX.out.call hb).row 0 _ rfl
  have q1 := (XX.out.call hb).row 1 _ rfl
  have q2 := (XX.out.call hb).row 2 _ rfl
  have q3 := (XX.out.call hb).row 3 _ rfl
  have q4 := (XX.out.call hb).row 4 _ rfl
  have q5 := (XX.out.call hb).row 5 _ rfl
  have q6 := (XX.out.call hb).row 6 _ rfl
  have q7 := (XX.out.call hb).row 7 _ rfl
  simp only [Nat.zero_add] at q0 q1 q2 q3 q4 q5 q6 q7
  have XX1 := Lib.hid X1
  have HC := Lib.hid hc
  clear hb bb X1 XX C1 hc
  go_upto_region 2 with (refine wpList_store_new rfl _ (.tmp 3) (.tmp 9) rfl _ _ rfl rfl info7 rfl ?_ ?_; simp [Value.oneCell'])
  go_cut [60] (fun q wx => q = .bool (!pb) ∧ OX w w.heap.size ⟨nm, st, tt, ra, dec, sg, mg, bd⟩ wx)
  case first =>
    clear K1 K2 K3
    cases nb
    · have P := Lib.hid (PD.out.trans (decide_eq_false fun g => by have := NB.out.2 g.2.1; cases this))
      have P2 := Lib.hid (PB.out.trans (by rw [P.out]; rfl : _ = false))
      clear PD PB P
      go_wp2_with (first | (refine (C2.out _).mono ?_; rintro e w2 ⟨rfl, rfl⟩) | (refine wpList_store_new rfl _ (.tmp 3) (.tmp 9) rfl _ _ rfl rfl info7 rfl ?_ ?_; simp [Value.oneCell']))
      go_meet
      exact ⟨by rw [P2.out]; rfl, XX1.out⟩
    · by_cases h3 : st.size = 3
      · have k3 : (st.size : Int) = 3 := by omega
        cases wb
        · have P := Lib.hid (PD.out.trans (decide_eq_false fun g => by have := WB.out.2 g.2.2.2; cases this))
          have P2 := Lib.hid (PB.out.trans (by rw [P.out]; rfl : _ = false))
          clear PD PB P
          go_wp2_with (first | (refine (C2.out _).mono ?_; rintro e w2 ⟨rfl, rfl⟩) | (refine (C3.out _).mono ?_; rintro e w3 ⟨rfl, rfl⟩) | (refine wpList_store_new rfl _ (.tmp 3) (.tmp 9) rfl _ _ rfl rfl info7 rfl ?_ ?_; simp [Value.oneCell']))
          go_meet
          exact ⟨by rw [P2.out]; rfl, XX1.out⟩
        · rcases HC.out with ⟨ht, rfl⟩ | ⟨ht, rfl⟩
          · have P := Lib.hid (PD.out.trans (decide_eq_true ⟨ht, NB.out.1 (by first | rfl | trivial), h3, WB.out.1 (by first | rfl | trivial)⟩))
            have P1 := Lib.hid (PB.out.trans (by rw [P.out, Bool.true_and] : _ = decide (rngP ra dec sg)))
            clear PD PB P ht HC
            rcases rng_cases ra dec sg with g | ⟨g, g'⟩
            · have P2 := Lib.hid (P1.out.trans (decide_eq_true g))
              obtain ⟨r1, r2, r3, r4, r5, r6⟩ := g
              clear P1
              go_wp2_with (first | (refine (C2.out _).mono ?_; rintro e w2 ⟨rfl, rfl⟩) | (refine (C3.out _).mono ?_; rintro e w3 ⟨rfl, rfl⟩) | (refine wpList_store_new rfl _ (.tmp 3) (.tmp 9) rfl _ _ rfl rfl info7 rfl ?_ ?_; simp [Value.oneCell']))
              go_meet
              exact ⟨by first | (rw [P2.out]; rfl) | (rw [P2.out]; congr 1; simp; omega), XX1.out⟩
            · have P2 := Lib.hid (P1.out.trans (decide_eq_false g))
              clear P1 g
              rcases g' with r1 | ⟨r1, r2⟩ | ⟨r1, r2, r3⟩ | ⟨r1, r2, r3, r4⟩ | ⟨r1, r2, r3, r4, r5⟩ | ⟨r1, r2, r3, r4, r5, r6⟩
              all_goals
                go_wp2_with (first | (refine (C2.out _).mono ?_; rintro e w2 ⟨rfl, rfl⟩) | (refine (C3.out _).mono ?_; rintro e w3 ⟨rfl, rfl⟩) | (refine wpList_store_new rfl _ (.tmp 3) (.tmp 9) rfl _ _ rfl rfl info7 rfl ?_ ?_; simp [Value.oneCell']))
                go_meet
                exact ⟨by first | (rw [P2.out]; rfl) | (rw [P2.out]; congr 1; simp; omega), XX1.out⟩
          · have P := Lib.hid (PD.out.trans (decide_eq_false fun g => ht g.1))
            have P2 := Lib.hid (PB.out.trans (by rw [P.out]; rfl : _ = false))
            clear PD PB P ht HC
            go_wp2_with (first | (refine (C2.out _).mono ?_; rintro e w2 ⟨rfl, rfl⟩) | (refine (C3.out _).mono ?_; rintro e w3 ⟨rfl, rfl⟩) | (refine wpList_store_new rfl _ (.tmp 3) (.tmp 9) rfl _ _ rfl rfl info7 rfl ?_ ?_; simp [Value.oneCell']))
            go_meet
            exact ⟨by rw [P2.out]; rfl, XX1.out⟩
      · have P := Lib.hid (PD.out.trans (decide_eq_false fun g => h3 g.2.2.1))
        have P2 := Lib.hid (PB.out.trans (by rw [P.out]; rfl : _ = false))
        have k3 : ¬ (st.size : Int) = 3 := by omega
        clear PD PB P
        go_wp2_with (first | (refine (C2.out _).mono ?_; rintro e w2 ⟨rfl, rfl⟩) | (refine wpList_store_new rfl _ (.tmp 3) (.tmp 9) rfl _ _ rfl rfl info7 rfl ?_ ?_; simp [Value.oneCell']))
        go_meet
        exact ⟨by rw [P2.out]; rfl, XX1.out⟩
  case rest =>
    obtain ⟨rfl, X4⟩ := hcut
    clear q0 q1 q2 q3 q4 q5 q6 q7
    have q0 := X4.row 0 _ rfl
    have q1 := X4.row 1 _ rfl
    have q2 := X4.row 2 _ rfl
    have q3 := X4.row 3 _ rfl
    have q4 := X4.row 4 _ rfl
    have q5 := X4.row 5 _ rfl
    have q6 := X4.row 6 _ rfl
    have q7 := X4.row 7 _ rfl
    simp only [Nat.zero_add] at q0 q1 q2 q3 q4 q5 q6 q7
    have XX4 := Lib.hid X4
    clear X4 XX1 HC PD PB C2 C3 NB WB lt1
    cases pb
    · have E := Lib.hid (K3.out rfl)
      clear K1 K2 K3
      go_wp2_with fail
      go_ret
      exact ⟨by rw [E.out]; rfl, XX4.out.below⟩
    · have L1 := Lib.hid (fun w' => rletter_any bd w')
      rcases mag_cases mg bd with ⟨rfl, rfl, g⟩ | ⟨h9, rfl, h1, g⟩ | ⟨h9, rfl, h1, h2, g⟩ | ⟨h9, rfl, h1, h2, g⟩ | ⟨hb, h1, g⟩ | ⟨hb, h1, h2, h9, g⟩ | ⟨hb, rfl, g⟩ | ⟨hb, h1, h2, h9, g⟩
      · have E := Lib.hid (K1.out rfl g)
        clear K1 K2 K3 g
        go_wp2_with fail
        go_ret
        exact ⟨by rw [E.out]; rfl, XX4.out.below⟩
      · have E := Lib.hid (K2.out g)
        clear K1 K2 K3 g
        have hm2 : (mg == 9999) = false := beq_eq_false_iff_ne.2 h9
        go_wp2_with fail
        go_ret
        exact ⟨by rw [E.out]; rfl, XX4.out.below⟩
      · have E := Lib.hid (K2.out g)
        clear K1 K2 K3 g
        have hm2 : (mg == 9999) = false := beq_eq_false_iff_ne.2 h9
        go_wp2_with fail
        go_ret
        exact ⟨by rw [E.out]; rfl, XX4.out.below⟩
      · have E := Lib.hid (K1.out rfl g)
        have el : ltB 32 = false := by decide
        rw [el] at L1
        clear K1 K2 K3 g el
        have hm2 : (mg == 9999) = false := beq_eq_false_iff_ne.2 h9
        go_wp2_with (refine (L1.out _).mono ?_; rintro e w5 ⟨rfl, rfl⟩)
        go_ret
        exact ⟨by rw [E.out]; rfl, XX4.out.below⟩
      · have E := Lib.hid (K2.out g)
        clear K1 K2 K3 g
        have h9 : mg ≠ 9999 := by omega
        have hb2 : (bd == 32) = false := beq_eq_false_iff_ne.2 hb
        have hb3 : (bd != 32) = true := by simpa using hb
        have hm2 : (mg == 9999) = false := beq_eq_false_iff_ne.2 h9
        go_wp2_with fail
        go_ret
        exact ⟨by rw [E.out]; rfl, XX4.out.below⟩
      · have E := Lib.hid (K2.out g)
        clear K1 K2 K3 g
        have hb2 : (bd == 32) = false := beq_eq_false_iff_ne.2 hb
        have hb3 : (bd != 32) = true := by simpa using hb
        have hm2 : (mg == 9999) = false := beq_eq_false_iff_ne.2 h9
        go_wp2_with fail
        go_ret
        exact ⟨by rw [E.out]; rfl, XX4.out.below⟩
      · have E := Lib.hid (K2.out g)
        clear K1 K2 K3 g
        have hb2 : (bd == 32) = false := beq_eq_false_iff_ne.2 hb
        have hb3 : (bd != 32) = true := by simpa using hb
        go_wp2_with fail
        go_ret
        exact ⟨by rw [E.out]; rfl, XX4.out.below⟩
      · rcases lt_cases bd with ⟨hl, el⟩ | ⟨hl, el⟩
        · have E := Lib.hid (K1.out rfl (g.2 hl))
          rw [el] at L1
          clear K1 K2 K3 g hl el
          have hb2 : (bd == 32) = false := beq_eq_false_iff_ne.2 hb
          have hb3 : (bd != 32) = true := by simpa using hb
          have hm2 : (mg == 9999) = false := beq_eq_false_iff_ne.2 h9
          go_wp2_with (refine (L1.out _).mono ?_; rintro e w5 ⟨rfl, rfl⟩)
          go_ret
          exact ⟨by rw [E.out]; rfl, XX4.out.below⟩
        · have E := Lib.hid (K2.out (fun x => hl (g.1 x)))
          rw [el] at L1
          clear K1 K2 K3 g hl el
          have hb2 : (bd == 32) = false := beq_eq_false_iff_ne.2 hb
          have hb3 : (bd != 32) = true := by simpa using hb
          have hm2 : (mg == 9999) = false := beq_eq_false_iff_ne.2 h9
          go_wp2_with (refine (L1.out _).mono ?_; rintro e w5 ⟨rfl, rfl⟩)
          go_ret
          exact ⟨by rw [E.out]; rfl, XX4.out.below⟩
end Ow
end Go.Proofs.YtjgcbeihgeaimaaGreatDoor
/-
  Slices of observations; the walks of checkAll of obs, and of All, Same of the reference.
-/
namespace Go.Proofs.YtjgcbeihgeaimaaGreatDoor
namespace Ow
open Go.RowKit Lw Go.Proofs.YtjgcbeihgeaimaaGreatDoor.Ap Go.Proofs.YtjgcbeihgeaimaaGreatDoor.Op Go.Proofs.YtjgcbeihgeaimaaGreatDoor.Mp Go.Proofs.YtjgcbeihgeaimaaGreatDoor.Mw Go.Proofs.YtjgcbeihgeaimaaGreatDoor.At

/-- A slice's address, and the observations that it holds. -/
def SlA (w : World) (x : Option Addr) (l : List Ob) : Prop := l = [] ∨ ∃ b off, x = some ⟨b, off, none⟩ ∧ b < w.heap.size ∧ ObsAt w b off l
theorem SlA.below {w w' : World} {x : Option Addr} {l : List Ob} (h : SlA w x l) (hb : Below w.heap.size w w') : SlA w' x l := by
  rcases h with h | ⟨b, off, h1, h2, h3⟩
  · exact Or.inl h
  · exact Or.inr ⟨b, off, h1, Nat.lt_of_lt_of_le h2 hb.size, h3.below hb h2⟩
theorem SlA.get {w : World} {x : Option Addr} {l : List Ob} (h : SlA w x l) {i : Nat} (hi : i < l.length) : ∃ b off, x = some ⟨b, off, none⟩ ∧ b < w.heap.size ∧ ObsAt w b off l := by
  rcases h with rfl | h
  · simp at hi
  · exact h
/-- The bounds of a list. -/
def OBs (l : List Ob) : Prop := ∀ i (h : i < l.length), OB (l[i]'h)
end Ow
end Go.Proofs.YtjgcbeihgeaimaaGreatDoor
/-
  The walk of line of the reference of observations.
-/
namespace Go.Proofs.YtjgcbeihgeaimaaGreatDoor
namespace Ow
open Go.RowKit Lw Go.Proofs.YtjgcbeihgeaimaaGreatDoor.Ap Go.Proofs.YtjgcbeihgeaimaaGreatDoor.Op Go.Proofs.YtjgcbeihgeaimaaGreatDoor.Mp Go.Proofs.YtjgcbeihgeaimaaGreatDoor.Mw Go.Proofs.YtjgcbeihgeaimaaGreatDoor.At

/-- The same with the cells that are read. -/
abbrev LS (w0 : World) (b : Nat) (o : Ob) (w : World) : Prop := w.cell? ⟨b, 6, none⟩ = some (.int .i64 o.mag) ∧ w.cell? ⟨b, 7, none⟩ = some (.int .u8 o.band) ∧ OX w0 b o w
theorem OX.ls {w0 w : World} {b : Nat} {o : Ob} (h : OX w0 b o w) : LS w0 b o w := by
  have a := h.row 6 _ rfl
  have c := h.row 7 _ rfl
  rw [Nat.zero_add] at a c
  exact ⟨a, c, h⟩
end Ow
end Go.Proofs.YtjgcbeihgeaimaaGreatDoor
/-
  The walks of cut, blank, decimals of the reference of observations.
-/
namespace Go.Proofs.YtjgcbeihgeaimaaGreatDoor
namespace Ow
open Go.RowKit Lw Go.Proofs.YtjgcbeihgeaimaaGreatDoor.Ap Go.Proofs.YtjgcbeihgeaimaaGreatDoor.Op Go.Proofs.YtjgcbeihgeaimaaGreatDoor.Mp Go.Proofs.YtjgcbeihgeaimaaGreatDoor.Mw Go.Proofs.YtjgcbeihgeaimaaGreatDoor.At

theorem cutL_sp (l : List UInt8) : cutL (l ++ [32]) = cutL l := by
  unfold cutL
  rw [List.reverse_append, List.reverse_singleton, List.singleton_append, List.dropWhile_cons_of_pos (by rfl)]
end Ow
end Go.Proofs.YtjgcbeihgeaimaaGreatDoor
/-
  The walk of Parse of the reference.
-/
namespace Go.Proofs.YtjgcbeihgeaimaaGreatDoor
namespace Ap
open Go.RowKit Lw Go.Proofs.YtjgcbeihgeaimaaGreatDoor.Mp

theorem rinfo7 : (Tryz.prog.info? 126).map (·.size) = some 7 := by kernel_rfl
end Ap
end Go.Proofs.YtjgcbeihgeaimaaGreatDoor
/-
  The walk of read of the reference of observations.
-/
namespace Go.Proofs.YtjgcbeihgeaimaaGreatDoor
namespace Ow
open Go.RowKit Lw Go.Proofs.YtjgcbeihgeaimaaGreatDoor.Ap Go.Proofs.YtjgcbeihgeaimaaGreatDoor.Op Go.Proofs.YtjgcbeihgeaimaaGreatDoor.Mp Go.Proofs.YtjgcbeihgeaimaaGreatDoor.Mw Go.Proofs.YtjgcbeihgeaimaaGreatDoor.At

/-- The condition of read. -/
def badP (c1 c2 c3 : Int) (d1 d2 d3 : Nat) : Prop := c1 ≠ 0 ∨ c2 ≠ 0 ∨ c3 ≠ 0 ∨ d1 < 3 ∨ 6 < d1 ∨ d2 < 1 ∨ 3 < d2 ∨ 2 < d3
instance (c1 c2 c3 : Int) (d1 d2 d3 : Nat) : Decidable (badP c1 c2 c3 d1 d2 d3) := by unfold badP; infer_instance
end Ow
end Go.Proofs.YtjgcbeihgeaimaaGreatDoor
/-
  The walks of PrintAll of obs and of the reference.
-/
namespace Go.Proofs.YtjgcbeihgeaimaaGreatDoor
namespace Ow
open Go.RowKit Lw Go.Proofs.YtjgcbeihgeaimaaGreatDoor.Ap Go.Proofs.YtjgcbeihgeaimaaGreatDoor.Op Go.Proofs.YtjgcbeihgeaimaaGreatDoor.Mp Go.Proofs.YtjgcbeihgeaimaaGreatDoor.Mw Go.Proofs.YtjgcbeihgeaimaaGreatDoor.At

theorem ownsRow_below {w w' : World} {base : Nat} {e : TypeId} {size : Nat} {v : Value} {n : Nat} {xs : List Value} (h : w.ownsRow base e size v n xs) (hb : Below w.heap.size w w') : w'.ownsRow base e size v n xs := by
  obtain ⟨h1, h2⟩ := h
  refine ⟨h1, ?_⟩
  rcases h2 with h2 | ⟨g, cap, cur, hv, hg, hh, r⟩
  · exact Or.inl h2
  · refine Or.inr ⟨g, cap, cur, hv, hg, ?_, r⟩
    have lt : g < w.heap.size := by
      rcases Nat.lt_or_ge g w.heap.size with h | h
      · exact h
      · rw [Array.getElem?_eq_none h] at hh; cases hh
    rw [hb.block g lt]; exact hh
end Ow
end Go.Proofs.YtjgcbeihgeaimaaGreatDoor
/-
  append of an observation to a slice that the call owns.
-/
namespace Go.Proofs.YtjgcbeihgeaimaaGreatDoor
namespace Ow
open Go.RowKit Lw Go.Proofs.YtjgcbeihgeaimaaGreatDoor.Ap Go.Proofs.YtjgcbeihgeaimaaGreatDoor.Op Go.Proofs.YtjgcbeihgeaimaaGreatDoor.Mp Go.Proofs.YtjgcbeihgeaimaaGreatDoor.Mw Go.Proofs.YtjgcbeihgeaimaaGreatDoor.At

theorem infoO : (Tryz.prog.info? 44).map (fun i => (i.zero, i.size, i.bytes)) = some (some (.agg #[.string .empty, .string .empty, .int .i64 0, .int .i64 0, .int .i64 0, .int .i64 0, .int .i64 0, .int .u8 0]), 8, 80) := by kernel_rfl
/-- The cells of a list. -/
def flatO (l : List Ob) : List Value := l.flatMap obsC
theorem flatO_len (l : List Ob) : (flatO l).length = l.length * 8 := by
  induction l with
  | nil => rfl
  | cons a l ih => simp only [flatO, List.flatMap_cons, List.length_append, List.length_cons] at ih ⊢; rw [ih]; simp only [obsC, List.length_cons, List.length_nil]; omega
theorem flatO_get {l : List Ob} {i : Nat} (hi : i < l.length) {j : Nat} {v : Value} (h : (obsC l[i])[j]? = some v) : (flatO l)[i * 8 + j]? = some v := by
  have hj : j < 8 := by
    have := (List.getElem?_eq_some_iff.1 h).1
    exact this
  induction l generalizing i with
  | nil => simp at hi
  | cons a l ih =>
    have e : flatO (a :: l) = obsC a ++ flatO l := rfl
    have la : (obsC a).length = 8 := rfl
    match i, hi, h with
    | 0, _, h =>
      rw [e, Nat.zero_mul, Nat.zero_add, List.getElem?_append_left (by omega)]
      exact h
    | i + 1, hi, h =>
      have hi' : i < l.length := by simpa using hi
      rw [e, List.getElem?_append_right (by omega), la, show (i + 1) * 8 + j - 8 = i * 8 + j by omega]
      exact ih hi' (by simpa using h)
/-- A slice of the call's own. -/
def OwnO (w : World) (B : Nat) (v : Value) (l : List Ob) : Prop := w.ownsRow B 44 8 v l.length (flatO l) ∧ B ≤ w.heap.size
theorem OwnO.nil (w : World) (B : Nat) (h : B ≤ w.heap.size) : OwnO w B (.slice none 0 0) [] := ⟨World.ownsRow_nil _ _ _ _, h⟩
theorem OwnO.below {w w' : World} {B : Nat} {v : Value} {l : List Ob} (h : OwnO w B v l) (hb : Below w.heap.size w w') : OwnO w' B v l := ⟨ownsRow_below h.1 hb, Nat.le_trans h.2 hb.size⟩
theorem owns_form {w : World} {B : Nat} {t : TypeId} {v : Value} {l : List Ob} (h : w.ownsRow B t 8 v l.length (flatO l)) : (l = [] ∧ v = .slice none 0 0) ∨ ∃ g cap, v = .slice (some ⟨g, 0, none⟩) l.length cap ∧ B ≤ g ∧ g < w.heap.size ∧ ObsAt w g 0 l := by
  have hc := fun (g : Nat) (hg : v.ownBlock = some g) => h.cells hg
  rcases h.2 with ⟨hv, hn⟩ | ⟨g, cap, cur, hv, hb, hh, r⟩
  · exact Or.inl ⟨List.length_eq_zero_iff.1 hn, hv⟩
  · have lt : g < w.heap.size := by
      rcases Nat.lt_or_ge g w.heap.size with h | h
      · exact h
      · rw [Array.getElem?_eq_none h] at hh; cases hh
    refine Or.inr ⟨g, cap, hv, hb, lt, fun i hi j x hx => ?_⟩
    have e := hc g (by rw [hv]; rfl) (i * 8 + j) x (flatO_get hi hx)
    rw [Addr.add_mid] at e
    rw [Nat.zero_add] at e
    rw [Nat.zero_add]
    exact e
/-- A value that is a slice of observations. -/
def SlV (w : World) (v : Value) (l : List Ob) : Prop := ∃ x cap, v = .slice x l.length cap ∧ SlA w x l
theorem slV_of {w : World} {B : Nat} {t : TypeId} {v : Value} {l : List Ob} (h : w.ownsRow B t 8 v l.length (flatO l)) : SlV w v l := by
  rcases owns_form h with ⟨rfl, rfl⟩ | ⟨g, cap, rfl, _, lt, hg⟩
  · exact ⟨none, 0, rfl, Or.inl rfl⟩
  · exact ⟨_, cap, rfl, Or.inr ⟨g, 0, rfl, lt, hg⟩⟩
theorem SlV.below {w w' : World} {v : Value} {l : List Ob} (h : SlV w v l) (hb : Below w.heap.size w w') : SlV w' v l := by
  obtain ⟨x, cap, e, h⟩ := h
  exact ⟨x, cap, e, h.below hb⟩
theorem SlV.nil (w : World) : SlV w (.slice none 0 0) [] := ⟨none, 0, rfl, Or.inl rfl⟩
theorem obsC_one (o : Ob) : ∀ u ∈ obsC o, u.oneCell' = true := fun u hu => by
  simp only [List.mem_cons, List.not_mem_nil, or_false] at hu
  rcases hu with rfl | rfl | rfl | rfl | rfl | rfl | rfl | rfl <;> rfl
end Ow
end Go.Proofs.YtjgcbeihgeaimaaGreatDoor
/-
  The walk of Same of the reference at equal lists; Great at any slice; a copy of a slice.
-/
namespace Go.Proofs.YtjgcbeihgeaimaaGreatDoor
namespace Ow
open Go.RowKit Lw Go.Proofs.YtjgcbeihgeaimaaGreatDoor.Ap Go.Proofs.YtjgcbeihgeaimaaGreatDoor.Op Go.Proofs.YtjgcbeihgeaimaaGreatDoor.Mp Go.Proofs.YtjgcbeihgeaimaaGreatDoor.Mw Go.Proofs.YtjgcbeihgeaimaaGreatDoor.At

/-- Two rows that hold one list. -/
structure S2 (w0 : World) (a oa b ob : Nat) (l : List Ob) (w : World) : Prop where
  r1 : ObsAt w a oa l
  r2 : ObsAt w b ob l
  at_ : ∃ m, w = w0.drewN m
set_option maxRecDepth 100000 in
set_option maxHeartbeats 40000000 in
theorem same_any (x y : Option Addr) (c d : Nat) (l : List Ob) (w : World) (hx : SlA w x l) (hy : SlA w y l) (hm : l.length ≤ 1000000) :
    Calls Tryz.prog 13 #[.slice x l.length c, .slice y l.length d] w fun e w' => e = .returned (.bool true) ∧ Below w.heap.size w w' := by
  have HX := Lib.hid (fun w' (h : Below w.heap.size w w') => hx.below h)
  have HY := Lib.hid (fun w' (h : Below w.heap.size w w') => hy.below h)
  obtain ⟨n, hnl⟩ : ∃ n, l.length = n := ⟨_, rfl⟩
  rw [hnl] at hm ⊢
  have NL := Lib.hid hnl
  clear hx hy hnl
  go_enter Tryz.func13, Tryz.ntmps13
  go_wp2_with fail
  go_loopw [5] (fun i wr => ∃ k : Nat, k ≤ n ∧ i = .int .i64 k ∧ Hid (Below w.heap.size w wr)) (fun i _ => n - (intOf i).toNat)
  case atStart => exact ⟨0, Nat.zero_le _, rfl, Lib.hid (Below.refl _ _)⟩
  case round =>
    obtain ⟨k, hk, rfl, B⟩ := hrel
    by_cases hlt : k < n
    · have hkl : k < l.length := by rw [NL.out]; exact hlt
      obtain ⟨b1, o1, rfl, lt1, row1⟩ := (HX.out _ B.out).get hkl
      obtain ⟨b2, o2, rfl, lt2, row2⟩ := (HY.out _ B.out).get hkl
      have R1 := Lib.hid row1
      have R2 := Lib.hid row2
      have i1 : (k : Int) < (n : Int) := by omega
      have i0 : (0 : Int) ≤ (k : Int) := by omega
      have BD := Lib.hid (B.out.trans ((Below.refl _ _).drew.mono B.out.size))
      obtain ⟨o, ho⟩ : ∃ o, l[k] = o := ⟨_, rfl⟩
      have Q1 := Lib.hid (show wr.drew.rangeAt b1 (o1 + k * 8) (obsC o) by rw [← ho]; exact rangeAt_below (row1 k hkl) (Below.refl _ _).drew lt1)
      have Q2 := Lib.hid (show wr.drew.rangeAt b2 (o2 + k * 8) (obsC o) by rw [← ho]; exact rangeAt_below (row2 k hkl) (Below.refl _ _).drew lt2)
      clear row1 row2 R1 R2 lt1 lt2 ho
      go_wp2_with fail
      refine wp_region_held_drew (S := fun w' => w' = wr.drew) (by kernel_rfl) rfl (fun hHeld => ?_)
      refine wpAnyH_take (i := 0) (oi := ?oi0x1) (v := ?v0x1) ?hi0x1 (by kernel_rfl) (by kernel_rfl) (by kernel_rfl) ?hq0x1 ?hy0x1 hHeld ?rest0x1
      case hi0x1 => ((try simp only [List.getElem?_toArray, List.getElem?_cons_succ, List.getElem?_cons_zero]); (try rfl))
      case hq0x1 => exact fun _ _ _ h => h
      case hy0x1 => exact Or.inl ⟨by rfl, by intro w hSw; clear hSw; go_simp; try with_reducible rfl⟩
      try simp only [Act.put, List.setIfInBounds_toArray, List.set_cons_zero, List.set_cons_succ]
      refine wpAnyH_take (i := 1) (oi := ?oi1x2) (v := ?v1x2) ?hi1x2 (by kernel_rfl) (by kernel_rfl) (by kernel_rfl) ?hq1x2 ?hy1x2 hHeld ?rest1x2
      case hi1x2 => ((try simp only [List.getElem?_toArray, List.getElem?_cons_succ, List.getElem?_cons_zero]); (try rfl))
      case hq1x2 => exact fun _ _ _ h => h
      case hy1x2 => exact Or.inl ⟨by rfl, by intro w hSw; clear hSw; go_simp; try with_reducible rfl⟩
      try simp only [Act.put, List.setIfInBounds_toArray, List.set_cons_zero, List.set_cons_succ]
      refine wpAnyH_take (i := 2) (oi := ?oi2x3) (v := ?v2x3) ?hi2x3 (by kernel_rfl) (by kernel_rfl) (by kernel_rfl) ?hq2x3 ?hy2x3 hHeld ?rest2x3
      case hi2x3 => ((try simp only [List.getElem?_toArray, List.getElem?_cons_succ, List.getElem?_cons_zero]); (try rfl))
      case hq2x3 => exact fun _ _ _ h => h
      case hy2x3 => exact Or.inl ⟨by rfl, by intro w hSw; clear hSw; go_simp; try with_reducible rfl⟩
      try simp only [Act.put, List.setIfInBounds_toArray, List.set_cons_zero, List.set_cons_succ]
      refine wpAnyH_take (i := 3) (oi := ?oi3x4) (v := ?v3x4) ?hi3x4 (by kernel_rfl) (by kernel_rfl) (by kernel_rfl) ?hq3x4 ?hy3x4 hHeld ?rest3x4
      case hi3x4 => ((try simp only [List.getElem?_toArray, List.getElem?_cons_succ, List.getElem?_cons_zero]); (try rfl))
      case hq3x4 => exact fun _ _ _ h => h
      case hy3x4 => 
        refine' yieldsIf_load_mid ?_ 44 (.tmp 19) ?_ b1 (o1 + k * 8) ?_ (obsC o) _ ?_ Tryz.underlying44 ?_ info8
        · rfl
        · rfl
        · rfl
        · exact fun _ h => by rw [h]; exact Q1.out
        · rfl
      try simp only [Act.put, List.setIfInBounds_toArray, List.set_cons_zero, List.set_cons_succ]
      refine wpAnyH_take (i := 4) (oi := ?oi4x5) (v := ?v4x5) ?hi4x5 (by kernel_rfl) (by kernel_rfl) (by kernel_rfl) ?hq4x5 ?hy4x5 hHeld ?rest4x5
      case hi4x5 => ((try simp only [List.getElem?_toArray, List.getElem?_cons_succ, List.getElem?_cons_zero]); (try rfl))
      case hq4x5 => exact fun _ _ _ h => h
      case hy4x5 => exact Or.inl ⟨by rfl, by intro w hSw; clear hSw; go_simp; try with_reducible rfl⟩
      try simp only [Act.put, List.setIfInBounds_toArray, List.set_cons_zero, List.set_cons_succ]
      refine wpAnyH_take (i := 5) (oi := ?oi5x6) (v := ?v5x6) ?hi5x6 (by kernel_rfl) (by kernel_rfl) (by kernel_rfl) ?hq5x6 ?hy5x6 hHeld ?rest5x6
      case hi5x6 => ((try simp only [List.getElem?_toArray, List.getElem?_cons_succ, List.getElem?_cons_zero]); (try rfl))
      case hq5x6 => exact fun _ _ _ h => h
      case hy5x6 => exact Or.inl ⟨by rfl, by intro w hSw; clear hSw; go_simp; try with_reducible rfl⟩
      try simp only [Act.put, List.setIfInBounds_toArray, List.set_cons_zero, List.set_cons_succ]
      refine wpAnyH_take (i := 6) (oi := ?oi6x7) (v := ?v6x7) ?hi6x7 (by kernel_rfl) (by kernel_rfl) (by kernel_rfl) ?hq6x7 ?hy6x7 hHeld ?rest6x7
      case hi6x7 => ((try simp only [List.getElem?_toArray, List.getElem?_cons_succ, List.getElem?_cons_zero]); (try rfl))
      case hq6x7 => exact fun _ _ _ h => h
      case hy6x7 => exact Or.inl ⟨by rfl, by intro w hSw; clear hSw; go_simp; try with_reducible rfl⟩
      try simp only [Act.put, List.setIfInBounds_toArray, List.set_cons_zero, List.set_cons_succ]
      refine wpAnyH_take (i := 7) (oi := ?oi7x8) (v := ?v7x8) ?hi7x8 (by kernel_rfl) (by kernel_rfl) (by kernel_rfl) ?hq7x8 ?hy7x8 hHeld ?rest7x8
      case hi7x8 => ((try simp only [List.getElem?_toArray, List.getElem?_cons_succ, List.getElem?_cons_zero]); (try rfl))
      case hq7x8 => exact fun _ _ _ h => h
      case hy7x8 => 
        refine' yieldsIf_load_mid ?_ 44 (.tmp 23) ?_ b2 (o2 + k * 8) ?_ (obsC o) _ ?_ Tryz.underlying44 ?_ info8
        · rfl
        · rfl
        · rfl
        · exact fun _ h => by rw [h]; exact Q2.out
        · rfl
      try simp only [Act.put, List.setIfInBounds_toArray, List.set_cons_zero, List.set_cons_succ]
      refine wpAnyH_take (i := 8) (oi := ?oi8x9) (v := ?v8x9) ?hi8x9 (by kernel_rfl) (by kernel_rfl) (by kernel_rfl) ?hq8x9 ?hy8x9 hHeld ?rest8x9
      case hi8x9 => ((try simp only [List.getElem?_toArray, List.getElem?_cons_succ, List.getElem?_cons_zero]); (try rfl))
      case hq8x9 => exact fun _ _ _ h => h
      case hy8x9 => exact Or.inl ⟨by rfl, by intro w hSw; clear hSw; go_simp; try with_reducible rfl⟩
      try simp only [Act.put, List.setIfInBounds_toArray, List.set_cons_zero, List.set_cons_succ]
      refine wpAnyH_done (by kernel_rfl) ?_ _
      clear hHeld Q1 Q2
      go_wp2_with fail
      go_roundw
      case rel => exact ⟨k + 1, by omega, by go_num, BD⟩
      case measure => simp [intOf]; omega
    · obtain rfl : k = n := by omega
      clear HX HY
      go_wp2_with fail
      go_ret
      exact ⟨rfl, B.out⟩
theorem news_l {w : World} {a : Addr} {l : List Ob} (h : SlA w (some a) l) : ∀ j u, (flatO l)[j]? = some u → w.cell? (a.add j) = some u := fun j u hj => by
  rcases h with rfl | ⟨b, off, e, _, h⟩
  · simp [flatO] at hj
  · obtain rfl := Option.some.inj e
    have lj : j < l.length * 8 := by
      have := (List.getElem?_eq_some_iff.1 hj).1
      rwa [flatO_len] at this
    have hi : j / 8 < l.length := by omega
    have hr : j % 8 < (obsC l[j / 8]).length := Nat.mod_lt _ (by omega)
    have e1 := flatO_get hi (List.getElem?_eq_getElem hr)
    rw [show j / 8 * 8 + j % 8 = j by omega] at e1
    have := h (j / 8) hi (j % 8) _ (List.getElem?_eq_getElem hr)
    rw [Addr.add_mid]
    rw [show off + j / 8 * 8 + j % 8 = off + j by omega] at this
    rw [this, ← e1, hj]
/-- append of a slice to an empty one, as the walk meets it. -/
theorem wp_copy {ops : Array Oper} {rest : List Oper} {o : Oper} {a : Act} {Q : Exit → Act → World → Prop} (w : World) (hgd : o.guard = none) (s x : Operand)
    (ho : o.op = .call { callee := .builtin .append, args := #[s, x], argTypes := #[22, 22] })
    (l : List Ob) (ad : Addr) (cap : Nat) (hs : a.eval s = .slice (some ⟨w.heap.size, 0, none⟩) 0 0) (hx : a.eval x = .slice (some ad) l.length cap) (hsl : SlA w (some ad) l) (hl : l.length ≤ 1000000)
    (h : ∀ v' w', OwnO w' w.heap.size v' l → Below w.heap.size w w' → wpList Tryz.prog ops Q rest (a.put o.dst v') w') : wpList Tryz.prog ops Q (o :: rest) a (w.alloc (.cells #[] 44)) := by
  obtain ⟨i0, hi, hz0, hz1, hz2⟩ := info_parts infoO
  have b1 : Below w.heap.size w (w.alloc (.cells #[] 44)) := (Below.refl _ _).alloc (Nat.le_refl _) _
  have ho' := World.ownsRow_made (e := 44) (size := 8) w #[] 0 (Nat.le_refl _) (Nat.zero_le _) rfl
  refine wpList_append_own _ hgd s x 22 ho w.heap.size 44 i0 _ 8 80 Tryz.underlying22 hi hz0 hz1 hz2 rfl (by decide) _ 0 [] hs ho' ad l.length cap (flatO l) hx (flatO_len l) (news_l (hsl.below b1)) (fun u hu => ?_) (by unfold maxLen; omega) (by omega) b1.size ?_
  · obtain ⟨q, _, hq⟩ := List.mem_flatMap.1 hu
    exact obsC_one q u hq
  · intro v' w' h1 h2 _
    rw [Nat.zero_add, List.nil_append] at h1
    have hb : Below w.heap.size w w' := b1.trans ((Below.refl _ _).grown h2 b1.size (fun k hk => (ho'.lt k hk).1))
    exact h v' w' ⟨h1, hb.size⟩ hb
theorem wp_copy0 {ops : Array Oper} {rest : List Oper} {o : Oper} {a : Act} {Q : Exit → Act → World → Prop} (w : World) (hgd : o.guard = none) (s x : Operand)
    (ho : o.op = .call { callee := .builtin .append, args := #[s, x], argTypes := #[22, 22] })
    (hs : a.eval s = .slice (some ⟨w.heap.size, 0, none⟩) 0 0) (hx : a.eval x = .slice none 0 0)
    (h : ∀ v' w', OwnO w' w.heap.size v' [] → Below w.heap.size w w' → wpList Tryz.prog ops Q rest (a.put o.dst v') w') : wpList Tryz.prog ops Q (o :: rest) a (w.alloc (.cells #[] 44)) := by
  obtain ⟨i0, hi, hz0, hz1, hz2⟩ := info_parts infoO
  have b1 : Below w.heap.size w (w.alloc (.cells #[] 44)) := (Below.refl _ _).alloc (Nat.le_refl _) _
  have ho' := World.ownsRow_made (e := 44) (size := 8) w #[] 0 (Nat.le_refl _) (Nat.zero_le _) rfl
  exact wpList_append_own_none hgd s x 22 ho w.heap.size 44 i0 8 Tryz.underlying22 hi _ 0 [] hs ho' hx (h _ _ ⟨ho', b1.size⟩ b1)
end Ow
end Go.Proofs.YtjgcbeihgeaimaaGreatDoor
/-
  Plain law of tracklets: products with a sign, their differences, and bounds; no walk here.
-/
namespace Go.Proofs.YtjgcbeihgeaimaaGreatDoor
namespace Tk

/-- The sign of a product. -/
def sgn (a b : Int) : Bool := decide (a < 0) != decide (b < 0)
/-- Its absolute value. -/
def mag (a b : Int) : Nat := a.natAbs * b.natAbs
theorem prod_val (a b : Int) : a * b = if sgn a b = true then -((mag a b : Nat) : Int) else ((mag a b : Nat) : Int) := by
  have e : ((mag a b : Nat) : Int) = (a.natAbs : Int) * (b.natAbs : Int) := Int.natCast_mul _ _
  rw [e]
  unfold sgn
  by_cases h1 : a < 0 <;> by_cases h2 : b < 0
  · have x : (a.natAbs : Int) = -a := by omega
    have y : (b.natAbs : Int) = -b := by omega
    rw [x, y]
    simp [h1, h2, Int.neg_mul, Int.mul_neg, Int.neg_neg]
  · have x : (a.natAbs : Int) = -a := by omega
    have y : (b.natAbs : Int) = b := by omega
    rw [x, y]
    simp [h1, h2, Int.neg_mul, Int.mul_neg, Int.neg_neg]
  · have x : (a.natAbs : Int) = a := by omega
    have y : (b.natAbs : Int) = -b := by omega
    rw [x, y]
    simp [h1, h2, Int.neg_mul, Int.mul_neg, Int.neg_neg]
  · have x : (a.natAbs : Int) = a := by omega
    have y : (b.natAbs : Int) = b := by omega
    rw [x, y]
    simp [h1, h2, Int.neg_mul, Int.mul_neg, Int.neg_neg]
/-- The absolute value of a difference, as the program reckons it. -/
def minusA (s : Bool) (m : Nat) (t : Bool) (n : Nat) : Nat := if s ≠ t then m + n else if n ≤ m then m - n else n - m
theorem minus_is (a b c d : Int) : minusA (sgn a b) (mag a b) (sgn c d) (mag c d) = (a * b - c * d).natAbs := by
  rw [prod_val a b, prod_val c d]
  generalize mag a b = m
  generalize mag c d = n
  unfold minusA
  cases sgn a b <;> cases sgn c d <;> simp <;> (try split) <;> omega
end Tk
end Go.Proofs.YtjgcbeihgeaimaaGreatDoor
/-
  The boxes of a call: what lies in each, kept through calls, allocations and stores.
-/
namespace Go.Proofs.YtjgcbeihgeaimaaGreatDoor
namespace Tw
open Go.RowKit Lw

/-- The blocks that a call has made, with what they hold; what lay before the call lies as it lay. -/
structure Fr (w0 : World) (L : List (Nat × List Value)) (w : World) : Prop where
  below : Below w0.heap.size w0 w
  lo : ∀ p ∈ L, w0.heap.size ≤ p.1
  hi : ∀ p ∈ L, p.1 < w.heap.size
  nd : (L.map Prod.fst).Nodup
  row : ∀ p ∈ L, w.rangeAt p.1 0 p.2
  th : ∀ p ∈ L, w.there p.1 0 p.2.length
theorem Fr.start (w : World) : Fr w [] w := ⟨Below.refl _ _, fun p h => (by cases h), fun p h => (by cases h), List.nodup_nil, fun p h => (by cases h), fun p h => (by cases h)⟩
theorem Fr.call {w0 w w' : World} {L : List (Nat × List Value)} (h : Fr w0 L w) (hb : Below w.heap.size w w') : Fr w0 L w' :=
  ⟨below_then h.below hb, h.lo, fun p hp => Nat.lt_of_lt_of_le (h.hi p hp) hb.size, h.nd, fun p hp => rangeAt_below (h.row p hp) hb (h.hi p hp), fun p hp => there_below (h.th p hp) hb (h.hi p hp)⟩
theorem Fr.alloc {w0 w : World} {L : List (Nat × List Value)} (h : Fr w0 L w) (vs : List Value) (t : TypeId) : Fr w0 ((w.heap.size, vs) :: L) (w.alloc (.cells vs.toArray t)) := by
  have hb := (Below.refl w.heap.size w).alloc (Nat.le_refl _) (.cells vs.toArray t)
  have h' := h.call hb
  refine ⟨h'.below, fun p hp => ?_, fun p hp => ?_, ?_, fun p hp => ?_, fun p hp => ?_⟩
  · rcases List.mem_cons.1 hp with rfl | hp
    · exact h.below.size
    · exact h.lo p hp
  · rcases List.mem_cons.1 hp with rfl | hp
    · simp
    · exact h'.hi p hp
  · rw [List.map_cons, List.nodup_cons]
    refine ⟨fun hm => ?_, h.nd⟩
    obtain ⟨p, hp, e⟩ := List.mem_map.1 hm
    have := h.hi p hp
    simp only at e
    omega
  · rcases List.mem_cons.1 hp with rfl | hp
    · exact rangeAt_new w vs t
    · exact h'.row p hp
  · rcases List.mem_cons.1 hp with rfl | hp
    · exact there_new w _ t _ (by simp)
    · exact h'.th p hp
theorem Fr.get {w0 w : World} {L : List (Nat × List Value)} (h : Fr w0 L w) (k : Nat) {b : Nat} {vs : List Value} (hk : L[k]? = some (b, vs)) : w.rangeAt b 0 vs := h.row _ (List.mem_of_getElem? hk)
theorem Fr.there {w0 w : World} {L : List (Nat × List Value)} (h : Fr w0 L w) (k : Nat) {b : Nat} {vs : List Value} (hk : L[k]? = some (b, vs)) : w.there b 0 vs.length := h.th _ (List.mem_of_getElem? hk)
theorem Fr.cell {w0 w : World} {L : List (Nat × List Value)} (h : Fr w0 L w) (k j : Nat) {b : Nat} {vs : List Value} {v : Value} (hk : L[k]? = some (b, vs)) (hj : vs[j]? = some v) : w.cell? ⟨b, j, none⟩ = some v := by
  have := h.get k hk j v hj
  rwa [Nat.zero_add] at this
theorem Fr.free {w0 w : World} {L : List (Nat × List Value)} (h : Fr w0 L w) (k j : Nat) {b : Nat} {vs : List Value} (hk : L[k]? = some (b, vs)) (hj : j < vs.length) : w.frozen? ⟨b, j, none⟩ = false := by
  have := (h.there k hk j hj).2
  rwa [Nat.zero_add] at this
theorem Fr.fz {w0 w : World} {L : List (Nat × List Value)} (h : Fr w0 L w) (k j : Nat) {b : Nat} {vs : List Value} {v : Value} (hk : L[k]? = some (b, vs)) (hj : vs[j]? = some v) : w.frozen? ⟨b, j, none⟩ = false :=
  h.free k j hk (List.getElem?_eq_some_iff.1 hj).1
theorem Fr.least {w0 w : World} {L : List (Nat × List Value)} (h : Fr w0 L w) (k : Nat) {b : Nat} {vs : List Value} (hk : L[k]? = some (b, vs)) : w0.heap.size ≤ b ∧ b < w.heap.size := ⟨h.lo _ (List.mem_of_getElem? hk), h.hi _ (List.mem_of_getElem? hk)⟩
theorem sizes (b : Nat) : ∀ (vs : List Value) (o : Nat) (w : World), (w.setCells b o vs).heap.size = w.heap.size
  | [], _, _ => rfl
  | v :: r, o, w => by rw [World.setCells, sizes b r (o + 1)]; simp
/-- A store into some cells of a box. -/
theorem Fr.set {w0 w : World} {L : List (Nat × List Value)} (h : Fr w0 L w) (k : Nat) {b : Nat} {vs : List Value} (hk : L[k]? = some (b, vs)) (o : Nat) (xs : List Value) (vs' : List Value) (hl : vs'.length = vs.length) (ho : o + xs.length ≤ vs.length)
    (e1 : ∀ j, j < xs.length → vs'[o + j]? = xs[j]?) (e2 : ∀ j, j < o ∨ o + xs.length ≤ j → vs'[j]? = vs[j]?) : Fr w0 (L.set k (b, vs')) (w.setCells b o xs) := by
  have hkl : k < L.length := (List.getElem?_eq_some_iff.1 hk).1
  have hkv : L[k] = (b, vs) := (List.getElem?_eq_some_iff.1 hk).2
  have hb := h.least k hk
  have mem : ∀ p ∈ L.set k (b, vs'), p = (b, vs') ∨ (p ∈ L ∧ p.1 ≠ b) := by
    intro p hp
    obtain ⟨i, hi, rfl⟩ := List.getElem_of_mem hp
    rw [List.length_set] at hi
    by_cases e : k = i
    · subst e; left; rw [List.getElem_set_self]
    · right
      rw [List.getElem_set_ne e]
      refine ⟨List.getElem_mem _, fun q => ?_⟩
      have n := List.pairwise_iff_getElem.1 h.nd
      have nk : ∀ a c (ha : a < L.length) (hc : c < L.length), a < c → L[a].1 ≠ L[c].1 := fun a c ha hc hac => by
        have := n a c (by simpa using ha) (by simpa using hc) hac
        simpa using this
      rcases Nat.lt_or_ge k i with g | g
      · exact nk k i hkl hi g (by rw [hkv]; exact q.symm)
      · exact nk i k hi hkl (by omega) (by rw [hkv]; exact q)
  refine ⟨below_setCells b hb.1 xs o w h.below, fun p hp => ?_, fun p hp => ?_, ?_, fun p hp => ?_, fun p hp => ?_⟩
  · rcases mem p hp with rfl | ⟨hp, -⟩
    · exact hb.1
    · exact h.lo p hp
  · rw [sizes]
    rcases mem p hp with rfl | ⟨hp, -⟩
    · exact hb.2
    · exact h.hi p hp
  · have : (L.set k (b, vs')).map Prod.fst = L.map Prod.fst := by
      rw [List.map_set]
      have : (L.map Prod.fst)[k]? = some b := by simp [hk]
      obtain ⟨q1, q2⟩ := List.getElem?_eq_some_iff.1 this
      conv => rhs; rw [← List.set_getElem_self q1]
      rw [q2]
    rw [this]; exact h.nd
  · rcases mem p hp with rfl | ⟨hp, hne⟩
    · intro j v hv
      have hj : j < vs.length := by rw [← hl]; exact (List.getElem?_eq_some_iff.1 hv).1
      rw [Nat.zero_add]
      have tr := h.there k hk
      by_cases hin : o ≤ j ∧ j < o + xs.length
      · obtain ⟨i, rfl⟩ : ∃ i, j = o + i := ⟨j - o, by omega⟩
        have hi : i < xs.length := by omega
        rw [World.cell?_setCells_in b xs o w (fun i hi => by have := (tr (o + i) (by omega)).1; rwa [Nat.zero_add] at this) i hi]
        have := e1 i hi
        rw [hv, List.getElem?_eq_getElem hi] at this
        exact this.symm
      · rw [World.cell?_setCells_out b xs o w ⟨b, j, none⟩ (fun _ _ => by show j < o ∨ o + xs.length ≤ j; omega)]
        have := e2 j (by omega)
        rw [this] at hv
        have := h.get k hk j v hv
        rwa [Nat.zero_add] at this
    · exact World.rangeAt_setCells_apart (h.row p hp) b o xs (Or.inl hne)
  · rcases mem p hp with rfl | ⟨hp, -⟩
    · rw [hl]; exact World.there_setCells (h.there k hk) b o xs
    · exact World.there_setCells (h.th p hp) b o xs
/-- A store of a whole box. -/
theorem Fr.put {w0 w : World} {L : List (Nat × List Value)} (h : Fr w0 L w) (k : Nat) {b : Nat} {vs : List Value} (hk : L[k]? = some (b, vs)) (xs : List Value) (hl : xs.length = vs.length) : Fr w0 (L.set k (b, xs)) (w.setCells b 0 xs) :=
  h.set k hk 0 xs xs hl (by omega) (fun j _ => by rw [Nat.zero_add]) (fun j hj => by rw [List.getElem?_eq_none (by omega), List.getElem?_eq_none (by omega)])
/-- A store of one cell. -/
theorem Fr.put1 {w0 w : World} {L : List (Nat × List Value)} (h : Fr w0 L w) (k : Nat) {b : Nat} {vs : List Value} (hk : L[k]? = some (b, vs)) (o : Nat) (x : Value) (ho : o < vs.length) : Fr w0 (L.set k (b, vs.set o x)) (w.setCell ⟨b, o, none⟩ x) :=
  h.set k hk o [x] (vs.set o x) (by simp) (by show o + 1 ≤ _; omega) (fun j hj => by
    have : j = 0 := by simpa using hj
    subst this
    simp [ho]) (fun j hj => List.getElem?_set_ne (by rcases hj with h | h <;> (try simp at h) <;> omega))
theorem Fr.drewN {w0 w : World} {L : List (Nat × List Value)} (h : Fr w0 L w) (n : Nat) : Fr w0 L (w.drewN n) :=
  ⟨drewN_below2 h.below n, h.lo, fun p hp => by simpa using h.hi p hp, h.nd, fun p hp j v hv => by simpa using h.row p hp j v hv, fun p hp => there_drewN (h.th p hp) n⟩
theorem Fr.drew {w0 w : World} {L : List (Nat × List Value)} (h : Fr w0 L w) : Fr w0 L w.drew := h.drewN 1
/-- The boxes, and what lay at some later world. -/
def Fr2 (w0 : World) (L : List (Nat × List Value)) (W w : World) : Prop := Fr w0 L w ∧ Below W.heap.size W w
theorem Fr.two {w0 w : World} {L : List (Nat × List Value)} (h : Fr w0 L w) : Fr2 w0 L w w := ⟨h, Below.refl _ _⟩
theorem Fr2.call {w0 W w w' : World} {L : List (Nat × List Value)} (h : Fr2 w0 L W w) (hb : Below w.heap.size w w') : Fr2 w0 L W w' := ⟨h.1.call hb, below_then h.2 hb⟩
theorem Fr2.drew {w0 W w : World} {L : List (Nat × List Value)} (h : Fr2 w0 L W w) : Fr2 w0 L W w.drew := ⟨h.1.drew, h.2.drew⟩
theorem Fr2.drewN {w0 W w : World} {L : List (Nat × List Value)} (h : Fr2 w0 L W w) (n : Nat) : Fr2 w0 L W (w.drewN n) := ⟨h.1.drewN n, drewN_below2 h.2 n⟩
theorem Fr.tail {w0 w : World} {p : Nat × List Value} {L : List (Nat × List Value)} (h : Fr w0 (p :: L) w) : Fr w0 L w :=
  ⟨h.below, fun q hq => h.lo q (List.mem_cons_of_mem _ hq), fun q hq => h.hi q (List.mem_cons_of_mem _ hq), (List.nodup_cons.1 (by have := h.nd; rwa [List.map_cons] at this)).2, fun q hq => h.row q (List.mem_cons_of_mem _ hq), fun q hq => h.th q (List.mem_cons_of_mem _ hq)⟩
theorem Fr2.tail {w0 W w : World} {p : Nat × List Value} {L : List (Nat × List Value)} (h : Fr2 w0 (p :: L) W w) : Fr2 w0 L W w := ⟨h.1.tail, h.2⟩
theorem Fr2.alloc {w0 W w : World} {L : List (Nat × List Value)} (h : Fr2 w0 L W w) (vs : List Value) (t : TypeId) : Fr2 w0 ((w.heap.size, vs) :: L) W (w.alloc (.cells vs.toArray t)) := ⟨h.1.alloc vs t, h.2.alloc h.2.size _⟩
end Tw
end Go.Proofs.YtjgcbeihgeaimaaGreatDoor
/-
  Walks of tracklets: products of 128 bits, their differences and their order.
-/
namespace Go.Proofs.YtjgcbeihgeaimaaGreatDoor
namespace Tw
open Go.RowKit Lw Tk

/-- A product as the program keeps it. -/
abbrev sgC (s : Bool) (m : Nat) : List Value := [.bool s, .int .u64 ((m : Int) / 18446744073709551616), .int .u64 ((m : Int) % 18446744073709551616)]
abbrev sgV (s : Bool) (m : Nat) : Value := .agg (sgC s m).toArray
theorem infoSg : (Tryz.prog.info? 77).map (·.size) = some 3 := by kernel_rfl
theorem run_add (x y c : Nat) (hc : c ≤ 1) (w : World) : (callFunc 54 #[.int .u64 x, .int .u64 y, .int .u64 c]).run Tryz.prog w =
      .ok (.value (.tuple #[.int .u64 (((x + y + c) % 18446744073709551616 : Nat) : Int), .int .u64 (((x + y + c) / 18446744073709551616 : Nat) : Int)])) w := by
  rw [run_callFunc_extern Tryz.func54 (by kernel_rfl) (by kernel_rfl) (by kernel_rfl) (e := add64Entry) (by kernel_rfl), run_add64 x y c (by omega) (by omega) (by omega) (by omega)]
  simp only [Result.andThen]
  congr 5 <;> omega
theorem run_sub (x y b : Nat) (hb : b ≤ 1) (w : World) : (callFunc 55 #[.int .u64 x, .int .u64 y, .int .u64 b]).run Tryz.prog w =
      .ok (.value (.tuple #[.int .u64 (((x + 18446744073709551616 - y - b) % 18446744073709551616 : Nat) : Int), .int .u64 ((if x < y + b then 1 else 0 : Nat) : Int)])) w := by
  rw [run_callFunc_extern Tryz.func55 (by kernel_rfl) (by kernel_rfl) (by kernel_rfl) (e := sub64Entry) (by kernel_rfl), run_sub64 x y b hb]
  rfl
theorem max_abs (a : Int) : max a (-a) = (a.natAbs : Int) := by omega
theorem mag_lt {a b : Int} (ha : a.natAbs < 9223372036854775808) (hb : b.natAbs < 9223372036854775808) : mag a b < 85070591730234615865843651857942052864 := by
  unfold mag
  rcases Nat.eq_zero_or_pos b.natAbs with h | h
  · rw [h]; omega
  · have h1 : a.natAbs * b.natAbs < 9223372036854775808 * b.natAbs := Nat.mul_lt_mul_of_pos_right ha h
    have h2 : 9223372036854775808 * b.natAbs ≤ 9223372036854775808 * 9223372036854775808 := Nat.mul_le_mul_left _ (by omega)
    omega
set_option maxRecDepth 100000 in
set_option maxHeartbeats 2000000 in
theorem product_any (a b : Int) (w : World) (ha : a.natAbs < 9223372036854775808) (hb : b.natAbs < 9223372036854775808) :
    Calls Tryz.prog 35 #[.int .i64 a, .int .i64 b] w fun e w' => e = .returned (sgV (sgn a b) (mag a b)) ∧ Below w.heap.size w w' := by
  have M := fun w' => Tryz.bits_Mul64 a.natAbs b.natAbs (by omega) (by omega) w'
  have hB := (Below.refl w.heap.size w).alloc (Nat.le_refl _) (.cells (sgC (sgn a b) (mag a b)).toArray 77)
  have hR := rangeAt_new w (sgC (sgn a b) (mag a b)) 77
  have HB := Lib.hid hB
  have HR := Lib.hid hR
  have em : a.natAbs * b.natAbs = mag a b := rfl
  rw [em] at M
  have es : Hid ((!decide (a < 0) == decide (b < 0)) = sgn a b) := Lib.hid rfl
  generalize mag a b = m at *
  generalize sgn a b = s at *
  clear hB hR em
  go_enter Tryz.func35, Tryz.ntmps35
  go_wp2_with fail
  rw [max_abs, max_abs]
  refine (M _).mono ?_
  rintro e w1 ⟨rfl, rfl⟩
  go_wp2_with fail
  rw [es.out]
  exact bodyPost_ret (ret_cell Tryz.results35 _ _ w.heap.size (sgC s m) _ rfl HR.out Tryz.underlying77 rfl infoSg) rfl ⟨rfl, HB.out⟩
theorem bool_ret {a b : Bool} (h : a = b) : Ending.returned (.bool a) = .returned (.bool b) := by rw [h]
/-- Two products of 128 bits, compared. -/
theorem split_le (m n : Nat) : (m / 18446744073709551616 < n / 18446744073709551616 ∨ (m / 18446744073709551616 = n / 18446744073709551616 ∧ m % 18446744073709551616 ≤ n % 18446744073709551616)) ↔ m ≤ n := by
  omega
set_option maxRecDepth 100000 in
set_option maxHeartbeats 2000000 in
theorem atmost_any (s t : Bool) (m n : Nat) (w : World) :
    Calls Tryz.prog 37 #[sgV s m, sgV t n] w fun e w' => e = .returned (.bool (decide (m ≤ n))) ∧ Below w.heap.size w w' := by
  have hB := ((Below.refl w.heap.size w).alloc (Nat.le_refl _) (.cells (sgC s m).toArray 77)).alloc (by simp) (.cells (sgC t n).toArray 77)
  have HB := Lib.hid hB
  have SL := Lib.hid (split_le m n)
  clear hB
  go_enter Tryz.func37, Tryz.ntmps37
  go_wp2_with fail
  all_goals refine bodyPost_ret (results_tmp rfl _ _ _) rfl ⟨?_, HB.out⟩
  all_goals first | exact bool_ret (decide_eq_decide.2 (by omega)) | exact bool_ret (decide_eq_true (by omega)).symm
theorem tup {a b c d : Int} (w : World) (h1 : a = c) (h2 : b = d) : Result.ok (Next.value (.tuple #[.int .u64 a, .int .u64 b])) w = Result.ok (Next.value (.tuple #[.int .u64 c, .int .u64 d])) w := by rw [h1, h2]
theorem add_lo (m n : Nat) (w : World) : (callFunc 54 #[.int .u64 ((m : Int) % 18446744073709551616), .int .u64 ((n : Int) % 18446744073709551616), .int .u64 0]).run Tryz.prog w =
    .ok (.value (.tuple #[.int .u64 (((m : Int) + (n : Int)) % 18446744073709551616), .int .u64 (((m % 18446744073709551616 + n % 18446744073709551616) / 18446744073709551616 : Nat) : Int)])) w := by
  have h := run_add (m % 18446744073709551616) (n % 18446744073709551616) 0 (by omega) w
  rw [Int.natCast_emod, Int.natCast_emod] at h
  rw [show ((0 : Nat) : Int) = 0 from rfl] at h
  exact h.trans (tup w (by omega) (by omega))
theorem add_hi (m n : Nat) (h1 : m < 85070591730234615865843651857942052864) (h2 : n < 85070591730234615865843651857942052864) (w : World) : (callFunc 54 #[.int .u64 ((m : Int) / 18446744073709551616), .int .u64 ((n : Int) / 18446744073709551616), .int .u64 (((m % 18446744073709551616 + n % 18446744073709551616) / 18446744073709551616 : Nat) : Int)]).run Tryz.prog w =
    .ok (.value (.tuple #[.int .u64 (((m : Int) + (n : Int)) / 18446744073709551616), .int .u64 0])) w := by
  have h := run_add (m / 18446744073709551616) (n / 18446744073709551616) ((m % 18446744073709551616 + n % 18446744073709551616) / 18446744073709551616) (by omega) w
  rw [show (((m / 18446744073709551616 : Nat)) : Int) = (m : Int) / 18446744073709551616 by omega, show (((n / 18446744073709551616 : Nat)) : Int) = (n : Int) / 18446744073709551616 by omega] at h
  exact h.trans (tup w (by omega) (by omega))
theorem sub_lo (m n : Nat) (w : World) : (callFunc 55 #[.int .u64 ((m : Int) % 18446744073709551616), .int .u64 ((n : Int) % 18446744073709551616), .int .u64 0]).run Tryz.prog w =
    .ok (.value (.tuple #[.int .u64 (((m : Int) - (n : Int)) % 18446744073709551616), .int .u64 ((if m % 18446744073709551616 < n % 18446744073709551616 then 1 else 0 : Nat) : Int)])) w := by
  have h := run_sub (m % 18446744073709551616) (n % 18446744073709551616) 0 (by omega) w
  rw [Int.natCast_emod, Int.natCast_emod] at h
  rw [show ((0 : Nat) : Int) = 0 from rfl] at h
  exact h.trans (tup w (by omega) (by rfl))
theorem sub_hi (m n : Nat) (h1 : n ≤ m) (h2 : m < 85070591730234615865843651857942052864) (w : World) : (callFunc 55 #[.int .u64 ((m : Int) / 18446744073709551616), .int .u64 ((n : Int) / 18446744073709551616), .int .u64 ((if m % 18446744073709551616 < n % 18446744073709551616 then 1 else 0 : Nat) : Int)]).run Tryz.prog w =
    .ok (.value (.tuple #[.int .u64 (((m : Int) - (n : Int)) / 18446744073709551616), .int .u64 0])) w := by
  have h := run_sub (m / 18446744073709551616) (n / 18446744073709551616) (if m % 18446744073709551616 < n % 18446744073709551616 then 1 else 0) (by split <;> omega) w
  rw [show (((m / 18446744073709551616 : Nat)) : Int) = (m : Int) / 18446744073709551616 by omega, show (((n / 18446744073709551616 : Nat)) : Int) = (n : Int) / 18446744073709551616 by omega] at h
  exact h.trans (tup w (by split <;> omega) (by split <;> (try split) <;> omega))
theorem sub_both (m n : Nat) (h1 : n ≤ m) (h2 : m < 85070591730234615865843651857942052864) : ∃ c : Int,
    (∀ w, (callFunc 55 #[.int .u64 ((m : Int) % 18446744073709551616), .int .u64 ((n : Int) % 18446744073709551616), .int .u64 0]).run Tryz.prog w = .ok (.value (.tuple #[.int .u64 (((m : Int) - (n : Int)) % 18446744073709551616), .int .u64 c])) w) ∧
    ∀ w, (callFunc 55 #[.int .u64 ((m : Int) / 18446744073709551616), .int .u64 ((n : Int) / 18446744073709551616), .int .u64 c]).run Tryz.prog w = .ok (.value (.tuple #[.int .u64 (((m : Int) - (n : Int)) / 18446744073709551616), .int .u64 0])) w :=
  ⟨_, sub_lo m n, sub_hi m n h1 h2⟩
theorem add_both (m n : Nat) (h1 : m < 85070591730234615865843651857942052864) (h2 : n < 85070591730234615865843651857942052864) : ∃ c : Int,
    (∀ w, (callFunc 54 #[.int .u64 ((m : Int) % 18446744073709551616), .int .u64 ((n : Int) % 18446744073709551616), .int .u64 0]).run Tryz.prog w = .ok (.value (.tuple #[.int .u64 (((m : Int) + (n : Int)) % 18446744073709551616), .int .u64 c])) w) ∧
    ∀ w, (callFunc 54 #[.int .u64 ((m : Int) / 18446744073709551616), .int .u64 ((n : Int) / 18446744073709551616), .int .u64 c]).run Tryz.prog w = .ok (.value (.tuple #[.int .u64 (((m : Int) + (n : Int)) / 18446744073709551616), .int .u64 0])) w :=
  ⟨_, add_lo m n, add_hi m n h1 h2⟩
set_option maxRecDepth 100000 in
set_option maxHeartbeats 2000000 in
theorem minus_any (s t : Bool) (m n : Nat) (w : World) (h1 : m < 85070591730234615865843651857942052864) (h2 : n < 85070591730234615865843651857942052864) :
    Calls Tryz.prog 36 #[sgV s m, sgV t n] w fun e w' => e = .returned (sgV false (minusA s m t n)) ∧ Below w.heap.size w w' := by
  by_cases hst : s = t
  · subst hst
    have F0 := (((Fr.start w).alloc (sgC s m) 77).alloc (sgC s n) 77).alloc [.bool false, .int .u64 0, .int .u64 0] 77
    simp only [World.size_alloc] at F0
    have AM := fun w' => atmost_any s s n m w'
    rcases Nat.lt_or_ge m n with hc | hc
    · have hv : minusA s m s n = n - m := by unfold minusA; rw [if_neg (by simp), if_neg (by omega)]
      obtain ⟨c, SL, SH⟩ := sub_both n m (Nat.le_of_lt hc) h2
      have ev : Hid ((n : Int) - (m : Int) = ((minusA s m s n : Nat) : Int)) := Lib.hid (by rw [hv]; omega)
      have dn : decide (n ≤ m) = false := decide_eq_false (by omega)
      rw [dn] at AM
      clear hv dn hc h1 h2
      generalize minusA s m s n = r at *
      have F0 := Lib.hid F0
      go_enter Tryz.func36, Tryz.ntmps36
      go_wp2_with fail
      refine (AM _).mono ?_
      rintro e w2 ⟨rfl, hb⟩
      have F2 := F0.out.call hb
      have c20 := F2.cell 2 0 rfl rfl
      have f20 := F2.fz 2 0 rfl rfl
      have c21 := F2.cell 2 1 rfl rfl
      have f21 := F2.fz 2 1 rfl rfl
      have c22 := F2.cell 2 2 rfl rfl
      have f22 := F2.fz 2 2 rfl rfl
      have c10 := F2.cell 1 0 rfl rfl
      have f10 := F2.fz 1 0 rfl rfl
      have c11 := F2.cell 1 1 rfl rfl
      have f11 := F2.fz 1 1 rfl rfl
      have c12 := F2.cell 1 2 rfl rfl
      have f12 := F2.fz 1 2 rfl rfl
      have c00 := F2.cell 0 0 rfl rfl
      have f00 := F2.fz 0 0 rfl rfl
      have c01 := F2.cell 0 1 rfl rfl
      have f01 := F2.fz 0 1 rfl rfl
      have c02 := F2.cell 0 2 rfl rfl
      have f02 := F2.fz 0 2 rfl rfl
      have F2 := Lib.hid F2
      clear hb AM F0
      go_wp2_with (first | simp only [SL] | simp only [SH] | fail)
      rw [ev.out]
      have FF := ((F2.out.put 2 rfl (sgC s n) rfl).put 1 rfl (sgC s m) rfl).put 0 rfl (sgC false r) rfl
      exact bodyPost_ret (ret_cell Tryz.results36 _ _ (w.heap.size + 1 + 1) (sgC false r) _ rfl (FF.get 0 rfl) Tryz.underlying77 rfl infoSg) rfl ⟨rfl, FF.below⟩
    · have hv : minusA s m s n = m - n := by unfold minusA; rw [if_neg (by simp), if_pos hc]
      obtain ⟨c, SL, SH⟩ := sub_both m n hc h1
      have ev : Hid ((m : Int) - (n : Int) = ((minusA s m s n : Nat) : Int)) := Lib.hid (by rw [hv]; omega)
      have dn : decide (n ≤ m) = true := decide_eq_true hc
      rw [dn] at AM
      clear hv dn hc h1 h2
      generalize minusA s m s n = r at *
      have F0 := Lib.hid F0
      go_enter Tryz.func36, Tryz.ntmps36
      go_wp2_with fail
      refine (AM _).mono ?_
      rintro e w2 ⟨rfl, hb⟩
      have F2 := F0.out.call hb
      have c20 := F2.cell 2 0 rfl rfl
      have f20 := F2.fz 2 0 rfl rfl
      have c21 := F2.cell 2 1 rfl rfl
      have f21 := F2.fz 2 1 rfl rfl
      have c22 := F2.cell 2 2 rfl rfl
      have f22 := F2.fz 2 2 rfl rfl
      have c10 := F2.cell 1 0 rfl rfl
      have f10 := F2.fz 1 0 rfl rfl
      have c11 := F2.cell 1 1 rfl rfl
      have f11 := F2.fz 1 1 rfl rfl
      have c12 := F2.cell 1 2 rfl rfl
      have f12 := F2.fz 1 2 rfl rfl
      have c00 := F2.cell 0 0 rfl rfl
      have f00 := F2.fz 0 0 rfl rfl
      have c01 := F2.cell 0 1 rfl rfl
      have f01 := F2.fz 0 1 rfl rfl
      have c02 := F2.cell 0 2 rfl rfl
      have f02 := F2.fz 0 2 rfl rfl
      have F2 := Lib.hid F2
      clear hb AM F0
      go_wp2_with (first | simp only [SL] | simp only [SH] | fail)
      rw [ev.out]
      have FF := F2.out.put 0 rfl (sgC false r) rfl
      exact bodyPost_ret (ret_cell Tryz.results36 _ _ (w.heap.size + 1 + 1) (sgC false r) _ rfl (FF.get 0 rfl) Tryz.underlying77 rfl infoSg) rfl ⟨rfl, FF.below⟩
  · have hv : minusA s m t n = m + n := by unfold minusA; rw [if_pos hst]
    have F0 := (((Fr.start w).alloc (sgC s m) 77).alloc (sgC t n) 77).alloc (sgC false (minusA s m t n)) 77
    simp only [World.size_alloc] at F0
    obtain ⟨c, SL, SH⟩ := add_both m n h1 h2
    have ev : Hid ((m : Int) + (n : Int) = ((minusA s m t n : Nat) : Int)) := Lib.hid (by rw [hv]; omega)
    have hq : (s == t) = false := by simpa using hst
    clear hv h1 h2 hst
    generalize minusA s m t n = r at *
    have F0 := Lib.hid F0
    go_enter Tryz.func36, Tryz.ntmps36
    go_wp2_with (first | simp only [SL] | simp only [SH] | fail)
    rw [ev.out]
    exact bodyPost_ret (ret_cell Tryz.results36 _ _ (w.heap.size + 1 + 1) (sgC false r) _ rfl (F0.out.get 0 rfl) Tryz.underlying77 rfl infoSg) rfl ⟨rfl, F0.out.below⟩
end Tw
end Go.Proofs.YtjgcbeihgeaimaaGreatDoor
/-
  A rule: what it holds, and the walks of Check on both sides.
-/
namespace Go.Proofs.YtjgcbeihgeaimaaGreatDoor
namespace Tw
open Go.RowKit Lw

structure Rl where
  least : Int
  most : Int
  speed : Int
  off : Int
  count : Int
abbrev rlC (u : Rl) : List Value := [.int .i64 u.least, .int .i64 u.most, .int .i64 u.speed, .int .i64 u.off, .int .i64 u.count]
abbrev rlV (u : Rl) : Value := .agg (rlC u).toArray
def okR (u : Rl) : Prop := (1 ≤ u.least ∧ u.least ≤ u.most ∧ u.most ≤ 172800000000) ∧ (0 ≤ u.speed ∧ u.speed ≤ 72000000000) ∧ (0 ≤ u.off ∧ u.off ≤ 3600000000) ∧ 2 ≤ u.count ∧ u.count ≤ 200
instance (u : Rl) : Decidable (okR u) := by unfold okR; exact inferInstance
def ckR (u : Rl) : Int := if okR u then 0 else 8
theorem ck_yes {u : Rl} (h : okR u) : Ending.returned (.int .i64 0) = .returned (.int .i64 (ckR u)) := by rw [ckR, if_pos h]
theorem ck_no {u : Rl} (h : ¬ okR u) : Ending.returned (.int .i64 8) = .returned (.int .i64 (ckR u)) := by rw [ckR, if_neg h]
set_option maxRecDepth 100000 in
set_option maxHeartbeats 4000000 in
theorem rule_any (u : Rl) (w : World) : Calls Tryz.prog 9 #[rlV u] w fun e w' => e = .returned (.int .i64 (ckR u)) ∧ Below w.heap.size w w' := by
  have HB := Lib.hid ((Below.refl w.heap.size w).alloc (Nat.le_refl _) (.cells (rlC u).toArray 24))
  have Y := Lib.hid (@ck_yes u)
  have Z := Lib.hid (@ck_no u)
  unfold okR at Y Z
  go_enter Tryz.func9, Tryz.ntmps9
  go_wp2_with fail
  all_goals go_ret
  all_goals first | exact ⟨Y.out (by omega), HB.out⟩ | exact ⟨Z.out (by omega), HB.out⟩ | (have hq := ‹(!decide (u.count ≤ 200)) = true›; simp at hq; exact ⟨Z.out (by omega), HB.out⟩) | (have hq := ‹(!decide (u.count ≤ 200)) = false›; simp at hq; exact ⟨Y.out (by omega), HB.out⟩)
set_option maxRecDepth 100000 in
set_option maxHeartbeats 4000000 in
theorem rrule_any (u : Rl) (w : World) : Calls Tryz.prog 10 #[rlV u] w fun e w' => e = .returned (.int .i64 (ckR u)) ∧ Below w.heap.size w w' := by
  have HB := Lib.hid ((Below.refl w.heap.size w).alloc (Nat.le_refl _) (.cells (rlC u).toArray 24))
  have Y := Lib.hid (@ck_yes u)
  have Z := Lib.hid (@ck_no u)
  unfold okR at Y Z
  go_enter Tryz.func10, Tryz.ntmps10
  go_wp2_with fail
  all_goals go_ret
  all_goals first | exact ⟨Y.out (by omega), HB.out⟩ | exact ⟨Z.out (by omega), HB.out⟩
end Tw
end Go.Proofs.YtjgcbeihgeaimaaGreatDoor
/-
  Plain law of tracklets: allowed pairs, and what lies between them.
-/
namespace Go.Proofs.YtjgcbeihgeaimaaGreatDoor
namespace Tk
open _root_.Go.Proofs.YtjgcbeihgeaimaaGreatDoor.Op Tw

def dX (a b : Ob) : Int := Pl.dif b.ra a.ra
def dY (a b : Ob) : Int := b.dec - a.dec
def dT (a b : Ob) : Int := b.t - a.t
/-- A pair is allowed. -/
def alw (u : Rl) (a b : Ob) : Prop := a.site = b.site ∧ u.least ≤ dT a b ∧ dT a b ≤ u.most ∧ mag (dX a b) 86400000000 ≤ mag u.speed (dT a b) ∧ mag (dY a b) 86400000000 ≤ mag u.speed (dT a b)
instance (u : Rl) (a b : Ob) : Decidable (alw u a b) := by unfold alw; exact inferInstance
/-- An observation lies between a pair, near its motion. -/
def btw (u : Rl) (a b c : Ob) : Prop := c.site = a.site ∧ 0 < dT a c ∧ dT a c < dT a b ∧ (dX a c * dT a b - dX a b * dT a c).natAbs ≤ mag u.off (dT a b) ∧ (dY a c * dT a b - dY a b * dT a c).natAbs ≤ mag u.off (dT a b)
instance (u : Rl) (a b c : Ob) : Decidable (btw u a b c) := by unfold btw; exact inferInstance
theorem time_bd {t : Int} (h : timeP t) : -2000000000000000000 ≤ t ∧ t ≤ 2000000000000000000 := by
  have h1 : -2000000000000000000 ≤ Mp.bgv (-10227) 1972 1 := by decide
  have h2 : Mp.bgv 36525 2100 1 ≤ 2000000000000000000 := by decide
  exact ⟨Int.le_trans h1 h.1, Int.le_trans (Int.le_of_lt h.2) h2⟩
structure Dif (a b : Ob) : Prop where
  x0 : -648000000000 ≤ dX a b
  x1 : dX a b ≤ 648000000000
  y0 : -648000000000 ≤ dY a b
  y1 : dY a b ≤ 648000000000
  t0 : -4000000000000000000 ≤ dT a b
  t1 : dT a b ≤ 4000000000000000000
theorem dif_of {a b : Ob} (ha : okO a) (hb : okO b) : Dif a b := by
  have t1 := time_bd ha.1
  have t2 := time_bd hb.1
  obtain ⟨x0, x1⟩ := Pl.dif_bd b.ra a.ra
  obtain ⟨-, -, -, -, -, -, a0, a1, -⟩ := ha
  obtain ⟨-, -, -, -, -, -, b0, b1, -⟩ := hb
  exact ⟨x0, x1, by unfold dY; omega, by unfold dY; omega, by unfold dT; omega, by unfold dT; omega⟩
end Tk
end Go.Proofs.YtjgcbeihgeaimaaGreatDoor
