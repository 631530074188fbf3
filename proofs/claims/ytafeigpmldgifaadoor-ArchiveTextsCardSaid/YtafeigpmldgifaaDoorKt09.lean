/-
  Lemmas and walks, texts joined: ORCut, MRef4, MRef5, MNumW, MLikeW, MRParse, MRPDay, ORRead, ORMagn, ORParse, ORRound, OPrAll, KChA, KRdAll, KPHPl, KPHex, KRHex, KRMsg, KRSha.
-/
import Derived.StillTailTactics
import Derived.Deep.RegionHeld3
import Derived.IntWalk
import Derived.RegionTactic
import Derived.BigRegion
import Derived.BigQuiet
import Derived.OwnWalk
import Derived.Lib.OthersKept
import Derived.WalkSmall
import Derived.Laws.AppendOwnNone
import Derived.Test.YtafeigpmldgifaaDoorKt07
import Derived.Test.YtafeigpmldgifaaDoorKt08
import Derived.Test.YtafeigpmldgifaaDoorKt01
import Derived.Test.YtafeigpmldgifaaDoorKt04
import Derived.Test.YtafeigpmldgifaaDoorKt05
import Derived.Test.YtafeigpmldgifaaDoorKt02
import Derived.Test.YtafeigpmldgifaaDoorKt06
set_option linter.unusedSimpArgs false
set_option linter.unusedVariables false
/-
  The walks of cut, blank, decimals of the reference of observations.
-/
namespace Go.Proofs.YtafeigpmldgifaaDoor
namespace Ow
open Go.RowKit Lw Go.Proofs.YtafeigpmldgifaaDoor.Ap Go.Proofs.YtafeigpmldgifaaDoor.Op Go.Proofs.YtafeigpmldgifaaDoor.Mp Go.Proofs.YtafeigpmldgifaaDoor.Mw Go.Proofs.YtafeigpmldgifaaDoor.At

def lenOfW : Value → Nat
  | .string s => s.size
  | _ => 0
theorem cutL_sp (l : List UInt8) : cutL (l ++ [32]) = cutL l := by
  unfold cutL
  rw [List.reverse_append, List.reverse_singleton, List.singleton_append, List.dropWhile_cons_of_pos (by rfl)]
theorem last_of {S : ByteArray} {m : Nat} (h : S.size = m + 1) (hm : m < S.size) : S.data.toList = (S.extract 0 m).data.toList ++ [S[m]'hm] := by
  rw [ext_L S 0 m (by omega), List.drop_zero, Nat.sub_zero]
  have := take_snoc S m hm
  rw [← this, List.take_of_length_le (by rw [← size_L]; omega)]
theorem cutS_sp {S : ByteArray} {m : Nat} (h : S.size = m + 1) (hm : m < S.size) (c : ((S[m]'hm).toNat : Int) = 32) : cutS (S.extract 0 m) = cutS S := by
  have e : S[m]'hm = 32 := UInt8.toNat_inj.1 (by show _ = 32; omega)
  unfold cutS
  rw [last_of h hm, e, cutL_sp]
theorem cutS_end {S : ByteArray} {m : Nat} (h : S.size = m + 1) (hm : m < S.size) (c : ¬ ((S[m]'hm).toNat : Int) = 32) : cutS S = S := by
  have e : S[m]'hm ≠ 32 := fun g => c (by rw [g]; rfl)
  apply toL_inj
  unfold cutS
  rw [last_of h hm, cut_id e]
end Ow
end Go.Proofs.YtafeigpmldgifaaDoor
/-
  The walks of valid and FromUtc of the reference.
-/
namespace Go.Proofs.YtafeigpmldgifaaDoor
namespace Mw
open Go.RowKit Go.Proofs.YtafeigpmldgifaaDoor.Mp Lw


def ValidPost (y m d h i s u : Int) (w : World) (e : Ending) (w' : World) : Prop := ∃ b : Bool, e = .returned (.bool b) ∧ (b = true ↔ fromOk y m d h i s u) ∧ Below w.heap.size w w'

theorem valid_no {y m d h i s u : Int} {w w' : World} (hB : Below w.heap.size w w') (hn : ¬ fromOk y m d h i s u) : ValidPost y m d h i s u w (.returned (.bool false)) w' :=
  ⟨false, rfl, ⟨fun e => (by cases e), fun e => absurd e hn⟩, hB⟩
theorem valid_lt {y m d h i s u : Int} {w w' : World} (hB : Below w.heap.size w w') (hw : wholeP y m d) (h1 : 0 ≤ h) (h2 : h ≤ 23) (h3 : 0 ≤ i) (h4 : i ≤ 59) (h5 : 0 ≤ s) (h7 : 0 ≤ u) (h8 : u ≤ 999999) (hs : ¬ s = 60) : ValidPost y m d h i s u w (.returned (.bool (decide (s < 60)))) w' :=
  ⟨_, rfl, ⟨fun e => ⟨hw, h1, h2, h3, h4, h5, h7, by omega, Or.inl (of_decide_eq_true e)⟩, fun ⟨_, _, _, _, _, _, _, _, e⟩ => decide_eq_true (by rcases e with e | ⟨e, _⟩ <;> omega)⟩, hB⟩
theorem valid_60 {y m d h i s u : Int} {w w' : World} (hB : Below w.heap.size w w') (hw : wholeP y m d) (h1 : h = 23) (h3 : i = 59) (h7 : 0 ≤ u) (h8 : u ≤ 999999) (hs : s = 60) : ValidPost y m d h i s u w (.returned (.bool (secs y m d == 86401))) w' :=
  ⟨_, rfl, ⟨fun e => ⟨hw, by omega, by omega, by omega, by omega, by omega, h7, by omega, Or.inr ⟨hs, h1, h3, by
      unfold leapday
      have e := beq_iff_eq.1 e
      unfold secs at e
      by_cases c : d = mo y (m + 1) - mo y m ∧ lps (12 * y + m) = lps (12 * y + m - 1) + 1
      · exact c
      · rw [if_neg c] at e; omega⟩⟩, fun ⟨_, _, _, _, _, _, _, _, e⟩ => beq_iff_eq.2 (by
      rcases e with e | ⟨_, _, _, e⟩
      · omega
      · unfold leapday at e; rw [secs, if_pos e])⟩, hB⟩
end Mw
end Go.Proofs.YtafeigpmldgifaaDoor
/-
  The walk of FromUtc of the reference.
-/
namespace Go.Proofs.YtafeigpmldgifaaDoor
namespace Mw
open Go.RowKit Go.Proofs.YtafeigpmldgifaaDoor.Mp Lw

/-- What FromUtc does. -/
def RFromPost (y m d h i s u : Int) (w : World) (e : Ending) (w' : World) : Prop := ∃ t c : Int, e = .returned (.tuple #[.int .i64 t, .int .i64 c]) ∧ FromIs y m d h i s u t c ∧ Below w.heap.size w w'

end Mw
end Go.Proofs.YtafeigpmldgifaaDoor
/-
  The walk of number of the reference.
-/
namespace Go.Proofs.YtafeigpmldgifaaDoor
namespace Ap
open Go.RowKit Lw

end Ap
end Go.Proofs.YtafeigpmldgifaaDoor
/-
  The walk of like of the reference.
-/
namespace Go.Proofs.YtafeigpmldgifaaDoor
namespace Ap
open Go.RowKit Lw

end Ap
end Go.Proofs.YtafeigpmldgifaaDoor
/-
  The walk of Parse of the reference.
-/
namespace Go.Proofs.YtafeigpmldgifaaDoor
namespace Ap
open Go.RowKit Lw Go.Proofs.YtafeigpmldgifaaDoor.Mp

theorem via {p q : Prop} (hp : p) (h : Hid p → q) : q := h (Lib.hid hp)
theorem nm_bd (s : ByteArray) (i j : Nat) (hj : j ≤ s.size) (h : j ≤ i + 9) : -1 ≤ nm s i j ∧ nm s i j < 1000000000 := by
  unfold nm
  by_cases g : allD (s.extract i j).data.toList
  · rw [numV_yes g]
    have e : (s.extract i j).data.toList.take (s.extract i j).data.toList.length = (s.extract i j).data.toList := List.take_length
    have := numL_bd _ _ (Nat.le_refl _) (by rw [e]; exact g)
    rw [e] at this
    have hl : (s.extract i j).data.toList.length ≤ 9 := by
      have : (s.extract i j).data.toList.length = (s.extract i j).size := rfl
      rw [this, size_ext s _ _ hj]; omega
    have h9 : ∀ r : Nat, r ≤ 9 → (10 : Int) ^ r ≤ 1000000000 := by decide
    have := h9 _ hl
    omega
  · have : numV (s.extract i j).data.toList = -1 := if_neg g
    omega
theorem rparse_not {s : ByteArray} (h : ¬ textP s) : ParseIs s 0 12 := Or.inr ⟨fun g => h g.1, rfl, rfl⟩
/-- The end of the walk: the date is made and taken. -/
theorem parse_end {s : ByteArray} (tp : textP s) : ∀ a c, FromIs (nm s 0 4) (nm s 5 7) (nm s 8 10) (nm s 11 13) (nm s 14 16) (nm s 17 19) (microV s) a c → (c = 0 ∧ ParseIs s a 0) ∨ (c = 2 ∧ ParseIs s 0 12) := fun a c hf => by
  rcases hf with ⟨f1, f2, f3⟩ | ⟨f1, f2, f3⟩
  · exact Or.inl ⟨f3, Or.inl ⟨⟨tp, f1⟩, f2, rfl⟩⟩
  · exact Or.inr ⟨f3, Or.inr ⟨fun k => f1 k.2, rfl, rfl⟩⟩
end Ap
end Go.Proofs.YtafeigpmldgifaaDoor
/-
  The walk of ParseDay of the reference.
-/
namespace Go.Proofs.YtafeigpmldgifaaDoor
namespace Ap
open Go.RowKit Lw Go.Proofs.YtafeigpmldgifaaDoor.Mp

theorem rpday_not {s : ByteArray} (h : ¬ dayP s) : PDayIs s 0 12 := Or.inr ⟨fun g => h g.1, rfl, rfl⟩
end Ap
end Go.Proofs.YtafeigpmldgifaaDoor
/-
  The walk of read of the reference of observations.
-/
namespace Go.Proofs.YtafeigpmldgifaaDoor
namespace Ow
open Go.RowKit Lw Go.Proofs.YtafeigpmldgifaaDoor.Ap Go.Proofs.YtafeigpmldgifaaDoor.Op Go.Proofs.YtafeigpmldgifaaDoor.Mp Go.Proofs.YtafeigpmldgifaaDoor.Mw Go.Proofs.YtafeigpmldgifaaDoor.At

/-- What read answers: the part of a line that every line has. -/
structure ReadIs (s : ByteArray) (o : Ob) : Prop where
  p : 3 ≤ decs (cutS (s.extract 15 32)) ∧ decs (cutS (s.extract 15 32)) ≤ 6
  q : 1 ≤ decs (cutS (s.extract 32 44)) ∧ decs (cutS (s.extract 32 44)) ≤ 3
  r : decs (cutS (s.extract 44 56)) ≤ 2
  day : PDayIs (cutS (s.extract 15 32)) o.t 0
  ra : Gp.RaIs (cutS (s.extract 32 44)) o.ra 0
  dec : Gp.DecIs (cutS (s.extract 44 56)) o.dec 0
  all : o = ⟨⟨#[]⟩, s.extract 77 80, o.t, o.ra, o.dec, sgOf (decs (cutS (s.extract 44 56))), 9999, 32⟩
def ReadA (s : ByteArray) (o : Ob) (b : Bool) : Prop := (b = true ∧ ReadIs s o) ∨ (b = false ∧ o = zeroO ∧ NoO s)
def ReadPost (s : ByteArray) (w : World) (e : Ending) (w' : World) : Prop := ∃ (o : Ob) (b : Bool), e = .returned (.tuple #[obsV o, .bool b]) ∧ ReadA s o b ∧ Below w.heap.size w w'
/-- The condition of read. -/
def badP (c1 c2 c3 : Int) (d1 d2 d3 : Nat) : Prop := c1 ≠ 0 ∨ c2 ≠ 0 ∨ c3 ≠ 0 ∨ d1 < 3 ∨ 6 < d1 ∨ d2 < 1 ∨ 3 < d2 ∨ 2 < d3
instance (c1 c2 c3 : Int) (d1 d2 d3 : Nat) : Decidable (badP c1 c2 c3 d1 d2 d3) := by unfold badP; infer_instance
end Ow
end Go.Proofs.YtafeigpmldgifaaDoor
/-
  The walk of magnitude of the reference of observations.
-/
namespace Go.Proofs.YtafeigpmldgifaaDoor
namespace Ow
open Go.RowKit Lw Go.Proofs.YtafeigpmldgifaaDoor.Ap Go.Proofs.YtafeigpmldgifaaDoor.Op Go.Proofs.YtafeigpmldgifaaDoor.Mp Go.Proofs.YtafeigpmldgifaaDoor.Mw Go.Proofs.YtafeigpmldgifaaDoor.At

/-- What five bytes say, by their numbers. -/
def magQ (A B C D E m : Int) : Prop := C = 46 ∧ dgP B ∧ dgP D ∧ (dgP E ∨ E = 32) ∧
  ((A = 45 ∧ m = -(100 * (B - 48) + 10 * (D - 48) + (if E = 32 then 0 else E - 48)) ∧ 0 < 100 * (B - 48) + 10 * (D - 48) + (if E = 32 then 0 else E - 48)) ∨
   (A = 32 ∧ m = 100 * (B - 48) + 10 * (D - 48) + (if E = 32 then 0 else E - 48)) ∨
   (dgP A ∧ A ≠ 48 ∧ m = 100 * (B - 48) + 10 * (D - 48) + (if E = 32 then 0 else E - 48) + 1000 * (A - 48) ∧ m ≤ 3000))
theorem mag_q (a b c d e : UInt8) (m : Int) : MagIs ⟨#[a, b, c, d, e]⟩ m ↔ magQ a.toNat b.toNat c.toNat d.toNat e.toNat m := by
  obtain ⟨q0, q1, q2, q3, q4⟩ := bt5 a b c d e
  unfold MagIs magN magQ
  rw [q0, q1, q2, q3, q4]
def magQA (A B C D E m : Int) (b : Bool) : Prop := (b = true ∧ magQ A B C D E m) ∨ (b = false ∧ ∀ x, ¬ magQ A B C D E x)
theorem magQ_no {A B C D E m : Int} (h : ∀ x, ¬ magQ A B C D E x) : magQA A B C D E m false := Or.inr ⟨rfl, h⟩
/-- Five bytes as a string. -/
theorem five_str (a b c d e : UInt8) : ∃ F : ByteArray, F = ⟨#[a, b, c, d, e]⟩ ∧ F.size = 5 ∧ (∀ h : 0 < F.size, ((F[0]'h).toNat : Int) = a.toNat) ∧ (∀ h : 1 < F.size, ((F[1]'h).toNat : Int) = b.toNat) ∧ (∀ h : 2 < F.size, ((F[2]'h).toNat : Int) = c.toNat) ∧ (∀ h : 3 < F.size, ((F[3]'h).toNat : Int) = d.toNat) ∧ (∀ h : 4 < F.size, ((F[4]'h).toNat : Int) = e.toNat) :=
  ⟨_, rfl, rfl, fun _ => rfl, fun _ => rfl, fun _ => rfl, fun _ => rfl, fun _ => rfl⟩
def MagQPost (A B C D E : Int) (w : World) (e : Ending) (w' : World) : Prop := ∃ (m : Int) (b : Bool), e = .returned (.tuple #[.int .i64 m, .bool b]) ∧ magQA A B C D E m b ∧ Below w.heap.size w w'
end Ow
end Go.Proofs.YtafeigpmldgifaaDoor
/-
  The walk of Parse of the reference of observations.
-/
namespace Go.Proofs.YtafeigpmldgifaaDoor
namespace Ow
open Go.RowKit Lw Go.Proofs.YtafeigpmldgifaaDoor.Ap Go.Proofs.YtafeigpmldgifaaDoor.Op Go.Proofs.YtafeigpmldgifaaDoor.Mp Go.Proofs.YtafeigpmldgifaaDoor.Mw Go.Proofs.YtafeigpmldgifaaDoor.At

theorem zz_is {s : ByteArray} (h8 : s.size = 80) : s.extract 12 14 = ⟨#[32, 32]⟩ ↔ (bt s 12 = 32 ∧ bt s 13 = 32) := by
  have b : ∀ k, k < 2 → bt (s.extract 12 14) k = bt s (12 + k) := fun k hk => by
    rw [bt_of _ k (by rw [ByteArray.size_extract]; omega), bt_of s (12 + k) (by omega)]
    congr 2
    simp [ByteArray.getElem_eq_getElem_data]
  have b0 := b 0 (by omega)
  have b1 := b 1 (by omega)
  constructor
  · intro e
    rw [e] at b0 b1
    exact ⟨b0.symm, b1.symm⟩
  · rintro ⟨h0, h1⟩
    have z : (s.extract 12 14).size = 2 := by rw [ByteArray.size_extract]; omega
    have l : (s.extract 12 14).data.toList.length = 2 := by rw [← size_L]; exact z
    match hl : (s.extract 12 14).data.toList, l with
    | [x, y], _ =>
      rw [bt_L _ _ (by omega), hl] at b0 b1
      have v : ∀ {x : UInt8} {n : Nat}, n < 256 → (x.toNat : Int) = n → x = UInt8.ofNat n := fun hn h => u8_val hn h
      have e0 : x = 32 := v (n := 32) (by omega) (b0.trans h0)
      have e1 : y = 32 := v (n := 32) (by omega) (b1.trans h1)
      apply toL_inj
      rw [hl, e0, e1]
theorem no_n1 {s : ByteArray} (h : blankP (s.extract 0 5)) (n : numbP (cutS (s.extract 5 12))) : NoO s := fun x g => by
  rcases g.name with ⟨_, b, c⟩ | ⟨a, _⟩
  · exact c (by rw [b]; exact n)
  · exact a h
theorem no_n2 {s : ByteArray} (h : ¬ blankP (s.extract 0 5)) (n : ¬ numbP (s.extract 0 5)) : NoO s := fun x g => by
  rcases g.name with ⟨a, _⟩ | ⟨_, b, c, _⟩
  · exact h a
  · exact n (by rw [← b]; exact c)
theorem no_n3 {s : ByteArray} (h : ¬ blankP (s.extract 0 5)) (n : ¬ blankP (s.extract 5 12)) : NoO s := fun x g => by
  rcases g.name with ⟨a, _⟩ | ⟨_, _, _, c⟩
  · exact h a
  · exact n c
end Ow
end Go.Proofs.YtafeigpmldgifaaDoor
/-
  The walks of Print, Round of the reference of observations.
-/
namespace Go.Proofs.YtafeigpmldgifaaDoor
namespace Ow
open Go.RowKit Lw Go.Proofs.YtafeigpmldgifaaDoor.Ap Go.Proofs.YtafeigpmldgifaaDoor.Op Go.Proofs.YtafeigpmldgifaaDoor.Mp Go.Proofs.YtafeigpmldgifaaDoor.Mw Go.Proofs.YtafeigpmldgifaaDoor.At

end Ow
end Go.Proofs.YtafeigpmldgifaaDoor
/-
  The walks of PrintAll of obs and of the reference.
-/
namespace Go.Proofs.YtafeigpmldgifaaDoor
namespace Ow
open Go.RowKit Lw Go.Proofs.YtafeigpmldgifaaDoor.Ap Go.Proofs.YtafeigpmldgifaaDoor.Op Go.Proofs.YtafeigpmldgifaaDoor.Mp Go.Proofs.YtafeigpmldgifaaDoor.Mw Go.Proofs.YtafeigpmldgifaaDoor.At

theorem ownsRow_below {w w' : World} {base : Nat} {e : TypeId} {size : Nat} {v : Value} {n : Nat} {xs : List Value} (h : w.ownsRow base e size v n xs) (hb : Below w.heap.size w w') : w'.ownsRow base e size v n xs := by
  obtain ⟨h1, h2⟩ := h
  refine ⟨h1, ?_⟩
  rcases h2 with h2 | ⟨g, cap, cur, hv, hg, hh, r⟩
  · exact Or.inl h2
  · refine Or.inr ⟨g, cap, cur, hv, hg, ?_, r⟩
    have lt : g < w.heap.size := by
      rcases Nat.lt_or_ge g w.heap.size with h | h
      · exact h
      · rw [Array.getElem?_eq_none h] at hh; cases hh
    rw [hb.block g lt]; exact hh
theorem builder_below {w w' : World} {T e : TypeId} {B b : Nat} {bs : List Value} (h : Lib.IsBuilder T e B b bs w) (hb : Below w.heap.size w w') : Lib.IsBuilder T e B b bs w' := by
  have key : ∀ p, Lib.BuilderAt T e B b p bs w → Lib.BuilderAt T e B b p bs w' := fun p ⟨h0, v, hh, ho, hn⟩ => by
    have lt : b < w.heap.size := by
      rcases Nat.lt_or_ge b w.heap.size with h | h
      · exact h
      · rw [Array.getElem?_eq_none h] at hh; cases hh
    exact ⟨h0, v, by rw [hb.block b lt]; exact hh, ownsRow_below ho hb, hn⟩
  exact h.elim (fun x => Or.inl (key _ x)) (fun x => Or.inr (key _ x))
/-- A builder that holds a string. -/
def Bd (B : Nat) (s : ByteArray) (w : World) : Prop := Lib.IsBuilder 60 5 B B (Lib.byteCells s.data.toList) w ∧ B ≤ w.heap.size
theorem Bd.below {B : Nat} {s : ByteArray} {w w' : World} (h : Bd B s w) (hb : Below w.heap.size w w') : Bd B s w' := ⟨builder_below h.1 hb, Nat.le_trans h.2 hb.size⟩
theorem Bd.new (w : World) : Bd w.heap.size ByteArray.empty (w.alloc (.cells #[.pointer none, .slice none 0 0] 60)) :=
  ⟨Or.inl ⟨Nat.le_refl _, .slice none 0 0, heap_alloc_new w _, World.ownsRow_nil _ _ _ _, by simp [Value.ownBlock]⟩, by simp⟩
theorem bd_write {B : Nat} {s t : ByteArray} {w : World} (h : Bd B s w) (hl : s.size + t.size ≤ 140737488355328) : Calls Tryd.prog 21 #[.pointer (some ⟨B, 0, none⟩), .string t] w fun e w' => e = .returned (.tuple #[.int .i64 t.size, .nilIface]) ∧ Bd B (s ++ t) w' ∧ Below B w w' := by
  refine (Tryd.Builder_WriteString B B (Lib.byteCells s.data.toList) t w h.1 (by rw [Lib.byteCells_length, ← size_L]; exact hl) h.2).mono ?_
  rintro e w' ⟨rfl, hB, hb⟩
  refine ⟨rfl, ⟨Or.inr ?_, Nat.le_trans h.2 hb.size⟩, hb⟩
  have e : Lib.byteCells (s ++ t).data.toList = Lib.byteCells s.data.toList ++ Lib.strCells t := by
    rw [Lib.strCells_eq, ← Lib.byteCells_append]
    congr 1
  rw [e]
  exact hB
theorem bd_str {B : Nat} {s : ByteArray} {w : World} (h : Bd B s w) : Calls Tryd.prog 22 #[.pointer (some ⟨B, 0, none⟩)] w fun e w' => e = .returned (.string s) ∧ Below B w w' := by
  refine (Tryd.Builder_String_any B B s.data.toList w h.1 h.2).mono ?_
  rintro e w' ⟨rfl, hb⟩
  exact ⟨by rw [mk_toL], hb⟩
theorem print_zero {o : Ob} {s : ByteArray} {c : Int} (ok : okO o) (h : PrintIs o s c) : c = 0 := by
  rcases h with ⟨_, _, h⟩ | ⟨h, _⟩
  · exact h
  · exact absurd ok h
def PrintAllPost (l : List Ob) (w : World) (e : Ending) (w' : World) : Prop := ∃ (s : ByteArray) (c : Int), e = .returned (.tuple #[.string s, .int .i64 c]) ∧ PrintAllIs l s c ∧ Below w.heap.size w w'
end Ow
end Go.Proofs.YtafeigpmldgifaaDoor
/-
  Changes in memory: slices of them, and append to a slice that the call owns.
-/
namespace Go.Proofs.YtafeigpmldgifaaDoor
namespace Cgw
open Go.RowKit Lw Go.Proofs.YtafeigpmldgifaaDoor.Dp Go.Proofs.YtafeigpmldgifaaDoor.Cgp Go.Proofs.YtafeigpmldgifaaDoor.Arw

/-- Changes, one behind another. -/
def ChA (w : World) (x : Option Addr) (l : List Cg) : Prop := l = [] ∨ ∃ b off, x = some ⟨b, off, none⟩ ∧ b < w.heap.size ∧ ∀ i (h : i < l.length), w.rangeAt b (off + i * 12) (cgC (l[i]'h))
theorem ChA.below {w w' : World} {x : Option Addr} {l : List Cg} (h : ChA w x l) (hb : Below w.heap.size w w') : ChA w' x l := by
  rcases h with h | ⟨b, off, h1, h2, h3⟩
  · exact Or.inl h
  · exact Or.inr ⟨b, off, h1, Nat.lt_of_lt_of_le h2 hb.size, fun i hi => rangeAt_below (h3 i hi) hb h2⟩
theorem ChA.get {w : World} {x : Option Addr} {l : List Cg} (h : ChA w x l) {k : Nat} (hk : k < l.length) : ∃ b off, x = some ⟨b, off, none⟩ ∧ b < w.heap.size ∧ w.rangeAt b (off + k * 12) (cgC (l[k]'hk)) := by
  rcases h with rfl | ⟨b, off, h1, h2, h3⟩
  · exact absurd hk (Nat.not_lt_zero k)
  · exact ⟨b, off, h1, h2, h3 k hk⟩
theorem infoCh : (Tryd.prog.info? 52).map (fun i => (i.zero, i.size, i.bytes)) = some (some (.agg #[.int .u8 0, .int .i64 0, .int .i64 0, .int .u8 0, .int .u8 0, .int .i64 0, .int .i64 0, .int .i64 0, .int .u8 0, .int .u8 0, .int .i64 0, .int .i64 0]), 12, 80) := by kernel_rfl
/-- The cells of a list. -/
def flatK (l : List Cg) : List Value := l.flatMap cgC
theorem flatK_len (l : List Cg) : (flatK l).length = l.length * 12 := by
  induction l with
  | nil => rfl
  | cons a l ih => simp only [flatK, List.flatMap_cons, List.length_append, List.length_cons] at ih ⊢; rw [ih]; simp only [cgC, List.length_cons, List.length_nil]; omega
theorem flatK_snoc (l : List Cg) (o : Cg) : flatK (l ++ [o]) = flatK l ++ cgC o := by simp [flatK]
theorem flatK_get {l : List Cg} {i : Nat} (hi : i < l.length) {j : Nat} {v : Value} (h : (cgC l[i])[j]? = some v) : (flatK l)[i * 12 + j]? = some v := by
  have hj : j < 12 := by
    have := (List.getElem?_eq_some_iff.1 h).1
    exact this
  induction l generalizing i with
  | nil => simp at hi
  | cons a l ih =>
    have e : flatK (a :: l) = cgC a ++ flatK l := rfl
    have la : (cgC a).length = 12 := rfl
    match i, hi, h with
    | 0, _, h =>
      rw [e, Nat.zero_mul, Nat.zero_add, List.getElem?_append_left (by omega)]
      exact h
    | i + 1, hi, h =>
      have hi' : i < l.length := by simpa using hi
      rw [e, List.getElem?_append_right (by omega), la, show (i + 1) * 12 + j - 12 = i * 12 + j by omega]
      exact ih hi' (by simpa using h)
/-- A slice of the call's own. -/
def OwnC (w : World) (B : Nat) (v : Value) (l : List Cg) : Prop := w.ownsRow B 52 12 v l.length (flatK l) ∧ B ≤ w.heap.size
theorem OwnC.nil (w : World) (B : Nat) (h : B ≤ w.heap.size) : OwnC w B (.slice none 0 0) [] := ⟨World.ownsRow_nil _ _ _ _, h⟩
theorem OwnC.below {w w' : World} {B : Nat} {v : Value} {l : List Cg} (h : OwnC w B v l) (hb : Below w.heap.size w w') : OwnC w' B v l := ⟨Ow.ownsRow_below h.1 hb, Nat.le_trans h.2 hb.size⟩
/-- A value that is a slice of changes. -/
def SlC (w : World) (v : Value) (l : List Cg) : Prop := ∃ x cap, v = .slice x l.length cap ∧ ChA w x l
theorem slC_of {w : World} {B : Nat} {v : Value} {l : List Cg} (h : OwnC w B v l) : SlC w v l := by
  have hc := fun (g : Nat) (hg : v.ownBlock = some g) => h.1.cells hg
  rcases h.1.2 with ⟨hv, hn⟩ | ⟨g, cap, cur, hv, hb, hh, r⟩
  · obtain rfl := List.length_eq_zero_iff.1 hn
    exact ⟨none, 0, hv, Or.inl rfl⟩
  · have lt : g < w.heap.size := by
      rcases Nat.lt_or_ge g w.heap.size with h | h
      · exact h
      · rw [Array.getElem?_eq_none h] at hh; cases hh
    refine ⟨some ⟨g, 0, none⟩, cap, hv, Or.inr ⟨g, 0, rfl, lt, fun i hi j x hx => ?_⟩⟩
    have e := hc g (by rw [hv]; rfl) (i * 12 + j) x (flatK_get hi hx)
    rw [Addr.add_mid] at e
    rw [Nat.zero_add] at e
    rw [Nat.zero_add]
    exact e
theorem SlC.below {w w' : World} {v : Value} {l : List Cg} (h : SlC w v l) (hb : Below w.heap.size w w') : SlC w' v l := by
  obtain ⟨x, cap, e, h⟩ := h
  exact ⟨x, cap, e, h.below hb⟩
theorem SlC.nil (w : World) : SlC w (.slice none 0 0) [] := ⟨none, 0, rfl, Or.inl rfl⟩
theorem news_cg {w : World} {b : Nat} {o : Cg} (h : w.rangeAt b 0 (cgC o)) : ∀ j u, (cgC o)[j]? = some u → w.cell? ((⟨b, 0, none⟩ : Addr).add j) = some u := fun j u hj => by
  rw [Addr.add_mid]; exact h j u hj
theorem cgC_one (o : Cg) : ∀ u ∈ cgC o, u.oneCell' = true := fun u hu => by
  simp only [List.mem_cons, List.not_mem_nil, or_false] at hu
  rcases hu with rfl | rfl | rfl | rfl | rfl | rfl | rfl | rfl | rfl | rfl | rfl | rfl <;> rfl
/-- append, as the walk meets it: the element lies in a block of its own. -/
theorem wp_appC {ops : Array Oper} {rest : List Oper} {o : Oper} {a : Act} {Q : Exit → Act → World → Prop} (w : World) (hgd : o.guard = none) (s x : Operand)
    (ho : o.op = .call { callee := .builtin .append, args := #[s, x], argTypes := #[24, 24] })
    (B : Nat) (v : Value) (l : List Cg) (q : Cg) (hs : a.eval s = v) (hx : a.eval x = .slice (some ⟨w.heap.size, 0, none⟩) 1 1) (hown : OwnC w B v l) (hl : l.length ≤ 1000000)
    (h : ∀ v' w', OwnC w' B v' (l ++ [q]) → Below B w w' → wpList Tryd.prog ops Q rest (a.put o.dst v') w') : wpList Tryd.prog ops Q (o :: rest) a (w.alloc (.cells (cgC q).toArray 52)) := by
  obtain ⟨i0, hi, hz0, hz1, hz2⟩ := info_parts infoCh
  have ho' := hown.1.alloc (.cells (cgC q).toArray 52)
  have nw := news_cg (rangeAt_new w (cgC q) 52)
  have b1 : Below B w (w.alloc (.cells (cgC q).toArray 52)) := (Below.refl _ _).alloc hown.2 _
  refine wpList_append_own _ hgd s x 24 ho B 52 i0 _ 12 80 Tryd.underlying24 hi hz0 hz1 hz2 rfl (by decide) v l.length (flatK l) hs ho' ⟨w.heap.size, 0, none⟩ 1 1 (cgC q) hx rfl nw (cgC_one q) (by unfold maxLen; omega) (by omega) (Nat.le_trans hown.2 b1.size) ?_
  intro v' w' h1 h2 _
  have e := flatK_snoc l q
  have hb : Below B w w' := b1.trans ((Below.refl B _).grown h2 (Nat.le_trans hown.2 b1.size) (fun k hk => (hown.1.lt k hk).1))
  refine h v' w' ⟨?_, Nat.le_trans hown.2 hb.size⟩ hb
  rw [e, List.length_append]
  exact h1
end Cgw
end Go.Proofs.YtafeigpmldgifaaDoor
/-
  The walk of ReadChanges of archive.
-/
namespace Go.Proofs.YtafeigpmldgifaaDoor
namespace Cgw
open Go.RowKit Lw Go.Proofs.YtafeigpmldgifaaDoor.Dp Go.Proofs.YtafeigpmldgifaaDoor.Cgp Go.Proofs.YtafeigpmldgifaaDoor.Arw Go.Proofs.YtafeigpmldgifaaDoor.Ow

theorem emp_yes {t : ByteArray} (h : t.size = 0) : t.toList.isEmpty = true := by
  rw [Lib.toList_data, List.isEmpty_iff_length_eq_zero]; simpa using h
theorem emp_no {t : ByteArray} (h : t.size ≠ 0) : t.toList.isEmpty = false := by
  rw [Lib.toList_data, Bool.eq_false_iff, ne_eq, List.isEmpty_iff_length_eq_zero]; simpa using h
theorem index_none (c : UInt8) : ∀ (l : List UInt8), (∀ x ∈ l, x ≠ c) → Lib.index l [c] = -1
  | [], _ => by
    rw [Lib.index]
    rfl
  | b :: p, h => by
    have ih := index_none c p (fun x hx => h x (List.mem_cons_of_mem _ hx))
    have hb := h b (List.mem_cons_self ..)
    rw [Lib.index, if_neg (by simp; exact fun e => hb e.symm), ih]
    rfl
theorem byte_part (c : UInt8) : ∀ (l : List UInt8), (∀ x ∈ l, x ≠ c) ∨ ∃ p r, l = p ++ c :: r ∧ ∀ x ∈ p, x ≠ c
  | [] => Or.inl (fun _ h => by simp at h)
  | b :: l => by
    by_cases e : b = c
    · exact Or.inr ⟨[], l, by rw [e]; rfl, fun _ h => by simp at h⟩
    · rcases byte_part c l with h | ⟨p, r, h1, h2⟩
      · refine Or.inl (fun x hx => ?_)
        rcases List.mem_cons.1 hx with rfl | hx
        · exact e
        · exact h x hx
      · refine Or.inr ⟨b :: p, r, by rw [h1]; rfl, fun x hx => ?_⟩
        rcases List.mem_cons.1 hx with rfl | hx
        · exact e
        · exact h2 x hx
/-- What Cut at one byte answers. -/
theorem cut_said {c : UInt8} {l a b : List UInt8} {ok : Bool} (h : Lib.cut l [c] = (a, b, ok)) : (ok = true ∧ l = a ++ c :: b ∧ ∀ x ∈ a, x ≠ c) ∨ (ok = false ∧ ∀ x ∈ l, x ≠ c) := by
  rcases byte_part c l with g | ⟨p, r, rfl, g⟩
  · right
    unfold Lib.cut at h
    rw [index_none c l g, if_neg (by decide)] at h
    exact ⟨(congrArg (fun x => x.2.2) h).symm, g⟩
  · left
    rw [cut_byte g] at h
    have e1 : p = a := congrArg Prod.fst h
    have e2 : r = b := congrArg (fun x => x.2.1) h
    have e3 : true = ok := congrArg (fun x => x.2.2) h
    subst e1 e2 e3
    exact ⟨rfl, rfl, g⟩
def RdAllPost (s : ByteArray) (w : World) (e : Ending) (w' : World) : Prop := ∃ (v : Value) (l : List Cg) (k : Int), e = .returned (.tuple #[v, .int .i64 k]) ∧ RdAllIs s.data.toList l k ∧ SlC w' v l ∧ (∀ c ∈ l, CB c) ∧ l.length ≤ s.size ∧ Below w.heap.size w w'
theorem flat_len {l : List Cg} : l.length ≤ (flatC l).length := by
  induction l with
  | nil => simp
  | cons c l ih => rw [flatC_cons, List.length_append, List.length_cons, List.length_cons]; omega
set_option maxRecDepth 100000 in
set_option maxHeartbeats 8000000 in
theorem rdall_any (s : ByteArray) (w : World) (hT : Dw.Tb w) (hM : MX w) (hE : Ow.ES w) (hR : ER w) (hs : s.size ≤ 1000) : Calls Tryd.prog 7 #[.string s] w (RdAllPost s w) := by
  have HT := Lib.hid (fun w' (h : Below w.heap.size w w') => hT.below h)
  have HM := Lib.hid (fun w' (h : Below w.heap.size w w') => hM.below h)
  have HE := Lib.hid (fun w' (h : Below w.heap.size w w') => hE.below h)
  have HR := Lib.hid (fun w' (h : Below w.heap.size w w') => hR.below h)
  have RC := Lib.hid (fun (a : ByteArray) w' (hz : a.size ≤ 1000) h1 h2 h3 h4 => rdch_any a w' hz h1 h2 h3 h4)
  have CU := Lib.hid (fun (a : ByteArray) w' h hz => cutq_any a ⟨#[10]⟩ w' h hz)
  clear hT hM hE hR
  go_enter Tryd.func7, Tryd.ntmps7
  go_wp2_with fail
  go_loopw [0, 4] (fun r v wr => ∃ (l : List Cg) (R : ByteArray), r = .string R ∧ Hid ((∀ c ∈ l, okC c ∧ CB c) ∧ s.data.toList = flatC l ++ R.data.toList) ∧ Hid (OwnC wr w.heap.size v l) ∧ Hid (Below w.heap.size w wr)) (fun r _ _ => lenOfV r)
  case atStart => exact ⟨[], s, rfl, Lib.hid ⟨fun _ h => by simp at h, by simp [flatC]⟩, Lib.hid (OwnC.nil w _ (Nat.le_refl _)), Lib.hid (Below.refl _ _)⟩
  case round =>
    obtain ⟨l, R, rfl, HP, HO, HB⟩ := hrel
    have zs : s.size = (flatC l).length + R.size := by
      have e := congrArg List.length HP.out.2
      rw [List.length_append] at e
      exact e
    have zl : l.length ≤ (flatC l).length := flat_len
    have OKL := Lib.hid (fun c (h : c ∈ l) => (HP.out.1 c h).1)
    by_cases h0 : R.size = 0
    · have em := emp_yes h0
      have e0 : R.data.toList = [] := List.length_eq_zero_iff.1 h0
      have F := Lib.hid (show RdAllIs s.data.toList l 0 from Or.inl ⟨OKL.out, by rw [HP.out.2, e0, List.append_nil], rfl⟩)
      have CBL := Lib.hid (fun c (h : c ∈ l) => (HP.out.1 c h).2)
      have HX := Lib.hid (slC_of HO.out)
      clear HP HO HT HM HE HR RC CU h0 e0
      go_wp2_with fail
      go_ret2
      exact ⟨_, l, 0, rfl, F.out, HX.out, CBL.out, by omega, HB.out⟩
    · have em := emp_no h0
      have R0 : R.data.toList ≠ [] := fun e => h0 (show R.data.toList.length = 0 by rw [e]; rfl)
      have RN := Lib.hid R0
      clear h0 R0
      go_wp2_with fail
      refine (CU.out R _ (HM.out _ HB.out) (by omega)).mono ?_
      rintro e w1 ⟨a, b, ok, rfl, hC, za, zb, hb1⟩
      have HC := Lib.hid (cut_said hC)
      have O1 := Lib.hid (HO.out.below hb1)
      have B1 := Lib.hid (below_then HB.out hb1)
      clear hC hb1 HO HB CU em
      go_wp2_with fail
      refine (RC.out a _ (by omega) (HT.out _ B1.out) (HM.out _ B1.out) (HE.out _ B1.out) (HR.out _ B1.out)).mono ?_
      rintro e w2 ⟨q, c, rfl, hP, hq, hb2⟩
      have bx := (Below.refl w2.heap.size w2).alloc (Nat.le_refl _) (.cells (cgC q).toArray 52)
      have O2 := Lib.hid ((O1.out.below hb2).below bx)
      have B2 := Lib.hid (below_then (below_then B1.out hb2) bx)
      have X2 := Lib.hid (Rw.new w2 (cgC q) 52)
      have HQ := Lib.hid hq
      clear hb2 O1 B1 RC bx hq
      rcases (show (ok = false ∧ ∀ x ∈ R.data.toList, x ≠ 10) ∨ (ok = true ∧ c = 12 ∧ (R.data.toList = a.data.toList ++ 10 :: b.data.toList ∧ ∀ x ∈ a.data.toList, x ≠ 10) ∧ ∀ e, okC e → lineC e ≠ a.data.toList) ∨ (ok = true ∧ c = 0 ∧ (R.data.toList = a.data.toList ++ 10 :: b.data.toList ∧ ∀ x ∈ a.data.toList, x ≠ 10) ∧ okC q ∧ lineC q = a.data.toList) from by
        rcases HC.out with ⟨h1, h2, h3⟩ | ⟨h1, h2⟩
        · rcases hP with ⟨g1, g2, g3⟩ | ⟨g1, _, g3⟩
          · exact Or.inr (Or.inr ⟨h1, g3, ⟨h2, h3⟩, g1, g2⟩)
          · exact Or.inr (Or.inl ⟨h1, g3, ⟨h2, h3⟩, g1⟩)
        · exact Or.inl ⟨h1, h2⟩) with ⟨rfl, g⟩ | ⟨rfl, rfl, g, gn⟩ | ⟨rfl, rfl, g, gq, gl⟩
      · have F := Lib.hid (rdall_open OKL.out HP.out.2 g RN.out)
        clear hP HC HP HT HM HE HR X2 O2 g RN OKL HQ zs zl
        go_wp2_with (refine wpList_store_new rfl _ (.tmp 8) (.tmp 21) rfl _ _ rfl rfl infoCg rfl ?_ ?_; simp [Value.oneCell'])
        go_ret2
        exact ⟨_, [], 12, rfl, F.out, SlC.nil _, (fun _ h => by simp at h), Nat.zero_le _, B2.out⟩
      · have F := Lib.hid (rdall_bad OKL.out (HP.out.2.trans (congrArg (flatC l ++ ·) g.1)) g.2 gn)
        clear hP HC HP HT HM HE HR X2 O2 g RN OKL HQ zs zl gn
        go_wp2_with (refine wpList_store_new rfl _ (.tmp 8) (.tmp 21) rfl _ _ rfl rfl infoCg rfl ?_ ?_; simp [Value.oneCell'])
        go_ret2
        exact ⟨_, [], 12, rfl, F.out, SlC.nil _, (fun _ h => by simp at h), Nat.zero_le _, B2.out⟩
      · have HP1 : Hid ((∀ c ∈ l ++ [q], okC c ∧ CB c) ∧ s.data.toList = flatC (l ++ [q]) ++ b.data.toList) := Lib.hid ⟨fun c hc => by
          rcases List.mem_append.1 hc with hc | hc
          · exact HP.out.1 c hc
          · rw [List.mem_singleton.1 hc]; exact ⟨gq, HQ.out⟩, by rw [HP.out.2, g.1, flatC_snoc, gl]; simp⟩
        have zb : b.size < R.size := by
          have e := congrArg List.length g.1
          rw [List.length_append, List.length_cons] at e
          have e1 : R.data.toList.length = R.size := rfl
          have e2 : b.data.toList.length = b.size := rfl
          omega
        have zl2 : l.length ≤ 1000000 := by omega
        clear hP HC HP g gq gl OKL RN zs zl HQ
        go_wp2_with (first | (refine wpList_store_new rfl _ (.tmp 8) (.tmp 21) rfl _ _ rfl rfl infoCg rfl ?_ ?_; simp [Value.oneCell']) | (refine wpList_load_mid rfl _ (.tmp 8) rfl w2.heap.size 0 rfl (cgC q) _ X2.out.row Tryd.underlying52 rfl infoCg ?_) | (at_builtin; refine wp_appC _ rfl (.tmp 29) (.tmp 31) rfl w.heap.size _ l q rfl (by first | rfl | simp [Act.eval]) O2.out zl2 ?_; intro v' w3 hO3 hb3))
        have B3 := Lib.hid (B2.out.trans hb3)
        have O3 := Lib.hid hO3
        clear hO3 hb3 B2 O2 X2
        go_wp2_with fail
        go_roundw
        case rel => exact ⟨_, b, rfl, HP1, O3, B3⟩
        case measure => exact zb
end Cgw
end Go.Proofs.YtafeigpmldgifaaDoor
/-
  Plain law of a digest's digits: what they are read as.
-/
namespace Go.Proofs.YtafeigpmldgifaaDoor
namespace Arp
open Go.RowKit Lw

/-- What a digit stands for; 99: it is none. -/
def hvN (c : UInt8) : Nat := if 48 ≤ c.toNat ∧ c.toNat ≤ 57 then c.toNat - 48 else if 97 ≤ c.toNat ∧ c.toNat ≤ 102 then c.toNat - 87 else 99
def idxH (c : Int) : Int := if 48 ≤ c ∧ c ≤ 57 then c - 48 else if 97 ≤ c ∧ c ≤ 102 then c - 87 else -1
theorem idxH_yes {c : UInt8} (h : hvN c < 16) : idxH (c.toNat : Int) = (hvN c : Int) := by
  unfold hvN at h ⊢
  unfold idxH
  split at h
  · rename_i g
    rw [if_pos (by omega), if_pos g]; omega
  · rename_i g
    split at h
    · rename_i g2
      rw [if_neg (by omega), if_pos (by omega), if_neg g, if_pos g2]; omega
    · omega
theorem idxH_no {c : UInt8} (h : ¬ hvN c < 16) : idxH (c.toNat : Int) = -1 := by
  unfold hvN at h
  unfold idxH
  split at h
  · omega
  · split at h
    · omega
    · rw [if_neg (by omega), if_neg (by omega)]
theorem idxH_high {c : Int} (h : 128 ≤ c) : idxH c = -1 := by unfold idxH; rw [if_neg (by omega), if_neg (by omega)]
theorem hv_high {c : UInt8} (h : 128 ≤ c.toNat) : ¬ hvN c < 16 := by unfold hvN; rw [if_neg (by omega), if_neg (by omega)]; omega
def hvL (l : List UInt8) (i : Nat) : Nat := hvN (l.getD i 0)
/-- A byte of the digest, of which so many digits have been read. -/
def dN (l : List UInt8) (k i : Nat) : Nat := if 2 * i + 1 < k then 16 * hvL l (2 * i) + hvL l (2 * i + 1) else if 2 * i < k then hvL l (2 * i) else 0
def dL (l : List UInt8) (k : Nat) : List Nat := (List.range 32).map (dN l k)
theorem dL_len (l : List UInt8) (k : Nat) : (dL l k).length = 32 := by unfold dL; rw [List.length_map, List.length_range]
theorem dL_zero (l : List UInt8) : dL l 0 = List.replicate 32 0 := by
  unfold dL
  rw [List.map_congr_left (g := fun _ => 0) (fun i _ => by unfold dN; rw [if_neg (Nat.not_lt_zero _), if_neg (Nat.not_lt_zero _)])]
  decide
theorem dL_get (l : List UInt8) (k i : Nat) (h : i < 32) : (dL l k)[i]? = some (dN l k i) := by unfold dL; rw [List.getElem?_map, List.getElem?_range h]; rfl
theorem dL_set (l : List UInt8) (k : Nat) (h : k < 64) : (dL l k).set (k / 2) (16 * dN l k (k / 2) + hvL l k) = dL l (k + 1) := by
  apply List.ext_getElem?
  intro j
  by_cases hj : j = k / 2
  · subst hj
    rw [List.getElem?_set_self (by rw [dL_len]; omega), dL_get _ _ _ (by omega)]
    unfold dN
    rcases Nat.mod_two_eq_zero_or_one k with e | e
    · rw [if_neg (by omega), if_neg (by omega), if_neg (by omega), if_pos (by omega), show 2 * (k / 2) = k by omega, Nat.mul_zero, Nat.zero_add]
    · rw [if_neg (by omega), if_pos (by omega), if_pos (by omega), show 2 * (k / 2) + 1 = k by omega]
  · rw [List.getElem?_set_ne (fun e => hj e.symm)]
    by_cases h8 : j < 32
    · rw [dL_get _ _ _ h8, dL_get _ _ _ h8]
      congr 1
      unfold dN
      by_cases h1 : 2 * j + 1 < k
      · rw [if_pos h1, if_pos (by omega)]
      · by_cases h2 : 2 * j < k
        · omega
        · rw [if_neg h1, if_neg h2, if_neg (show ¬ 2 * j + 1 < k + 1 by omega), if_neg (show ¬ 2 * j < k + 1 by omega)]
    · rw [List.getElem?_eq_none (by rw [dL_len]; omega), List.getElem?_eq_none (by rw [dL_len]; omega)]
/-- What ParseHex answers. -/
def okH (l : List UInt8) : Prop := l.length = 64 ∧ ∀ i, i < 64 → hvL l i < 16
def HexIs (l : List UInt8) (D : List Nat) (c : Int) : Prop := (okH l ∧ D = dL l 64 ∧ c = 0) ∨ (¬ okH l ∧ D = List.replicate 32 0 ∧ c = 12)
theorem HexIs.uniq {l : List UInt8} {D E : List Nat} {c d : Int} (h : HexIs l D c) (g : HexIs l E d) : D = E ∧ c = d := by
  rcases h with ⟨h1, h2, h3⟩ | ⟨h1, h2, h3⟩ <;> rcases g with ⟨g1, g2, g3⟩ | ⟨g1, g2, g3⟩
  · exact ⟨h2.trans g2.symm, h3.trans g3.symm⟩
  · exact absurd h1 g1
  · exact absurd g1 h1
  · exact ⟨h2.trans g2.symm, h3.trans g3.symm⟩
theorem dN_lt {l : List UInt8} {k : Nat} (h : ∀ i, i < k → hvL l i < 16) : dN l k (k / 2) < 16 := by
  unfold dN
  rw [if_neg (by omega)]
  by_cases g : 2 * (k / 2) < k
  · rw [if_pos g]; exact h _ g
  · rw [if_neg g]; decide
end Arp
end Go.Proofs.YtafeigpmldgifaaDoor
/-
  The walk of ParseHex of archive.
-/
namespace Go.Proofs.YtafeigpmldgifaaDoor
namespace Arw
open Go.RowKit Lw Go.Proofs.YtafeigpmldgifaaDoor.Arp

theorem hexI_inj : ∀ i, i < 16 → idxH (hexI i) = (i : Int) := by decide
theorem idxH_none {c : Int} (h : ∀ i, i < 16 → hexI i ≠ c) : idxH c = -1 := by
  unfold idxH
  by_cases h1 : 48 ≤ c ∧ c ≤ 57
  · exfalso
    refine h (c - 48).toNat (by omega) ?_
    unfold hexI
    rw [if_pos (by omega)]
    omega
  · by_cases h2 : 97 ≤ c ∧ c ≤ 102
    · exfalso
      refine h (c - 87).toNat (by omega) ?_
      unfold hexI
      rw [if_neg (by omega)]
      omega
    · rw [if_neg h1, if_neg h2]
theorem index_hex (c : Int) (w : World) (hT : Digs w) :
    Calls Tryd.prog 16 #[.slice (some ⟨0, 0, none⟩) 16 16, .int .i32 c] w fun e w' => e = .returned (.int .i64 (idxH c)) ∧ w = w' := by
  go_enter Tryd.func16, Tryd.ntmps16
  go_wp2
  go_loop [5, 8] (fun x i => ∃ j : Nat, j ≤ 16 ∧ i = .int .i64 j ∧ Hid (∀ i, i < j → hexI i ≠ c)) (fun _ i => 16 - (intOf i).toNat)
  case atStart => exact ⟨0, by omega, rfl, Lib.hid (fun i h => absurd h (Nat.not_lt_zero i))⟩
  case round =>
    obtain ⟨j, hj, rfl, hB⟩ := hrel
    by_cases hlt : j < 16
    · have ck := hT.cell hlt
      have i1 : (j : Int) < 16 := by omega
      by_cases he : hexI j = c
      · have e1 : (c == hexI j) = true := beq_iff_eq.2 he.symm
        have hp := Lib.hid (hexI_inj j hlt)
        have He := Lib.hid he
        clear he
        generalize hexI j = q at *
        go_wp2
        go_ret
        exact ⟨by rw [← He.out, hp.out]; rfl, rfl⟩
      · have e1 : (c == hexI j) = false := beq_eq_false_iff_ne.2 (fun e => he e.symm)
        have HB : Hid (∀ i, i < j + 1 → hexI i ≠ c) := Lib.hid (fun i hi => by
          by_cases e : i = j
          · subst e; exact he
          · exact hB.out i (by omega))
        clear he hB
        generalize hexI j = q at *
        go_wp2
        go_round
        case rel => exact ⟨j + 1, by omega, by go_num, HB⟩
        case measure => simp [intOf]; omega
    · obtain rfl : j = 16 := by omega
      have hp := Lib.hid (idxH_none hB.out)
      clear hB
      go_wp2
      go_ret
      exact ⟨by rw [hp.out]; rfl, rfl⟩
def u8L (l : List Nat) : List Value := l.map fun (x : Nat) => Value.int .u8 (x : Int)
theorem u8L_len (l : List Nat) : (u8L l).length = l.length := by unfold u8L; rw [List.length_map]
theorem u8L_get {l : List Nat} {j x : Nat} (h : l[j]? = some x) : (u8L l)[j]? = some (.int .u8 (x : Int)) := by unfold u8L; rw [List.getElem?_map, h]; rfl
theorem u8L_set (l : List Nat) (j x : Nat) : (u8L l).set j (.int .u8 (x : Int)) = u8L (l.set j x) := by unfold u8L; rw [List.map_set]
theorem or_nib (a x : Nat) (ha : a < 16) (hx : x < 16) : bits .or .u8 ((a : Int) * 16) (x : Int) = ((16 * a + x : Nat) : Int) := by
  have e : (a : Int) * 16 = ((a * 16 : Nat) : Int) := by omega
  rw [e, u8_or_nat _ _ (by omega) (by omega), nat_join 4 (a * 16) x (by omega) (by omega), Nat.mul_comm]
theorem cell_blk {w w' : World} {b o : Nat} (h : w'.heap[b]? = w.heap[b]?) : w'.cell? ⟨b, o, none⟩ = w.cell? ⟨b, o, none⟩ := by unfold World.cell?; rw [h]
theorem Rw.blk {w w' : World} {b : Nat} {vs : List Value} (h : Rw w b vs) (e : w'.heap[b]? = w.heap[b]?) (hs : w.heap.size ≤ w'.heap.size) : Rw w' b vs := by
  refine ⟨fun j x hx => ?_, fun j hj => ?_, Nat.lt_of_lt_of_le h.lt hs⟩
  · have := h.row j x hx
    unfold World.cell? at this ⊢
    rw [e]; exact this
  · have := h.th j hj
    unfold World.cell? World.frozen? at this ⊢
    rw [e]; exact this
theorem Rw.iterAt {w : World} {b k : Nat} {vs : List Value} (h : Rw w b vs) (hk : b ≠ k) (s : ByteArray) (pos : Nat) : Rw (w.iterAt k s pos) b vs := h.blk (Lib.iterAt_other w k b s pos hk) (by rw [Lib.iterAt_size]; exact Nat.le_refl _)
/-- What ParseHex's loop keeps. -/
structure PX (w0 : World) (s : ByteArray) (k : Nat) (w : World) : Prop where
  res : Rw w w0.heap.size (u8L (List.replicate 32 0))
  d : Rw w (w0.heap.size + 1) (u8L (dL s.data.toList k))
  it : w.heap[w0.heap.size + 2]? = some (.stringIter s k)
  below : Below w0.heap.size w0 w
  hv : ∀ i, i < k → hvL s.data.toList i < 16
theorem PX.step {w0 w : World} {s : ByteArray} {k : Nat} (h : PX w0 s k w) (hk : k < 64) (hv : hvL s.data.toList k < 16) : PX w0 s (k + 1) ((w.iterAt (w0.heap.size + 2) s (k + 1)).setCell ⟨w0.heap.size + 1, k / 2, none⟩ (.int .u8 ((16 * dN s.data.toList k (k / 2) + hvL s.data.toList k : Nat) : Int))) := by
  have h1 := h.d.iterAt (k := w0.heap.size + 2) (by omega) s (k + 1)
  have h2 := h1.set (k / 2) (.int .u8 ((16 * dN s.data.toList k (k / 2) + hvL s.data.toList k : Nat) : Int)) (by rw [u8L_len, dL_len]; omega)
  rw [u8L_set, dL_set _ _ hk] at h2
  refine ⟨(h.res.iterAt (by omega) s (k + 1)).apart (by omega) _ _, h2, ?_, (Lib.below_iterAt h.below (by omega) s (k + 1)).setCell (p := ⟨w0.heap.size + 1, k / 2, none⟩) (by show w0.heap.size ≤ w0.heap.size + 1; omega) _, fun i hi => ?_⟩
  · rw [(Only.set _ _ _ _).block _ ?_ ?_]
    · exact Lib.iterAt_heap _ _ _ _ _ h.it
    · rw [Lib.iterAt_size]; exact own1_lt h.it
    · omega
  · by_cases e : i = k
    · subst e; exact hv
    · exact h.hv i (by omega)
theorem u8one (l : List Nat) : ((u8L l).toArray).all (·.oneCell') = true := all_oneCell_toArray (fun v hv => by
    obtain ⟨x, _, rfl⟩ := List.mem_map.1 hv
    rfl)
def PHexPost (s : ByteArray) (w : World) (e : Ending) (w' : World) : Prop := ∃ (D : List Nat) (c : Int), e = .returned (.tuple #[digV D, .int .i64 c]) ∧ HexIs s.data.toList D c ∧ D.length = 32 ∧ Below w.heap.size w w'
theorem zer32 : (Value.agg #[.int .u8 0, .int .u8 0, .int .u8 0, .int .u8 0, .int .u8 0, .int .u8 0, .int .u8 0, .int .u8 0, .int .u8 0, .int .u8 0, .int .u8 0, .int .u8 0, .int .u8 0, .int .u8 0, .int .u8 0, .int .u8 0, .int .u8 0, .int .u8 0, .int .u8 0, .int .u8 0, .int .u8 0, .int .u8 0, .int .u8 0, .int .u8 0, .int .u8 0, .int .u8 0, .int .u8 0, .int .u8 0, .int .u8 0, .int .u8 0, .int .u8 0, .int .u8 0]) = .agg (u8L (List.replicate 32 0)).toArray := rfl
set_option maxRecDepth 100000 in
set_option maxHeartbeats 8000000 in
theorem parsehex_any (s : ByteArray) (w : World) (hT : Digs w) (hs : s.size ≤ 100000) : Calls Tryd.prog 5 #[.string s] w (PHexPost s w) := by
  have B0 := (Below.refl w.heap.size w).alloc (Nat.le_refl _) (.cells #[.int .u8 0, .int .u8 0, .int .u8 0, .int .u8 0, .int .u8 0, .int .u8 0, .int .u8 0, .int .u8 0, .int .u8 0, .int .u8 0, .int .u8 0, .int .u8 0, .int .u8 0, .int .u8 0, .int .u8 0, .int .u8 0, .int .u8 0, .int .u8 0, .int .u8 0, .int .u8 0, .int .u8 0, .int .u8 0, .int .u8 0, .int .u8 0, .int .u8 0, .int .u8 0, .int .u8 0, .int .u8 0, .int .u8 0, .int .u8 0, .int .u8 0, .int .u8 0] 23)
  have B1 := B0.alloc (by simp) (.cells #[.int .u8 0, .int .u8 0, .int .u8 0, .int .u8 0, .int .u8 0, .int .u8 0, .int .u8 0, .int .u8 0, .int .u8 0, .int .u8 0, .int .u8 0, .int .u8 0, .int .u8 0, .int .u8 0, .int .u8 0, .int .u8 0, .int .u8 0, .int .u8 0, .int .u8 0, .int .u8 0, .int .u8 0, .int .u8 0, .int .u8 0, .int .u8 0, .int .u8 0, .int .u8 0, .int .u8 0, .int .u8 0, .int .u8 0, .int .u8 0, .int .u8 0, .int .u8 0] 23)
  have R0 : Rw (w.alloc (.cells #[.int .u8 0, .int .u8 0, .int .u8 0, .int .u8 0, .int .u8 0, .int .u8 0, .int .u8 0, .int .u8 0, .int .u8 0, .int .u8 0, .int .u8 0, .int .u8 0, .int .u8 0, .int .u8 0, .int .u8 0, .int .u8 0, .int .u8 0, .int .u8 0, .int .u8 0, .int .u8 0, .int .u8 0, .int .u8 0, .int .u8 0, .int .u8 0, .int .u8 0, .int .u8 0, .int .u8 0, .int .u8 0, .int .u8 0, .int .u8 0, .int .u8 0, .int .u8 0] 23)) w.heap.size (u8L (List.replicate 32 0)) := Rw.new w (List.replicate 32 (.int .u8 0)) 23
  have R1 : Rw ((w.alloc (.cells #[.int .u8 0, .int .u8 0, .int .u8 0, .int .u8 0, .int .u8 0, .int .u8 0, .int .u8 0, .int .u8 0, .int .u8 0, .int .u8 0, .int .u8 0, .int .u8 0, .int .u8 0, .int .u8 0, .int .u8 0, .int .u8 0, .int .u8 0, .int .u8 0, .int .u8 0, .int .u8 0, .int .u8 0, .int .u8 0, .int .u8 0, .int .u8 0, .int .u8 0, .int .u8 0, .int .u8 0, .int .u8 0, .int .u8 0, .int .u8 0, .int .u8 0, .int .u8 0] 23)).alloc (.cells #[.int .u8 0, .int .u8 0, .int .u8 0, .int .u8 0, .int .u8 0, .int .u8 0, .int .u8 0, .int .u8 0, .int .u8 0, .int .u8 0, .int .u8 0, .int .u8 0, .int .u8 0, .int .u8 0, .int .u8 0, .int .u8 0, .int .u8 0, .int .u8 0, .int .u8 0, .int .u8 0, .int .u8 0, .int .u8 0, .int .u8 0, .int .u8 0, .int .u8 0, .int .u8 0, .int .u8 0, .int .u8 0, .int .u8 0, .int .u8 0, .int .u8 0, .int .u8 0] 23)) (w.heap.size + 1) (u8L (List.replicate 32 0)) := by
    have := Rw.new (w.alloc (.cells #[.int .u8 0, .int .u8 0, .int .u8 0, .int .u8 0, .int .u8 0, .int .u8 0, .int .u8 0, .int .u8 0, .int .u8 0, .int .u8 0, .int .u8 0, .int .u8 0, .int .u8 0, .int .u8 0, .int .u8 0, .int .u8 0, .int .u8 0, .int .u8 0, .int .u8 0, .int .u8 0, .int .u8 0, .int .u8 0, .int .u8 0, .int .u8 0, .int .u8 0, .int .u8 0, .int .u8 0, .int .u8 0, .int .u8 0, .int .u8 0, .int .u8 0, .int .u8 0] 23)) (List.replicate 32 (.int .u8 0)) 23
    have e : (w.alloc (.cells #[.int .u8 0, .int .u8 0, .int .u8 0, .int .u8 0, .int .u8 0, .int .u8 0, .int .u8 0, .int .u8 0, .int .u8 0, .int .u8 0, .int .u8 0, .int .u8 0, .int .u8 0, .int .u8 0, .int .u8 0, .int .u8 0, .int .u8 0, .int .u8 0, .int .u8 0, .int .u8 0, .int .u8 0, .int .u8 0, .int .u8 0, .int .u8 0, .int .u8 0, .int .u8 0, .int .u8 0, .int .u8 0, .int .u8 0, .int .u8 0, .int .u8 0, .int .u8 0] 23)).heap.size = w.heap.size + 1 := by simp
    rw [e] at this
    exact this
  have R2 := R0.call ((Below.refl _ _).alloc (Nat.le_refl _) (.cells #[.int .u8 0, .int .u8 0, .int .u8 0, .int .u8 0, .int .u8 0, .int .u8 0, .int .u8 0, .int .u8 0, .int .u8 0, .int .u8 0, .int .u8 0, .int .u8 0, .int .u8 0, .int .u8 0, .int .u8 0, .int .u8 0, .int .u8 0, .int .u8 0, .int .u8 0, .int .u8 0, .int .u8 0, .int .u8 0, .int .u8 0, .int .u8 0, .int .u8 0, .int .u8 0, .int .u8 0, .int .u8 0, .int .u8 0, .int .u8 0, .int .u8 0, .int .u8 0] 23))
  have zW : ((w.alloc (.cells #[.int .u8 0, .int .u8 0, .int .u8 0, .int .u8 0, .int .u8 0, .int .u8 0, .int .u8 0, .int .u8 0, .int .u8 0, .int .u8 0, .int .u8 0, .int .u8 0, .int .u8 0, .int .u8 0, .int .u8 0, .int .u8 0, .int .u8 0, .int .u8 0, .int .u8 0, .int .u8 0, .int .u8 0, .int .u8 0, .int .u8 0, .int .u8 0, .int .u8 0, .int .u8 0, .int .u8 0, .int .u8 0, .int .u8 0, .int .u8 0, .int .u8 0, .int .u8 0] 23)).alloc (.cells #[.int .u8 0, .int .u8 0, .int .u8 0, .int .u8 0, .int .u8 0, .int .u8 0, .int .u8 0, .int .u8 0, .int .u8 0, .int .u8 0, .int .u8 0, .int .u8 0, .int .u8 0, .int .u8 0, .int .u8 0, .int .u8 0, .int .u8 0, .int .u8 0, .int .u8 0, .int .u8 0, .int .u8 0, .int .u8 0, .int .u8 0, .int .u8 0, .int .u8 0, .int .u8 0, .int .u8 0, .int .u8 0, .int .u8 0, .int .u8 0, .int .u8 0, .int .u8 0] 23)).heap.size = w.heap.size + 2 := by simp
  obtain ⟨W, hW⟩ : ∃ W, (w.alloc (.cells #[.int .u8 0, .int .u8 0, .int .u8 0, .int .u8 0, .int .u8 0, .int .u8 0, .int .u8 0, .int .u8 0, .int .u8 0, .int .u8 0, .int .u8 0, .int .u8 0, .int .u8 0, .int .u8 0, .int .u8 0, .int .u8 0, .int .u8 0, .int .u8 0, .int .u8 0, .int .u8 0, .int .u8 0, .int .u8 0, .int .u8 0, .int .u8 0, .int .u8 0, .int .u8 0, .int .u8 0, .int .u8 0, .int .u8 0, .int .u8 0, .int .u8 0, .int .u8 0] 23)).alloc (.cells #[.int .u8 0, .int .u8 0, .int .u8 0, .int .u8 0, .int .u8 0, .int .u8 0, .int .u8 0, .int .u8 0, .int .u8 0, .int .u8 0, .int .u8 0, .int .u8 0, .int .u8 0, .int .u8 0, .int .u8 0, .int .u8 0, .int .u8 0, .int .u8 0, .int .u8 0, .int .u8 0, .int .u8 0, .int .u8 0, .int .u8 0, .int .u8 0, .int .u8 0, .int .u8 0, .int .u8 0, .int .u8 0, .int .u8 0, .int .u8 0, .int .u8 0, .int .u8 0] 23) = W := ⟨_, rfl⟩
  rw [hW] at R1 R2 B1 zW
  have HW := Lib.hid hW
  have HT := Lib.hid (fun w' (h : Below w.heap.size w w') => hT.below h)
  have F := Lib.hid (And.intro R2 (And.intro R1 B1))
  have zl : s.data.toList.length = s.size := rfl
  clear B0 R0 R1 R2 B1 hW hT
  go_enter Tryd.func5, Tryd.ntmps5
  by_cases h64 : s.size = 64
  · have g64 : ((s.size : Int) == 64) = true := by rw [h64]; rfl
    have g65 : ((s.size : Int) != 64) = false := by rw [h64]; rfl
    have X0 : Hid (PX w s 0 (W.iter s 0)) := Lib.hid (by
      have bi := Below.refl W.heap.size W
      have bj := bi.alloc (Nat.le_refl _) (.stringIter s 0)
      refine ⟨F.out.1.call bj, ?_, ?_, below_then F.out.2.2 bj, fun i h => absurd h (Nat.not_lt_zero i)⟩
      · rw [dL_zero]; exact F.out.2.1.call bj
      · rw [← zW]; exact World.iter_heap W s 0)
    have OKL : Hid ((∀ i, i < 64 → hvL s.data.toList i < 16) → okH s.data.toList) := Lib.hid (fun h => ⟨by rw [zl, h64], h⟩)
    have BAD : Hid (∀ i, i < 64 → ¬ hvL s.data.toList i < 16 → HexIs s.data.toList (List.replicate 32 0) 12) := Lib.hid (fun i hi h => Or.inr ⟨fun g => h (g.2 i hi), rfl, rfl⟩)
    have HVB : Hid (∀ k (h : k < s.size), hvL s.data.toList k = hvN (s[k]'h)) := Lib.hid (fun k h => by
      unfold hvL
      rw [List.getD_eq_getElem?_getD, List.getElem?_eq_getElem (by rw [zl]; exact h)]
      rfl)
    clear F
    go_wp2_with fail
    rw [HW.out]
    clear HW
    go_loopw [5] (fun _ wr => ∃ k : Nat, k ≤ 64 ∧ Hid (PX w s k wr)) (fun _ wr => s.size - wr.iterPos (w.heap.size + 2))
    case atStart => exact ⟨0, Nat.zero_le _, X0⟩
    case round =>
      obtain ⟨k, hk, X⟩ := hrel
      clear X0
      by_cases hlt : k < s.size
      · have T1 := HT.out _ (Lib.below_iterAt X.out.below (k := w.heap.size + 2) (by omega) s (k + 1))
        have HV := HVB.out k hlt
        by_cases ha : (s[k]'hlt).toNat < 128
        · have hnx : ∀ ty, (Instr.next (.pointer (some ⟨w.heap.size + 2, 0, none⟩)) true ty).run Tryd.prog wr = .ok (.tuple #[.bool true, .int .i64 k, .int .i32 ((s[k]'hlt).toNat : Int)]) (wr.iterAt (w.heap.size + 2) s (k + 1)) := fun ty => Lib.run_next_ascii_at wr _ s k ty X.out.it hlt ha
          have C := Lib.hid (index_hex ((s[k]'hlt).toNat : Int) _ T1)
          by_cases hw : hvN (s[k]'hlt) < 16
          · rw [idxH_yes hw] at C
            have X1 := Lib.hid (X.out.step (by omega) (by rw [HV]; exact hw))
            have cd := (X.out.d.iterAt (k := w.heap.size + 2) (by omega) s (k + 1)).cell (u8L_get (dL_get s.data.toList k (k / 2) (by omega)))
            have fd := (X.out.d.iterAt (k := w.heap.size + 2) (by omega) s (k + 1)).free (j := k / 2) (by rw [u8L_len, dL_len]; omega)
            have dlt := dN_lt X.out.hv
            rw [HV] at X1
            have ob := or_nib (dN s.data.toList k (k / 2)) (hvN (s[k]'hlt)) dlt hw
            obtain ⟨q, hq⟩ : ∃ q, k / 2 = q := ⟨_, rfl⟩
            have q1 : (k : Int) / 2 = (q : Int) := by omega
            have q2 : 0 ≤ (q : Int) ∧ (q : Int) < 32 := by omega
            have it1 : (wr.iterAt (w.heap.size + 2) s (k + 1)).iterPos (w.heap.size + 2) = k + 1 := iterPos_of (Lib.iterAt_heap _ _ _ _ _ X.out.it)
            have itm : Hid (wr.iterPos (w.heap.size + 2) = k) := Lib.hid (iterPos_of X.out.it)
            rw [hq] at X1 cd fd dlt ob
            clear X hq T1 HV BAD OKL HVB
            generalize (s[k]'hlt).toNat = ch at *
            generalize hvN (s[k]'hlt) = v at *
            generalize dN s.data.toList k q = x at *
            generalize 16 * x + v = y at *
            generalize wr.iterAt (w.heap.size + 2) s (k + 1) = wi at *
            go_wp2_with fail
            refine C.out.mono ?_
            rintro e w1 ⟨rfl, rfl⟩
            clear C
            go_wp2_with fail
            go_roundw
            case rel => exact ⟨k + 1, by omega, X1⟩
            case measure => rw [iterPos_of X1.out.it, itm.out]; omega
          · rw [idxH_no hw] at C
            have NO := Lib.hid (BAD.out k (by omega) (by rw [HV]; exact hw))
            have Y := Lib.hid (And.intro (X.out.res.iterAt (k := w.heap.size + 2) (by omega) s (k + 1)) (Lib.below_iterAt X.out.below (k := w.heap.size + 2) (by omega) s (k + 1)))
            clear X T1 HV BAD OKL HVB hw
            generalize (s[k]'hlt).toNat = ch at *
            generalize wr.iterAt (w.heap.size + 2) s (k + 1) = wi at *
            go_wp2_with fail
            refine C.out.mono ?_
            rintro e w1 ⟨rfl, rfl⟩
            clear C
            have tr := Y.out.1.th
            go_wp2_with (refine wpList_store_mid rfl _ (.tmp 2) (.tmp 23) rfl w.heap.size 0 _ rfl zer32 tr info32d (u8one _) ?_)
            exact bodyPost_ret (ret_cell_tmp Tryd.results5 _ _ w.heap.size (u8L (List.replicate 32 0)) _ rfl (World.rangeAt_setCells_same _ w.heap.size 0 _ (by rw [u8L_len]; exact tr)) Tryd.underlying23 rfl info32d) rfl ⟨_, 12, rfl, NO.out, rfl, below_setCells w.heap.size (Nat.le_refl _) _ 0 _ Y.out.2⟩
        · obtain ⟨d1, d2⟩ := decode_high s k hlt (by omega)
          have hnx : ∀ ty, (Instr.next (.pointer (some ⟨w.heap.size + 2, 0, none⟩)) true ty).run Tryd.prog wr = _ := fun ty => Lib.run_next_any_at wr _ s k ty X.out.it hlt
          have NO := Lib.hid (BAD.out k (by omega) (by rw [HV]; exact hv_high (by omega)))
          generalize (Utf8.decode s k).1 = r at *
          generalize (Utf8.decode s k).2 = q at *
          have Y := Lib.hid (And.intro (X.out.res.iterAt (k := w.heap.size + 2) (by omega) s (k + q)) (Lib.below_iterAt X.out.below (k := w.heap.size + 2) (by omega) s (k + q)))
          have C := Lib.hid (index_hex (r : Int) _ (HT.out _ Y.out.2))
          rw [idxH_high (by omega)] at C
          clear X T1 HV BAD OKL HVB ha
          generalize wr.iterAt (w.heap.size + 2) s (k + q) = wi at *
          go_wp2_with fail
          refine C.out.mono ?_
          rintro e w1 ⟨rfl, rfl⟩
          clear C
          have tr := Y.out.1.th
          go_wp2_with (refine wpList_store_mid rfl _ (.tmp 2) (.tmp 23) rfl w.heap.size 0 _ rfl zer32 tr info32d (u8one _) ?_)
          exact bodyPost_ret (ret_cell_tmp Tryd.results5 _ _ w.heap.size (u8L (List.replicate 32 0)) _ rfl (World.rangeAt_setCells_same _ w.heap.size 0 _ (by rw [u8L_len]; exact tr)) Tryd.underlying23 rfl info32d) rfl ⟨_, 12, rfl, NO.out, rfl, below_setCells w.heap.size (Nat.le_refl _) _ 0 _ Y.out.2⟩
      · obtain rfl : k = 64 := by omega
        have hnx : ∀ ty, (Instr.next (.pointer (some ⟨w.heap.size + 2, 0, none⟩)) true ty).run Tryd.prog wr = _ := fun ty => Lib.run_next_end_at wr _ s 64 ty X.out.it hlt
        have YES : Hid (HexIs s.data.toList (dL s.data.toList 64) 0) := Lib.hid (Or.inl ⟨OKL.out X.out.hv, rfl, rfl⟩)
        have rd := X.out.d.row
        have tr := X.out.res.th
        have BX := Lib.hid X.out.below
        have l32 := dL_len s.data.toList 64
        have L32 := Lib.hid l32
        have os : (u8L (dL s.data.toList 64)).toArray.size = 32 := by rw [List.size_toArray, u8L_len, l32]
        have one := u8one (dL s.data.toList 64)
        clear X BAD OKL HVB l32
        generalize dL s.data.toList 64 = D at *
        go_wp2_with (first | (refine wpList_load_mid rfl _ (.tmp 4) rfl (w.heap.size + 1) 0 rfl (u8L D) _ rd Tryd.underlying23 rfl (by rw [u8L_len, L32.out]; exact info32d) ?_) | (refine wpList_store_mid rfl _ (.tmp 2) (.tmp 35) rfl w.heap.size 0 (u8L D).toArray rfl rfl (by rw [os]; exact tr) (by rw [os]; exact info32d) one ?_))
        exact bodyPost_ret (ret_cell_tmp Tryd.results5 _ _ w.heap.size (u8L (D)) _ rfl (World.rangeAt_setCells_same _ w.heap.size 0 _ (by rw [u8L_len]; exact (by rw [L32.out]; exact tr))) Tryd.underlying23 rfl (by rw [u8L_len, L32.out]; exact info32d)) rfl ⟨_, 0, rfl, YES.out, L32.out, below_setCells w.heap.size (Nat.le_refl _) _ 0 _ BX.out⟩
  · have NO : Hid (HexIs s.data.toList (List.replicate 32 0) 12) := Lib.hid (Or.inr ⟨fun h => h64 (by rw [← zl]; exact h.1), rfl, rfl⟩)
    have g65 : ((s.size : Int) != 64) = true := bne_iff_ne.2 (by omega)
    have tr := F.out.1.th
    rw [← HW.out] at tr
    go_wp2_with (refine wpList_store_mid rfl _ (.tmp 2) (.tmp 11) rfl w.heap.size 0 _ rfl zer32 tr info32d (u8one _) ?_)
    exact bodyPost_ret (ret_cell_tmp Tryd.results5 _ _ w.heap.size (u8L (List.replicate 32 0)) _ rfl (World.rangeAt_setCells_same _ w.heap.size 0 _ (by rw [u8L_len]; exact tr)) Tryd.underlying23 rfl info32d) rfl ⟨_, 12, rfl, NO.out, rfl, below_setCells w.heap.size (Nat.le_refl _) _ 0 _ (by rw [HW.out]; exact F.out.2.2)⟩
end Arw
end Go.Proofs.YtafeigpmldgifaaDoor
/-
  The walks of Hex and ParseHex of the reference.
-/
namespace Go.Proofs.YtafeigpmldgifaaDoor
namespace Arw
open Go.RowKit Lw Go.Proofs.YtafeigpmldgifaaDoor.Arp

/-- The digits, as a string. -/
def hexS : ByteArray := ⟨#[48, 49, 50, 51, 52, 53, 54, 55, 56, 57, 97, 98, 99, 100, 101, 102]⟩
theorem hexS_ext : ∀ a : Nat, a < 16 → hexS.extract a (a + 1) = ⟨#[hexB a]⟩ := by decide
theorem hexL_snoc (l : List Nat) (x : Nat) : hexL (l ++ [x]) = hexL l ++ [hexB (x / 16), hexB (x % 16)] := by simp [hexL]
theorem hexL_len (l : List Nat) : (hexL l).length = 2 * l.length := by
  induction l with
  | nil => rfl
  | cons a l ih => simp only [hexL, List.flatMap_cons, List.length_append, List.length_cons, List.length_nil] at ih ⊢; omega
set_option maxRecDepth 100000 in
set_option maxHeartbeats 4000000 in
theorem rhex_any (D : List Nat) (DL : D.length = 32) (lt : ∀ x ∈ D, x < 256) (w : World) :
    Calls Tryd.prog 14 #[digV D] w fun e w' => e = .returned (.string ⟨(hexL D).toArray⟩) ∧ Below w.heap.size w w' := by
  have e0 : digV D = .agg (u8L D).toArray := rfl
  rw [e0]
  have rn := Rw.new w (u8L D) 23
  have B0 := Lib.hid ((Below.refl w.heap.size w).alloc (Nat.le_refl _) (.cells (u8L D).toArray 23))
  have RN := Lib.hid rn
  clear e0 rn
  go_enter Tryd.func14, Tryd.ntmps14
  go_wp2_with fail
  generalize w.alloc (.cells (u8L D).toArray 23) = w1 at *
  go_loopw [3, 4] (fun v i wr => ∃ (k : Nat) (t : ByteArray), k ≤ 32 ∧ i = .int .i64 k ∧ v = .string t ∧ Hid (t.data.toList = hexL (D.take k)) ∧ Hid (Rw wr w.heap.size (u8L D)) ∧ Hid (Below w.heap.size w wr)) (fun _ i _ => 32 - (intOf i).toNat)
  case atStart => exact ⟨0, ByteArray.empty, Nat.zero_le _, rfl, rfl, Lib.hid rfl, RN, B0⟩
  case round =>
    obtain ⟨k, t, hk, rfl, rfl, HT, R, B⟩ := hrel
    clear B0 RN
    by_cases hlt : k < 32
    · have i1 : (k : Int) < 32 := by omega
      have hd : D.take (k + 1) = D.take k ++ [D.getD k 0] := by
        rw [List.take_add_one, List.getElem?_eq_getElem (by omega), List.getD_eq_getElem?_getD, List.getElem?_eq_getElem (by omega)]; rfl
      have hx : D.getD k 0 < 256 := by
        rw [List.getD_eq_getElem?_getD, List.getElem?_eq_getElem (by omega)]
        exact lt _ (List.getElem_mem (by omega))
      have ck := R.out.cell (u8L_get (l := D) (j := k) (x := D.getD k 0) (by rw [List.getD_eq_getElem?_getD, List.getElem?_eq_getElem (by omega)]; rfl))
      have ER : Hid (hexL (D.take (k + 1)) = hexL (D.take k) ++ [hexB (D.getD k 0 / 16), hexB (D.getD k 0 % 16)]) := Lib.hid (by rw [hd, hexL_snoc])
      have tz : t.size = 2 * k := by
        have := congrArg List.length HT.out
        rw [hexL_len, List.length_take, Nat.min_eq_left (by omega)] at this
        exact this
      generalize D.getD k 0 = x at *
      obtain ⟨a, ha⟩ : ∃ a, x / 16 = a := ⟨_, rfl⟩
      obtain ⟨b, hb⟩ : ∃ b, x % 16 = b := ⟨_, rfl⟩
      have a16 : a < 16 := by omega
      have b16 : b < 16 := by omega
      have a1 : (x : Int) / 16 = (a : Int) := by omega
      have b1 : (x : Int) % 16 = (b : Int) := by omega
      have xa := hexS_ext a a16
      have xb := hexS_ext b b16
      rw [ha, hb] at ER
      have k2 : 0 ≤ (k : Int) ∧ (k : Int) < 32 := by omega
      have kw : IntKind.i64.wrap (k : Int) = (k : Int) := wrap_small _ (by omega) (by omega)
      clear ha hb hd
      go_wp2_with fail
      go_quiet (fail)
      go_wp2_with fail
      go_quiet (fail)
      obtain ⟨t2, ht2⟩ : ∃ t2, t ++ ((⟨#[48, 49, 50, 51, 52, 53, 54, 55, 56, 57, 97, 98, 99, 100, 101, 102]⟩ : ByteArray).extract a (a + 1) ++ (⟨#[48, 49, 50, 51, 52, 53, 54, 55, 56, 57, 97, 98, 99, 100, 101, 102]⟩ : ByteArray).extract b (b + 1)) = t2 := ⟨_, rfl⟩
      have T2 : Hid (t2.data.toList = hexL (D.take (k + 1))) := Lib.hid (by
        rw [← ht2, ER.out, ← HT.out]
        change (t ++ (hexS.extract a (a + 1) ++ hexS.extract b (b + 1))).data.toList = _
        rw [xa, xb]
        simp)
      rw [ht2]
      have Bq := Lib.hid (fun n => drewN_below2 (Below.refl wr.heap.size wr) n)
      go_wp2_with fail
      go_roundw
      case rel => exact ⟨k + 1, t2, by omega, by go_num, rfl, T2, Lib.hid (R.out.call (Bq.out _)), Lib.hid (below_then B.out (Bq.out _))⟩
      case measure => simp [intOf]; omega
    · obtain rfl : k = 32 := by omega
      have i1 : ¬ (32 : Int) < 32 := by omega
      have e : t = ⟨(hexL D).toArray⟩ := by
        have := HT.out
        rw [List.take_of_length_le (by omega)] at this
        apply ByteArray.ext
        apply Array.ext'
        rw [this]
      have HE := Lib.hid e
      clear HT R e
      go_wp2_with fail
      go_ret
      exact ⟨by rw [← HE.out]; rfl, B.out⟩
/-- What the reference's ParseHex keeps. -/
structure RX (w0 : World) (s : ByteArray) (k : Nat) (w : World) : Prop where
  res : Rw w w0.heap.size (u8L (List.replicate 32 0))
  d : Rw w (w0.heap.size + 1) (u8L (dL s.data.toList k))
  below : Below w0.heap.size w0 w
  hv : ∀ i, i < k → hvL s.data.toList i < 16
theorem RX.call {w0 w w' : World} {s : ByteArray} {k : Nat} (h : RX w0 s k w) (hb : Below w.heap.size w w') : RX w0 s k w' := ⟨h.res.call hb, h.d.call hb, below_then h.below hb, h.hv⟩
theorem RX.step {w0 w : World} {s : ByteArray} {k : Nat} (h : RX w0 s k w) (hk : k < 64) (hv : hvL s.data.toList k < 16) : RX w0 s (k + 1) (w.setCell ⟨w0.heap.size + 1, k / 2, none⟩ (.int .u8 ((16 * dN s.data.toList k (k / 2) + hvL s.data.toList k : Nat) : Int))) := by
  have h2 := h.d.set (k / 2) (.int .u8 ((16 * dN s.data.toList k (k / 2) + hvL s.data.toList k : Nat) : Int)) (by rw [u8L_len, dL_len]; omega)
  rw [u8L_set, dL_set _ _ hk] at h2
  refine ⟨h.res.apart (by omega) _ _, h2, h.below.setCell (p := ⟨w0.heap.size + 1, k / 2, none⟩) (by show w0.heap.size ≤ w0.heap.size + 1; omega) _, fun i hi => ?_⟩
  by_cases e : i = k
  · subst e; exact hv
  · exact h.hv i (by omega)
theorem or_nib2 (a x : Nat) (ha : a < 16) (hx : x < 16) : IntKind.u8.wrap ((a : Int) * 16 + (x : Int)) = ((16 * a + x : Nat) : Int) := by
  rw [IntKind.wrap_u8']; omega
theorem hexB_hv (c : UInt8) (j : Nat) (hj : j < 16) : (hexB j).toNat = c.toNat ↔ hvN c = j := by
  have h : (hexB j).toNat = if j < 10 then 48 + j else 87 + j := by
    unfold hexB
    rw [UInt8.toNat_ofNat']
    split <;> omega
  rw [h]
  unfold hvN
  split <;> split <;> (try split) <;> omega
def vI (v j : Nat) : Int := if v < j then (v : Int) else -1
theorem vI_zero (v : Nat) : vI v 0 = -1 := rfl
theorem vI_yes {v j : Nat} (h : v = j) : vI v (j + 1) = (j : Int) := by unfold vI; rw [if_pos (by omega), h]
theorem vI_no {v j : Nat} (h : v ≠ j) : vI v (j + 1) = vI v j := by
  unfold vI
  by_cases g : v < j
  · rw [if_pos g, if_pos (by omega)]
  · rw [if_neg g, if_neg (by omega)]
theorem idx_at (s : ByteArray) (j : Nat) (h : j < s.size) (w : World) : (Instr.index 9 (.string s) (.int .i64 (j : Int))).run Tryd.prog w = .ok (.int .u8 ((s[j]'h).toNat : Int)) w := by
  rw [run_index_string _ _ _ _ _ Tryd.underlying9, dif_pos ⟨by omega, by omega⟩]
  rfl
theorem hexS_fin : ∀ j : Fin 16, (hexS[j.val]'j.isLt) = hexB j.val := by decide
theorem hexS_at (j : Nat) (h : j < 16) : (hexS[j]'h) = hexB j := hexS_fin ⟨j, h⟩
theorem hexS_idx (j : Nat) (h : j < 16) (w : World) : (Instr.index 9 (.string ⟨#[48, 49, 50, 51, 52, 53, 54, 55, 56, 57, 97, 98, 99, 100, 101, 102]⟩) (.int .i64 (j : Int))).run Tryd.prog w = .ok (.int .u8 ((hexB j).toNat : Int)) w := by
  have := idx_at hexS j h w
  rw [hexS_at j h] at this
  exact this
set_option maxRecDepth 100000 in
set_option maxHeartbeats 8000000 in
theorem rparsehex_any (s : ByteArray) (w : World) (hs : s.size ≤ 100000) : Calls Tryd.prog 6 #[.string s] w (PHexPost s w) := by
  have B0 := (Below.refl w.heap.size w).alloc (Nat.le_refl _) (.cells #[.int .u8 0, .int .u8 0, .int .u8 0, .int .u8 0, .int .u8 0, .int .u8 0, .int .u8 0, .int .u8 0, .int .u8 0, .int .u8 0, .int .u8 0, .int .u8 0, .int .u8 0, .int .u8 0, .int .u8 0, .int .u8 0, .int .u8 0, .int .u8 0, .int .u8 0, .int .u8 0, .int .u8 0, .int .u8 0, .int .u8 0, .int .u8 0, .int .u8 0, .int .u8 0, .int .u8 0, .int .u8 0, .int .u8 0, .int .u8 0, .int .u8 0, .int .u8 0] 23)
  have B1 := B0.alloc (by simp) (.cells #[.int .u8 0, .int .u8 0, .int .u8 0, .int .u8 0, .int .u8 0, .int .u8 0, .int .u8 0, .int .u8 0, .int .u8 0, .int .u8 0, .int .u8 0, .int .u8 0, .int .u8 0, .int .u8 0, .int .u8 0, .int .u8 0, .int .u8 0, .int .u8 0, .int .u8 0, .int .u8 0, .int .u8 0, .int .u8 0, .int .u8 0, .int .u8 0, .int .u8 0, .int .u8 0, .int .u8 0, .int .u8 0, .int .u8 0, .int .u8 0, .int .u8 0, .int .u8 0] 23)
  have R0 : Rw (w.alloc (.cells #[.int .u8 0, .int .u8 0, .int .u8 0, .int .u8 0, .int .u8 0, .int .u8 0, .int .u8 0, .int .u8 0, .int .u8 0, .int .u8 0, .int .u8 0, .int .u8 0, .int .u8 0, .int .u8 0, .int .u8 0, .int .u8 0, .int .u8 0, .int .u8 0, .int .u8 0, .int .u8 0, .int .u8 0, .int .u8 0, .int .u8 0, .int .u8 0, .int .u8 0, .int .u8 0, .int .u8 0, .int .u8 0, .int .u8 0, .int .u8 0, .int .u8 0, .int .u8 0] 23)) w.heap.size (u8L (List.replicate 32 0)) := Rw.new w (List.replicate 32 (.int .u8 0)) 23
  have R1 : Rw ((w.alloc (.cells #[.int .u8 0, .int .u8 0, .int .u8 0, .int .u8 0, .int .u8 0, .int .u8 0, .int .u8 0, .int .u8 0, .int .u8 0, .int .u8 0, .int .u8 0, .int .u8 0, .int .u8 0, .int .u8 0, .int .u8 0, .int .u8 0, .int .u8 0, .int .u8 0, .int .u8 0, .int .u8 0, .int .u8 0, .int .u8 0, .int .u8 0, .int .u8 0, .int .u8 0, .int .u8 0, .int .u8 0, .int .u8 0, .int .u8 0, .int .u8 0, .int .u8 0, .int .u8 0] 23)).alloc (.cells #[.int .u8 0, .int .u8 0, .int .u8 0, .int .u8 0, .int .u8 0, .int .u8 0, .int .u8 0, .int .u8 0, .int .u8 0, .int .u8 0, .int .u8 0, .int .u8 0, .int .u8 0, .int .u8 0, .int .u8 0, .int .u8 0, .int .u8 0, .int .u8 0, .int .u8 0, .int .u8 0, .int .u8 0, .int .u8 0, .int .u8 0, .int .u8 0, .int .u8 0, .int .u8 0, .int .u8 0, .int .u8 0, .int .u8 0, .int .u8 0, .int .u8 0, .int .u8 0] 23)) (w.heap.size + 1) (u8L (List.replicate 32 0)) := by
    have := Rw.new (w.alloc (.cells #[.int .u8 0, .int .u8 0, .int .u8 0, .int .u8 0, .int .u8 0, .int .u8 0, .int .u8 0, .int .u8 0, .int .u8 0, .int .u8 0, .int .u8 0, .int .u8 0, .int .u8 0, .int .u8 0, .int .u8 0, .int .u8 0, .int .u8 0, .int .u8 0, .int .u8 0, .int .u8 0, .int .u8 0, .int .u8 0, .int .u8 0, .int .u8 0, .int .u8 0, .int .u8 0, .int .u8 0, .int .u8 0, .int .u8 0, .int .u8 0, .int .u8 0, .int .u8 0] 23)) (List.replicate 32 (.int .u8 0)) 23
    have e : (w.alloc (.cells #[.int .u8 0, .int .u8 0, .int .u8 0, .int .u8 0, .int .u8 0, .int .u8 0, .int .u8 0, .int .u8 0, .int .u8 0, .int .u8 0, .int .u8 0, .int .u8 0, .int .u8 0, .int .u8 0, .int .u8 0, .int .u8 0, .int .u8 0, .int .u8 0, .int .u8 0, .int .u8 0, .int .u8 0, .int .u8 0, .int .u8 0, .int .u8 0, .int .u8 0, .int .u8 0, .int .u8 0, .int .u8 0, .int .u8 0, .int .u8 0, .int .u8 0, .int .u8 0] 23)).heap.size = w.heap.size + 1 := by simp
    rw [e] at this
    exact this
  have R2 := R0.call ((Below.refl _ _).alloc (Nat.le_refl _) (.cells #[.int .u8 0, .int .u8 0, .int .u8 0, .int .u8 0, .int .u8 0, .int .u8 0, .int .u8 0, .int .u8 0, .int .u8 0, .int .u8 0, .int .u8 0, .int .u8 0, .int .u8 0, .int .u8 0, .int .u8 0, .int .u8 0, .int .u8 0, .int .u8 0, .int .u8 0, .int .u8 0, .int .u8 0, .int .u8 0, .int .u8 0, .int .u8 0, .int .u8 0, .int .u8 0, .int .u8 0, .int .u8 0, .int .u8 0, .int .u8 0, .int .u8 0, .int .u8 0] 23))
  obtain ⟨W, hW⟩ : ∃ W, (w.alloc (.cells #[.int .u8 0, .int .u8 0, .int .u8 0, .int .u8 0, .int .u8 0, .int .u8 0, .int .u8 0, .int .u8 0, .int .u8 0, .int .u8 0, .int .u8 0, .int .u8 0, .int .u8 0, .int .u8 0, .int .u8 0, .int .u8 0, .int .u8 0, .int .u8 0, .int .u8 0, .int .u8 0, .int .u8 0, .int .u8 0, .int .u8 0, .int .u8 0, .int .u8 0, .int .u8 0, .int .u8 0, .int .u8 0, .int .u8 0, .int .u8 0, .int .u8 0, .int .u8 0] 23)).alloc (.cells #[.int .u8 0, .int .u8 0, .int .u8 0, .int .u8 0, .int .u8 0, .int .u8 0, .int .u8 0, .int .u8 0, .int .u8 0, .int .u8 0, .int .u8 0, .int .u8 0, .int .u8 0, .int .u8 0, .int .u8 0, .int .u8 0, .int .u8 0, .int .u8 0, .int .u8 0, .int .u8 0, .int .u8 0, .int .u8 0, .int .u8 0, .int .u8 0, .int .u8 0, .int .u8 0, .int .u8 0, .int .u8 0, .int .u8 0, .int .u8 0, .int .u8 0, .int .u8 0] 23) = W := ⟨_, rfl⟩
  rw [hW] at R1 R2 B1
  have HW := Lib.hid hW
  have F := Lib.hid (And.intro R0.th B0)
  have G := Lib.hid (And.intro R2 (And.intro R1 B1))
  have zl : s.data.toList.length = s.size := rfl
  clear B0 R0 R1 R2 B1 hW
  go_enter Tryd.func6, Tryd.ntmps6
  by_cases h64 : s.size = 64
  · have g65 : ((s.size : Int) != 64) = false := by rw [h64]; rfl
    have X0 : Hid (RX w s 0 W) := Lib.hid ⟨G.out.1, by rw [dL_zero]; exact G.out.2.1, G.out.2.2, fun i h => absurd h (Nat.not_lt_zero i)⟩
    have OKL : Hid ((∀ i, i < 64 → hvL s.data.toList i < 16) → okH s.data.toList) := Lib.hid (fun h => ⟨by rw [zl, h64], h⟩)
    have BAD : Hid (∀ i, i < 64 → ¬ hvL s.data.toList i < 16 → HexIs s.data.toList (List.replicate 32 0) 12) := Lib.hid (fun i hi h => Or.inr ⟨fun g => h (g.2 i hi), rfl, rfl⟩)
    have HVB : Hid (∀ k (h : k < s.size), hvL s.data.toList k = hvN (s[k]'h)) := Lib.hid (fun k h => by
      unfold hvL
      rw [List.getD_eq_getElem?_getD, List.getElem?_eq_getElem (by rw [zl]; exact h)]
      rfl)
    clear F G
    go_wp2_with fail
    rw [HW.out]
    clear HW
    go_loopw [5] (fun i wr => ∃ k : Nat, k ≤ 64 ∧ i = .int .i64 k ∧ Hid (RX w s k wr)) (fun i _ => 64 - (intOf i).toNat)
    case atStart => exact ⟨0, Nat.zero_le _, rfl, X0⟩
    case round =>
      obtain ⟨k, hk, rfl, X⟩ := hrel
      clear X0
      by_cases hlt : k < 64
      · have i1 : (k : Int) < 64 := by omega
        have hks : k < s.size := by omega
        have HV := HVB.out k hks
        have IB : Hid (∀ j, j < 16 → ((hexB j).toNat = (s[k]'hks).toNat ↔ hvN (s[k]'hks) = j)) := Lib.hid (fun j hj => hexB_hv _ j hj)
        have ik := fun wx => idx_at s k hks wx
        have XS : Hid (∀ wx, RX w s k wx → hvN (s[k]'hks) < 16 → RX w s (k + 1) (wx.setCell ⟨w.heap.size + 1, k / 2, none⟩ (.int .u8 ((16 * dN s.data.toList k (k / 2) + hvN (s[k]'hks) : Nat) : Int)))) := Lib.hid (fun wx h g => by
          have := h.step hlt (by rw [HV]; exact g)
          rw [HV] at this
          exact this)
        have OB := Lib.hid (fun (g : hvN (s[k]'hks) < 16) => or_nib2 (dN s.data.toList k (k / 2)) (hvN (s[k]'hks)) (dN_lt X.out.hv) g)
        have NOB : Hid (¬ hvN (s[k]'hks) < 16 → HexIs s.data.toList (List.replicate 32 0) 12) := Lib.hid (fun g => BAD.out k hlt (by rw [HV]; exact g))
        have CD := Lib.hid (fun wx (h : RX w s k wx) => h.d.cell (u8L_get (dL_get s.data.toList k (k / 2) (by omega))))
        have FD := Lib.hid (fun wx (h : RX w s k wx) => h.d.free (j := k / 2) (by rw [u8L_len, dL_len]; omega))
        obtain ⟨q, hq⟩ : ∃ q, k / 2 = q := ⟨_, rfl⟩
        have q1 : (k : Int) / 2 = (q : Int) := by omega
        have q2 : 0 ≤ (q : Int) ∧ (q : Int) < 32 := by omega
        have k64 : 0 ≤ (k : Int) ∧ (k : Int) < 64 := by omega
        have ksz : (k : Int) < (s.size : Int) := by omega
        have XLT := dN_lt X.out.hv
        rw [hq] at XS OB CD FD XLT
        generalize dN s.data.toList k q = x at *
        generalize hvN (s[k]'hks) = v at *
        generalize (s[k]'hks).toNat = ch at *
        clear BAD HV hq
        go_wp2_with fail
        go_loopw [6, 7] (fun a i wi => ∃ j : Nat, j ≤ 16 ∧ i = .int .i64 j ∧ a = .int .i64 (vI v j) ∧ Hid (RX w s k wi)) (fun _ i _ => 16 - (intOf i).toNat)
        case atStart => exact ⟨0, Nat.zero_le _, rfl, rfl, X⟩
        case round =>
          obtain ⟨j, hj, rfl, rfl, Y⟩ := hrel
          clear X
          by_cases hl : j < 16
          · have j1 : (j : Int) < 16 := by omega
            have j2 : 0 ≤ (j : Int) ∧ (j : Int) < 16 := by omega
            have ij := fun wx => hexS_idx j hl wx
            have e := IB.out j hl
            have Bq := Lib.hid (fun n => drewN_below2 (Below.refl wr.heap.size wr) n)
            by_cases hv : v = j
            · have e1 : (((hexB j).toNat : Int) == (ch : Int)) = true := beq_iff_eq.2 (by have := e.2 hv; omega)
              have vn := vI_yes hv
              clear e IB XS OB NOB CD FD hv
              generalize (hexB j).toNat = hb at *
              go_wp2_with fail
              go_quiet (fail)
              go_wp2_with fail
              go_roundw
              case rel => exact ⟨j + 1, by omega, by go_num, by rw [vn], Lib.hid (Y.out.call (Bq.out _))⟩
              case measure => simp [intOf]; omega
            · have e1 : (((hexB j).toNat : Int) == (ch : Int)) = false := beq_eq_false_iff_ne.2 (fun h => hv (e.1 (by omega)))
              have vn := vI_no hv
              clear e IB XS OB NOB CD FD hv
              generalize (hexB j).toNat = hb at *
              generalize vI v j = vv at *
              go_wp2_with fail
              go_quiet (fail)
              go_wp2_with fail
              go_roundw
              case rel => exact ⟨j + 1, by omega, by go_num, by rw [vn], Lib.hid (Y.out.call (Bq.out _))⟩
              case measure => simp [intOf]; omega
          · obtain rfl : j = 16 := by omega
            have j1 : ¬ (16 : Int) < 16 := by omega
            by_cases hv : v < 16
            · have vn : vI v 16 = (v : Int) := if_pos hv
              have v0 : ¬ (v : Int) < 0 := by omega
              have ob := OB.out hv
              have cd := CD.out wr Y.out
              have fd := FD.out wr Y.out
              have Y1 := Lib.hid (XS.out wr Y.out hv)
              rw [vn]
              have vb : (v : Int) < 16 := by omega
              have xl := XLT
              have ev : ((16 * x + v : Nat) : Int) = 16 * (x : Int) + (v : Int) := by omega
              rw [ev] at Y1
              clear OB CD FD XS Y IB NOB ev
              go_wp2_with fail
              go_roundw
              case rel => exact ⟨k + 1, by omega, by go_num, Y1⟩
              case measure => simp [intOf]; omega
            · have vn : vI v 16 = -1 := if_neg hv
              have NO := Lib.hid (NOB.out hv)
              rw [vn]
              have tr := Y.out.res.th
              have BY := Lib.hid Y.out.below
              clear OB CD FD XS Y IB NOB
              go_wp2_with (refine wpList_store_mid rfl _ (.tmp 2) (.tmp 29) rfl w.heap.size 0 _ rfl zer32 tr info32d (u8one _) ?_)
              exact bodyPost_ret (ret_cell_tmp Tryd.results6 _ _ w.heap.size (u8L (List.replicate 32 0)) _ rfl (World.rangeAt_setCells_same _ w.heap.size 0 _ (by rw [u8L_len]; exact tr)) Tryd.underlying23 rfl info32d) rfl ⟨_, 12, rfl, NO.out, rfl, below_setCells w.heap.size (Nat.le_refl _) _ 0 _ BY.out⟩
      · obtain rfl : k = 64 := by omega
        have i1 : ¬ (64 : Int) < 64 := by omega
        have YES : Hid (HexIs s.data.toList (dL s.data.toList 64) 0) := Lib.hid (Or.inl ⟨OKL.out X.out.hv, rfl, rfl⟩)
        have rd := X.out.d.row
        have tr := X.out.res.th
        have BX := Lib.hid X.out.below
        have l32 := dL_len s.data.toList 64
        have L32 := Lib.hid l32
        have os : (u8L (dL s.data.toList 64)).toArray.size = 32 := by rw [List.size_toArray, u8L_len, l32]
        have one := u8one (dL s.data.toList 64)
        clear X BAD OKL HVB l32
        generalize dL s.data.toList 64 = D at *
        go_wp2_with (first | (refine wpList_load_mid rfl _ (.tmp 4) rfl (w.heap.size + 1) 0 rfl (u8L D) _ rd Tryd.underlying23 rfl (by rw [u8L_len, L32.out]; exact info32d) ?_) | (refine wpList_store_mid rfl _ (.tmp 2) (.tmp 41) rfl w.heap.size 0 (u8L D).toArray rfl rfl (by rw [os]; exact tr) (by rw [os]; exact info32d) one ?_))
        exact bodyPost_ret (ret_cell_tmp Tryd.results6 _ _ w.heap.size (u8L (D)) _ rfl (World.rangeAt_setCells_same _ w.heap.size 0 _ (by rw [u8L_len]; exact (by rw [L32.out]; exact tr))) Tryd.underlying23 rfl (by rw [u8L_len, L32.out]; exact info32d)) rfl ⟨_, 0, rfl, YES.out, L32.out, below_setCells w.heap.size (Nat.le_refl _) _ 0 _ BX.out⟩
  · have NO : Hid (HexIs s.data.toList (List.replicate 32 0) 12) := Lib.hid (Or.inr ⟨fun h => h64 (by rw [← zl]; exact h.1), rfl, rfl⟩)
    have g65 : ((s.size : Int) != 64) = true := bne_iff_ne.2 (by omega)
    have tr := F.out.1
    go_wp2_with (refine wpList_store_mid rfl _ (.tmp 2) (.tmp 11) rfl w.heap.size 0 _ rfl zer32 tr info32d (u8one _) ?_)
    exact bodyPost_ret (ret_cell_tmp Tryd.results6 _ _ w.heap.size (u8L (List.replicate 32 0)) _ rfl (World.rangeAt_setCells_same _ w.heap.size 0 _ (by rw [u8L_len]; exact tr)) Tryd.underlying23 rfl info32d) rfl ⟨_, 12, rfl, NO.out, rfl, below_setCells w.heap.size (Nat.le_refl _) _ 0 _ F.out.2⟩
end Arw
end Go.Proofs.YtafeigpmldgifaaDoor
/-
  The walk of message of the reference: a message and what follows it.
-/
namespace Go.Proofs.YtafeigpmldgifaaDoor
namespace Arw
open Go.RowKit Lw Go.Proofs.YtafeigpmldgifaaDoor.Arp

theorem Own1.empty (t : TypeId) (w : World) (B : Nat) (h : B ≤ w.heap.size) : Own1 t (w.alloc (.cells #[] t)) B (.slice (some ⟨w.heap.size, 0, none⟩) 0 0) [] :=
  ⟨⟨rfl, Or.inr ⟨w.heap.size, 0, #[], rfl, h, by show (w.heap.push _)[w.heap.size]? = _; simp, Nat.le_refl _, Nat.zero_le _, rfl, rfl⟩⟩, by simp; omega⟩
/-- The last bytes, in order. -/
def lenB (n k : Nat) : List UInt8 := (List.range k).map fun i => UInt8.ofNat (n * 8 / 256 ^ (7 - i) % 256)
theorem lenB_succ (n k : Nat) : lenB n (k + 1) = lenB n k ++ [UInt8.ofNat (n * 8 / 256 ^ (7 - k) % 256)] := by unfold lenB; rw [List.range_succ, List.map_append]; rfl
theorem lenB_len (n k : Nat) : (lenB n k).length = k := by unfold lenB; rw [List.length_map, List.length_range]
theorem padL_is (b : List UInt8) : padL b = (b ++ [128] ++ List.replicate (zerosN b.length) 0) ++ lenB b.length 8 := by
  unfold padL tailL lenB
  simp
theorem by8_app (l m : List UInt8) : by8L (l ++ m) = by8L l ++ by8L m := by unfold by8L; rw [List.map_append]
theorem zeros_end {n j : Nat} (h : j ≤ zerosN n) : ((n + 1 + j) % 64 = 56 ↔ j = zerosN n) := by
  unfold zerosN at *
  omega
/-- Bytes in a slice, which may be none. -/
def SrcB (w : World) (x : Option Addr) (b : List UInt8) (cap : Nat) : Prop := (x = none ∧ b = [] ∧ cap = 0) ∨ ∃ g o, x = some ⟨g, o, none⟩ ∧ g < w.heap.size ∧ ∀ j v, (by8L b)[j]? = some v → w.cell? ⟨g, o + j, none⟩ = some v
theorem SrcB.below {w w' : World} {x : Option Addr} {b : List UInt8} {cap : Nat} (h : SrcB w x b cap) (hb : Below w.heap.size w w') : SrcB w' x b cap := by
  rcases h with h | ⟨g, o, h1, h2, h3⟩
  · exact Or.inl h
  · exact Or.inr ⟨g, o, h1, Nat.lt_of_lt_of_le h2 hb.size, fun j v hv => cell_call (h3 j v hv) hb⟩
theorem wp_app1_bytes {ops : Array Oper} {rest : List Oper} {o : Oper} {a : Act} {Q : Exit → Act → World → Prop} (w : World) (hgd : o.guard = none) (s x : Operand)
    (ho : o.op = .call { callee := .builtin .append, args := #[s, x], argTypes := #[58, 58] })
    (B : Nat) (v : Value) (l : List Value) (xa : Option Addr) (b : List UInt8) (n cap : Nat) (hn : b.length = n) (hs : a.eval s = v) (hx : a.eval x = .slice xa n cap) (hsrc : SrcB w xa b cap) (hown : Own1 5 w B v l) (hl : l.length ≤ 1000000) (hm2 : n ≤ 1000000)
    (h : ∀ v' w', Own1 5 w' B v' (l ++ by8L b) → Below B w w' → wpList Tryd.prog ops Q rest (a.put o.dst v') w') : wpList Tryd.prog ops Q (o :: rest) a w := by
  rcases hsrc with ⟨rfl, rfl, rfl⟩ | ⟨g, off, rfl, h2, h3⟩
  · obtain ⟨i0, hi, hz0, hz1, hz2⟩ := info_parts info8b
    subst hn
    refine wpList_append_own_none hgd s x 58 ho B 5 i0 1 Tryd.underlying58 hi v l.length l hs hown.1 hx ?_
    refine h v w ?_ (Below.refl _ _)
    show Own1 _ w B v (l ++ [])
    rw [List.append_nil]
    exact hown
  · exact wp_app1_src (bytes := 1) Tryd.underlying58 info8b rfl (by decide) w hgd s x ho B v l ⟨g, off, none⟩ n cap (by8L b) hs hx (by rw [by8_len]; exact hn) (fun j u hu => by rw [Addr.add_mid]; exact h3 j u hu) (by8_one b) hown hl hm2 h
set_option maxRecDepth 100000 in
set_option maxHeartbeats 8000000 in
theorem rmessage_any (b : List UInt8) (x : Option Addr) (cap : Nat) (w : World) (hb : b.length ≤ 1000) (hsrc : SrcB w x b cap) :
    Calls Tryd.prog 43 #[.slice x b.length cap] w fun e w' => ∃ p c, e = .returned (.slice (some ⟨p, 0, none⟩) (padL b).length c) ∧ (padL b).length ≤ c ∧ w.heap.size ≤ p ∧ p < w'.heap.size ∧ (∀ j v, (by8L (padL b))[j]? = some v → w'.cell? ⟨p, j, none⟩ = some v) ∧ Below w.heap.size w w' := by
  have O0 := Own1.empty 5 w w.heap.size (Nat.le_refl _)
  have B0 := (Below.refl w.heap.size w).alloc (Nat.le_refl _) (.cells #[] 5)
  have S1 := hsrc.below ((Below.refl w.heap.size w).alloc (Nat.le_refl _) (.cells #[] 5))
  have PI := Lib.hid (padL_is b)
  obtain ⟨n, hn⟩ : ∃ n, b.length = n := ⟨_, rfl⟩
  rw [hn] at PI hb ⊢
  have HN := Lib.hid hn
  have ZE := Lib.hid (fun j (h : j ≤ zerosN n) => zeros_end h)
  have zb : zerosN n < 64 := by unfold zerosN; omega
  obtain ⟨z, hz⟩ : ∃ z, zerosN n = z := ⟨_, rfl⟩
  rw [hz] at PI ZE zb
  have F := Lib.hid (And.intro O0 (And.intro B0 S1))
  have HB8 := Lib.hid (by8_len b)
  rw [hn] at HB8
  clear hsrc hn O0 B0 S1 hz
  go_enter Tryd.func43, Tryd.ntmps43
  go_wp2_with (first | (at_builtin; refine wp_app1_bytes _ rfl (.tmp 6) (.tmp 7) rfl w.heap.size _ [] x b n cap HN.out rfl rfl F.out.2.2 F.out.1 (by simp) (by omega) ?_; intro v1 w1 hO1 hb1) | (at_builtin; refine wp_app1 (bytes := 1) Tryd.underlying58 info8b rfl (by decide) w1 rfl (.tmp 9) (.tmp 10) rfl w.heap.size _ _ #[.int .u8 128] 1 1 rfl rfl rfl (by simp [Value.oneCell']) hO1 (by rw [List.nil_append, HB8.out]; omega) (by decide) ?_; intro v2 w2 hO2 hb2))
  have O2 : Hid (Own1 5 w2 w.heap.size v2 (by8L (b ++ [128] ++ List.replicate 0 0))) := Lib.hid (by rw [List.replicate_zero, List.append_nil, by8_app]; exact hO2)
  have B2 := Lib.hid ((F.out.2.1.trans hb1).trans hb2)
  clear hO1 hb1 hO2 hb2 F HB8
  go_loopw [3] (fun v wr => ∃ j : Nat, j ≤ z ∧ Hid (Own1 5 wr w.heap.size v (by8L (b ++ [128] ++ List.replicate j 0))) ∧ Hid (Below w.heap.size w wr)) (fun v _ => 1000000 - lenOf' v)
  case atStart => exact ⟨0, Nat.zero_le _, O2, B2⟩
  case round =>
    obtain ⟨j, hj, O, B⟩ := hrel
    clear O2 B2
    have zl : (by8L (b ++ [128] ++ List.replicate j 0)).length = n + 1 + j := by rw [by8_len, List.length_append, List.length_append, List.length_replicate, HN.out]; rfl
    have ZEj := ZE.out j hj
    obtain ⟨q, hq⟩ : ∃ q, n + 1 + j = q := ⟨_, rfl⟩
    rw [hq] at zl ZEj
    have qb : q ≤ 1070 := by omega
    have EN : Hid (j = z → b ++ [128] ++ List.replicate j 0 = b ++ [128] ++ List.replicate z 0) := Lib.hid (fun h => by rw [h])
    have EJ : Hid (by8L (b ++ [128] ++ List.replicate j 0) ++ [.int .u8 0] = by8L (b ++ [128] ++ List.replicate (j + 1) 0)) := Lib.hid (by
      rw [List.replicate_succ', ← List.append_assoc, by8_app (b ++ [128] ++ List.replicate j 0) [0]]; rfl)
    obtain ⟨p, c, rfl, hc, hp, lp, hcell⟩ := O.out.formN zl (by omega)
    have ZL := Lib.hid zl
    by_cases he : q % 64 = 56
    · have i1 : (((q : Int) % 64) != 56) = false := by
        have : (q : Int) % 64 = 56 := by omega
        rw [this]; rfl
      have jz := ZEj.1 he
      have O3 : Hid (Own1 5 wr w.heap.size (.slice (some ⟨p, 0, none⟩) q c) (by8L (b ++ [128] ++ List.replicate z 0 ++ lenB n 0))) := Lib.hid (by rw [← jz]; show Own1 _ _ _ _ (by8L (b ++ [128] ++ List.replicate j 0 ++ [])); rw [List.append_nil]; exact O.out)
      have QZ : Hid ((b ++ [128] ++ List.replicate z 0).length = q) := Lib.hid (by rw [← jz, ← by8_len]; exact zl)
      clear ZE O zl hcell ZEj EN EJ ZL hc hp lp jz hj
      generalize b ++ [128] ++ List.replicate z 0 = M at *
      go_wp2_with fail
      go_loopw [3, 5] (fun v i wi => ∃ k : Nat, k ≤ 8 ∧ i = .int .i64 (7 - (k : Int)) ∧ Hid (Own1 5 wi w.heap.size v (by8L (M ++ lenB n k))) ∧ Hid (Below w.heap.size w wi)) (fun _ i _ => (intOf i + 1).toNat)
      case atStart => exact ⟨0, Nat.zero_le _, rfl, O3, B⟩
      case round =>
        obtain ⟨k, hk, rfl, O, B⟩ := hrel
        clear O3
        have zl : (by8L (M ++ lenB n k)).length = q + k := by rw [by8_len, List.length_append, lenB_len, QZ.out]
        obtain ⟨p, c, rfl, hc, hp, lp, hcell⟩ := O.out.formN zl (by omega)
        by_cases hlt : k < 8
        · have j1 : (0 : Int) ≤ 7 - (k : Int) := by omega
          have EJ : Hid (by8L (M ++ lenB n k) ++ [.int .u8 ((UInt8.ofNat (n * 8 / 256 ^ (7 - k) % 256)).toNat : Int)] = by8L (M ++ lenB n (k + 1))) := Lib.hid (by rw [lenB_succ, ← List.append_assoc, by8_app (M ++ lenB n k) [_]]; rfl)
          obtain ⟨s, hs⟩ : ∃ s, 8 * (7 - k) = s := ⟨_, rfl⟩
          have s1 : 8 * (7 - (k : Int)) = (s : Int) := by omega
          have s2 : IntKind.i64.wrap (8 * (7 - (k : Int))) = (s : Int) := by rw [wrap_small _ (by omega) (by omega)]; omega
          have ev : (n : Int) * 8 / 2 ^ s % 256 = ((UInt8.ofNat (n * 8 / 256 ^ (7 - k) % 256)).toNat : Int) := by
            rw [UInt8.toNat_ofNat']
            have e : (2 : Int) ^ s = ((256 ^ (7 - k) : Nat) : Int) := by
              rw [← hs, Int.pow_mul, show (2 : Int) ^ 8 = ((256 : Nat) : Int) from rfl, Int.natCast_pow]
            rw [e, show (n : Int) * 8 = ((n * 8 : Nat) : Int) by omega, ← Int.natCast_ediv]
            generalize n * 8 / 256 ^ (7 - k) = q
            omega
          generalize ((UInt8.ofNat (n * 8 / 256 ^ (7 - k) % 256)).toNat : Int) = u at *
          generalize by8L (M ++ lenB n k) = L at *
          have ZL := Lib.hid zl
          clear hcell hs zl hc hp lp
          have sz : L.length ≤ 1000000 := by rw [ZL.out]; omega
          go_wp2_with (at_builtin; refine wp_app1 (bytes := 1) Tryd.underlying58 info8b rfl (by decide) wr rfl (.tmp 27) (.tmp 33) rfl w.heap.size _ L #[.int .u8 u] 1 1 rfl rfl rfl (by simp [Value.oneCell']) O.out sz (by decide) ?_; intro v3 w3 hO3 hb3)
          have O4 : Hid (Own1 5 w3 w.heap.size v3 (by8L (M ++ lenB n (k + 1)))) := Lib.hid (by rw [← EJ.out]; exact hO3)
          have B4 := Lib.hid (B.out.trans hb3)
          clear hO3 hb3 O B EJ
          go_roundw
          case rel => exact ⟨k + 1, by omega, by go_num, O4, B4⟩
          case measure => simp [intOf]; omega
        · obtain rfl : k = 8 := by omega
          have PE := PI.out
          have PL : (padL b).length = q + 8 := by rw [PE, List.length_append, lenB_len, QZ.out]
          rw [← PE] at hcell
          have C := Lib.hid (And.intro hcell (And.intro hc (And.intro hp lp)))
          have HPL := Lib.hid PL
          clear hcell hc hp lp zl O PE PL
          go_wp2_with fail
          go_ret
          exact ⟨p, c, by rw [HPL.out]; rfl, by rw [HPL.out]; exact C.out.2.1, C.out.2.2.1, C.out.2.2.2, C.out.1, B.out⟩
    · have i1 : (((q : Int) % 64) != 56) = true := bne_iff_ne.2 (by omega)
      have jz : j < z := by
        rcases Nat.lt_or_ge j z with h | h
        · exact h
        · exact absurd (ZEj.2 (by omega)) he
      generalize by8L (b ++ [128] ++ List.replicate j 0) = L at *
      clear hcell ZEj EN zl hc hp lp hq he
      go_wp2_with (at_builtin; refine wp_app1 (bytes := 1) Tryd.underlying58 info8b rfl (by decide) wr rfl (.tmp 16) (.tmp 17) rfl w.heap.size _ L #[.int .u8 0] 1 1 rfl rfl rfl (by simp [Value.oneCell']) O.out (by rw [ZL.out]; omega) (by decide) ?_; intro v2 w2 hO2 hb2)
      have O4 : Hid (Own1 5 w2 w.heap.size v2 (by8L (b ++ [128] ++ List.replicate (j + 1) 0))) := Lib.hid (by rw [← EJ.out]; exact hO2)
      have B4 := Lib.hid (B.out.trans hb2)
      have zq : (L ++ [Value.int .u8 0]).length = q + 1 := by rw [List.length_append, ZL.out]; rfl
      obtain ⟨p2, c2, rfl, _⟩ := hO2.formN zq (by omega)
      clear hO2 hb2 O B EJ zq
      go_roundw
      case rel => exact ⟨j + 1, by omega, O4, B4⟩
      case measure => simp [lenOf']; omega
end Arw
end Go.Proofs.YtafeigpmldgifaaDoor
/-
  Digests of the reference: the numbers of the rounds.
-/
namespace Go.Proofs.YtafeigpmldgifaaDoor
namespace Arw
open Go.RowKit Lw Go.Proofs.YtafeigpmldgifaaDoor.Arp

set_option maxRecDepth 100000 in
set_option maxHeartbeats 4000000 in
theorem rkeys_any (w : World) : Calls Tryd.prog 58 #[] w fun e w' => e = .returned (.agg (w32L keyL).toArray) ∧ Below w.heap.size w w' := by
  go_enter Tryd.func58, Tryd.ntmps58
  go_wp2_with (refine wpList_store_new rfl _ (.tmp 0) (.tmp 1) rfl _ _ rfl rfl info64 rfl ?_ ?_; simp [Value.oneCell'])
  exact bodyPost_ret (ret_cell Tryd.results58 _ _ w.heap.size (w32L keyL) _ rfl (rangeAt_new w (w32L keyL) 102) Tryd.underlying102 rfl info64) rfl ⟨rfl, (Below.refl _ _).alloc (Nat.le_refl _) _⟩
end Arw
end Go.Proofs.YtafeigpmldgifaaDoor
