/-
  Lemmas and walks, texts joined: MRdPl, OCand, VNmPl, OAllW, OApp, OCmpPl, VMrPl, VMap, VTwo, OExact, VAlv, VNm1, ONm1, ONmPl, ONmPl2, OCmpW, OCmpW2, OBackPl, Shelf4, OSrt, OSort, ORSort, ONm3.
-/
import Derived.Deep.RegionHeld3
import Derived.Deep.MidRow
import Derived.OwnWalk
import Derived.LoopTactic
import Derived.Sort.Grow
import Derived.Shelf.SlLaysF0
import Derived.Shelf.SlSortCmp.WholeK
import Derived.Shelf.SlSortCmp.NoneTotal
import Derived.Laws.MakeOwn
import Derived.Test.YtaghilgfldaaiaaGreatDoorProg
import Derived.Test.YtaghilgfldaaiaaGreatDoorVb01
import Derived.Test.YtaghilgfldaaiaaGreatDoorVb02
import Derived.Test.YtaghilgfldaaiaaGreatDoorVb03
import Derived.Test.YtaghilgfldaaiaaGreatDoorVb04
import Derived.Test.YtaghilgfldaaiaaGreatDoorVb05
import Derived.Test.YtaghilgfldaaiaaGreatDoorVb06
import Derived.Test.YtaghilgfldaaiaaGreatDoorVb07
import Derived.Test.YtaghilgfldaaiaaGreatDoorVb08
import Derived.Test.YtaghilgfldaaiaaGreatDoorVb09
set_option linter.unusedSimpArgs false
set_option linter.unusedVariables false
/-
  Plain laws of MomentRounds: texts and times correspond; no walk here.
-/
namespace Go.Proofs.YtaghilgfldaaiaaGreatDoor
namespace At
open Go.RowKit Lw Ap Go.Proofs.YtaghilgfldaaiaaGreatDoor.Mp Go.Proofs.YtaghilgfldaaiaaGreatDoor.Mw

/-! ### Strings as lists -/
abbrev l10 (a b c d e f g h : UInt8) (r : List UInt8) : List UInt8 := a :: b :: c :: d :: 32 :: e :: f :: 32 :: g :: h :: r
/-! ### The parts of such a string -/
end At
end Go.Proofs.YtaghilgfldaaiaaGreatDoor
/-
  Plain law of observations: a line's candidate, all of it but the check; no walk here.
-/
namespace Go.Proofs.YtaghilgfldaaiaaGreatDoor
namespace Op
open Go.RowKit Lw Go.Proofs.YtaghilgfldaaiaaGreatDoor.Ap Go.Proofs.YtaghilgfldaaiaaGreatDoor.Mp Go.Proofs.YtaghilgfldaaiaaGreatDoor.At Go.Proofs.YtaghilgfldaaiaaGreatDoor.Ow Go.Proofs.YtaghilgfldaaiaaGreatDoor.Mw

/-- The digits behind the points. -/
def digP (a b c : Nat) : Prop := 3 ≤ a ∧ a ≤ 6 ∧ 1 ≤ b ∧ b ≤ 3 ∧ c ≤ 2
end Op
end Go.Proofs.YtaghilgfldaaiaaGreatDoor
/-
  The constant tables of the law PsvNames; no walk here.
-/
namespace Go.Proofs.YtaghilgfldaaiaaGreatDoor
namespace Vp
open Go.RowKit Lw Go.Proofs.YtaghilgfldaaiaaGreatDoor.Ap Go.Proofs.YtaghilgfldaaiaaGreatDoor.Op Go.Proofs.YtaghilgfldaaiaaGreatDoor.Mp Go.Proofs.YtaghilgfldaaiaaGreatDoor.Mw Go.Proofs.YtaghilgfldaaiaaGreatDoor.At Go.Proofs.YtaghilgfldaaiaaGreatDoor.Ow

def oV : Ob := ⟨⟨#[120]⟩, ⟨#[70, 53, 49]⟩, 848070069184000, 54000000000, -3600000000, 1000000, 1850, 86⟩
def oP : Ob := ⟨⟨#[120]⟩, ⟨#[70, 53, 49]⟩, 848070069184000, 54000000000, -3600000000, 1000000, 1850, 32⟩
def oM : Ob := ⟨⟨#[120]⟩, ⟨#[70, 53, 49]⟩, 848070069184000, 54000000000, -3600000000, 1000000, -5, 32⟩
def oT : Ob := ⟨⟨#[120]⟩, ⟨#[70, 53, 49]⟩, 848070069184000, 54000000000, -3600000000, 1000000, 1800, 32⟩
def oR : Ob := ⟨⟨#[120]⟩, ⟨#[70, 53, 49]⟩, 848070069184000, 0, -3600000000, 1000000, 1850, 32⟩
def wHead : List UInt8 := [110, 97, 109, 101, 124, 115, 116, 110, 124, 111, 98, 115, 84, 105, 109, 101, 124, 114, 97, 124, 100, 101, 99, 124, 115, 105, 103, 109, 97, 124, 109, 97, 103, 124, 98, 97, 110, 100, 10, 120, 124, 70, 53, 49, 124, 50, 48, 50, 54, 45, 49, 49, 45, 49, 54, 84, 48, 51, 58, 48, 48, 58, 48, 48, 90, 124, 49, 53, 46, 48, 124, 45, 49, 46, 48, 124, 124]
def withS (m b : ByteArray) : ByteArray := stL (wHead ++ (m.data.toList ++ (124 :: (b.data.toList ++ [10]))))
/-- A table that cannot be read, by computing. -/
theorem wrong_k {s : ByteArray} (h : s.data.toList.getLast? ≠ some 10 ∨ tabR (pieces 10 s.data.toList.dropLast) = none) : ParseTIs s [] [] 12 := by
  refine Or.inr (Or.inr ⟨fun body hb => ?_, rfl, rfl, rfl⟩)
  rw [hb] at h
  rcases h with h | h
  · exact absurd (List.getLast?_concat ..) h
  · rw [List.dropLast_concat] at h
    exact h
def sY0 : ByteArray := (withS ⟨#[49, 56, 46, 53, 48]⟩ ⟨#[86]⟩)
theorem k_sY0 : ParseTIs sY0 [] [oV] 0 := tab_k (by decide +kernel) (by decide +kernel) (by decide) (by decide)
theorem small_sY0 : SmallC sY0 := small_k (by decide +kernel)
theorem size_sY0 : sY0.size ≤ 1000000 := by decide +kernel
def sY1 : ByteArray := (withS ⟨#[49, 56, 46, 53]⟩ ⟨#[32, 86, 32]⟩)
theorem k_sY1 : ParseTIs sY1 [] [oV] 0 := tab_k (by decide +kernel) (by decide +kernel) (by decide) (by decide)
theorem small_sY1 : SmallC sY1 := small_k (by decide +kernel)
theorem size_sY1 : sY1.size ≤ 1000000 := by decide +kernel
def sY2 : ByteArray := (withS ⟨#[49, 56]⟩ ⟨#[]⟩)
theorem k_sY2 : ParseTIs sY2 [] [oT] 0 := tab_k (by decide +kernel) (by decide +kernel) (by decide) (by decide)
theorem small_sY2 : SmallC sY2 := small_k (by decide +kernel)
theorem size_sY2 : sY2.size ≤ 1000000 := by decide +kernel
def sY3 : ByteArray := (withS ⟨#[45, 48, 46, 48, 53]⟩ ⟨#[]⟩)
theorem k_sY3 : ParseTIs sY3 [] [oM] 0 := tab_k (by decide +kernel) (by decide +kernel) (by decide) (by decide)
theorem small_sY3 : SmallC sY3 := small_k (by decide +kernel)
theorem size_sY3 : sY3.size ≤ 1000000 := by decide +kernel
def sY4 : ByteArray := ⟨([110, 97, 109, 101, 124, 115, 116, 110, 124, 111, 98, 115, 84, 105, 109, 101, 124, 114, 97, 124, 100, 101, 99, 124, 115, 105, 103, 109, 97, 124, 109, 97, 103, 124, 98, 97, 110, 100, 10, 120, 124, 70].append [53, 49, 124, 50, 48, 50, 54, 45, 49, 49, 45, 49, 54, 84, 48, 51, 58, 48, 48, 58, 48, 48, 90, 124, 51, 54, 48, 46, 48, 124, 45, 49, 46, 48, 124, 124, 49, 56, 46, 53, 124, 10]).toArray⟩
theorem k_sY4 : ParseTIs sY4 [] [oR] 0 := tab_k (by decide +kernel) (by decide +kernel) (by decide) (by decide)
theorem small_sY4 : SmallC sY4 := small_k (by decide +kernel)
theorem size_sY4 : sY4.size ≤ 1000000 := by decide +kernel
def sN0 : ByteArray := ⟨#[]⟩
theorem k_sN0 : ParseTIs sN0 [] [] 12 := wrong_k (by decide +kernel)
theorem small_sN0 : SmallC sN0 := small_k (by decide +kernel)
theorem size_sN0 : sN0.size ≤ 1000000 := by decide +kernel
def sN1 : ByteArray := ⟨#[110, 97, 109, 101, 124, 115, 116, 110, 124, 111, 98, 115, 84, 105, 109, 101, 124, 114, 97, 124, 100, 101, 99, 124, 115, 105, 103, 109, 97, 124, 109, 97, 103, 124, 98, 97, 110, 100]⟩
theorem k_sN1 : ParseTIs sN1 [] [] 12 := wrong_k (by decide +kernel)
theorem small_sN1 : SmallC sN1 := small_k (by decide +kernel)
theorem size_sN1 : sN1.size ≤ 1000000 := by decide +kernel
def sN2 : ByteArray := ⟨#[35, 32, 97, 10]⟩
theorem k_sN2 : ParseTIs sN2 [] [] 12 := wrong_k (by decide +kernel)
theorem small_sN2 : SmallC sN2 := small_k (by decide +kernel)
theorem size_sN2 : sN2.size ≤ 1000000 := by decide +kernel
def sN3 : ByteArray := ⟨#[110, 97, 109, 101, 124, 115, 116, 110, 124, 111, 98, 115, 84, 105, 109, 101, 124, 114, 97, 10]⟩
theorem k_sN3 : ParseTIs sN3 [] [] 12 := wrong_k (by decide +kernel)
theorem small_sN3 : SmallC sN3 := small_k (by decide +kernel)
theorem size_sN3 : sN3.size ≤ 1000000 := by decide +kernel
def sN4 : ByteArray := ⟨#[110, 97, 109, 101, 124, 115, 116, 110, 124, 111, 98, 115, 84, 105, 109, 101, 124, 114, 97, 124, 100, 101, 99, 124, 114, 97, 10]⟩
theorem k_sN4 : ParseTIs sN4 [] [] 12 := wrong_k (by decide +kernel)
theorem small_sN4 : SmallC sN4 := small_k (by decide +kernel)
theorem size_sN4 : sN4.size ≤ 1000000 := by decide +kernel
def sN5 : ByteArray := ⟨#[110, 97, 109, 101, 124, 115, 116, 110, 124, 111, 98, 115, 84, 105, 109, 101, 124, 114, 97, 124, 100, 101, 99, 124, 120, 10]⟩
theorem k_sN5 : ParseTIs sN5 [] [] 12 := wrong_k (by decide +kernel)
theorem small_sN5 : SmallC sN5 := small_k (by decide +kernel)
theorem size_sN5 : sN5.size ≤ 1000000 := by decide +kernel
def sN6 : ByteArray := ⟨#[110, 97, 109, 101, 124, 115, 116, 110, 124, 111, 98, 115, 84, 105, 109, 101, 124, 114, 97, 124, 100, 101, 99, 124, 115, 105, 103, 109, 97, 124, 109, 97, 103, 124, 98, 97, 110, 100, 10, 35, 32, 97, 10]⟩
theorem k_sN6 : ParseTIs sN6 [] [] 12 := wrong_k (by decide +kernel)
theorem small_sN6 : SmallC sN6 := small_k (by decide +kernel)
theorem size_sN6 : sN6.size ≤ 1000000 := by decide +kernel
def sN7 : ByteArray := ⟨#[110, 97, 109, 101, 124, 115, 116, 110, 124, 111, 98, 115, 84, 105, 109, 101, 124, 114, 97, 124, 100, 101, 99, 124, 115, 105, 103, 109, 97, 124, 109, 97, 103, 124, 98, 97, 110, 100, 10, 10]⟩
theorem k_sN7 : ParseTIs sN7 [] [] 12 := wrong_k (by decide +kernel)
theorem small_sN7 : SmallC sN7 := small_k (by decide +kernel)
theorem size_sN7 : sN7.size ≤ 1000000 := by decide +kernel
def sN8 : ByteArray := (withS ⟨#[45, 48]⟩ ⟨#[]⟩)
theorem k_sN8 : ParseTIs sN8 [] [] 12 := wrong_k (by decide +kernel)
theorem small_sN8 : SmallC sN8 := small_k (by decide +kernel)
theorem size_sN8 : sN8.size ≤ 1000000 := by decide +kernel
def sN9 : ByteArray := (withS ⟨#[]⟩ ⟨#[86]⟩)
theorem k_sN9 : ParseTIs sN9 [] [] 12 := wrong_k (by decide +kernel)
theorem small_sN9 : SmallC sN9 := small_k (by decide +kernel)
theorem size_sN9 : sN9.size ≤ 1000000 := by decide +kernel
def sN10 : ByteArray := (withS ⟨#[49, 56, 46, 53, 48, 48]⟩ ⟨#[86]⟩)
theorem k_sN10 : ParseTIs sN10 [] [] 12 := wrong_k (by decide +kernel)
theorem small_sN10 : SmallC sN10 := small_k (by decide +kernel)
theorem size_sN10 : sN10.size ≤ 1000000 := by decide +kernel
def sN11 : ByteArray := (withS ⟨#[49, 49, 56]⟩ ⟨#[86]⟩)
theorem k_sN11 : ParseTIs sN11 [] [] 12 := wrong_k (by decide +kernel)
theorem small_sN11 : SmallC sN11 := small_k (by decide +kernel)
theorem size_sN11 : sN11.size ≤ 1000000 := by decide +kernel
def sN12 : ByteArray := (withS ⟨#[49, 56, 46]⟩ ⟨#[86]⟩)
theorem k_sN12 : ParseTIs sN12 [] [] 12 := wrong_k (by decide +kernel)
theorem small_sN12 : SmallC sN12 := small_k (by decide +kernel)
theorem size_sN12 : sN12.size ≤ 1000000 := by decide +kernel
def sN13 : ByteArray := (withS ⟨#[57, 57, 46, 57, 57]⟩ ⟨#[]⟩)
theorem k_sN13 : ParseTIs sN13 [] [] 12 := wrong_k (by decide +kernel)
theorem small_sN13 : SmallC sN13 := small_k (by decide +kernel)
theorem size_sN13 : sN13.size ≤ 1000000 := by decide +kernel
def sN14 : ByteArray := (withS ⟨#[51, 48, 46, 48, 49]⟩ ⟨#[86]⟩)
theorem k_sN14 : ParseTIs sN14 [] [] 12 := wrong_k (by decide +kernel)
theorem small_sN14 : SmallC sN14 := small_k (by decide +kernel)
theorem size_sN14 : sN14.size ≤ 1000000 := by decide +kernel
def sN15 : ByteArray := (withS ⟨#[49, 56]⟩ ⟨#[86, 86]⟩)
theorem k_sN15 : ParseTIs sN15 [] [] 12 := wrong_k (by decide +kernel)
theorem small_sN15 : SmallC sN15 := small_k (by decide +kernel)
theorem size_sN15 : sN15.size ≤ 1000000 := by decide +kernel
def sN16 : ByteArray := (withS ⟨#[49, 56]⟩ ⟨#[86, 124]⟩)
theorem k_sN16 : ParseTIs sN16 [] [] 12 := wrong_k (by decide +kernel)
theorem small_sN16 : SmallC sN16 := small_k (by decide +kernel)
theorem size_sN16 : sN16.size ≤ 1000000 := by decide +kernel
def sN17 : ByteArray := ⟨([110, 97, 109, 101, 124, 115, 116, 110, 124, 111, 98, 115, 84, 105, 109, 101, 124, 114, 97, 124, 100, 101, 99, 124, 115, 105, 103, 109, 97, 124, 109, 97, 103, 124, 98, 97, 110, 100, 10, 120, 124].append [70, 53, 49, 124, 50, 48, 50, 54, 45, 49, 49, 45, 49, 54, 84, 48, 51, 58, 48, 48, 58, 48, 48, 90, 124, 45, 49, 46, 48, 124, 45, 49, 46, 48, 124, 124, 49, 56, 46, 53, 124, 10]).toArray⟩
theorem k_sN17 : ParseTIs sN17 [] [] 12 := wrong_k (by decide +kernel)
theorem small_sN17 : SmallC sN17 := small_k (by decide +kernel)
theorem size_sN17 : sN17.size ≤ 1000000 := by decide +kernel
def sN18 : ByteArray := ⟨([110, 97, 109, 101, 124, 115, 116, 110, 124, 111, 98, 115, 84, 105, 109, 101, 124, 114, 97, 124, 100, 101, 99, 124, 115, 105, 103, 109, 97, 124, 109, 97, 103, 124, 98, 97, 110, 100, 10, 120, 124, 70].append [53, 49, 124, 50, 48, 50, 54, 45, 49, 49, 45, 49, 54, 84, 48, 51, 58, 48, 48, 58, 48, 48, 90, 124, 49, 46, 48, 124, 45, 49, 46, 48, 124, 48, 49, 124, 49, 56, 46, 53, 124, 10]).toArray⟩
theorem k_sN18 : ParseTIs sN18 [] [] 12 := wrong_k (by decide +kernel)
theorem small_sN18 : SmallC sN18 := small_k (by decide +kernel)
theorem size_sN18 : sN18.size ≤ 1000000 := by decide +kernel
def sN19 : ByteArray := ⟨#[35, 32, 127, 10, 110, 97, 109, 101, 124, 115, 116, 110, 124, 111, 98, 115, 84, 105, 109, 101, 124, 114, 97, 124, 100, 101, 99, 124, 115, 105, 103, 109, 97, 124, 109, 97, 103, 124, 98, 97, 110, 100, 10]⟩
theorem k_sN19 : ParseTIs sN19 [] [] 12 := wrong_k (by decide +kernel)
theorem small_sN19 : SmallC sN19 := small_k (by decide +kernel)
theorem size_sN19 : sN19.size ≤ 1000000 := by decide +kernel
end Vp
end Go.Proofs.YtaghilgfldaaiaaGreatDoor
/-
  Slices of observations; the walks of checkAll of obs, and of All, Same of the reference.
-/
namespace Go.Proofs.YtaghilgfldaaiaaGreatDoor
namespace Ow
open Go.RowKit Lw Go.Proofs.YtaghilgfldaaiaaGreatDoor.Ap Go.Proofs.YtaghilgfldaaiaaGreatDoor.Op Go.Proofs.YtaghilgfldaaiaaGreatDoor.Mp Go.Proofs.YtaghilgfldaaiaaGreatDoor.Mw Go.Proofs.YtaghilgfldaaiaaGreatDoor.At

set_option maxRecDepth 100000 in
set_option maxHeartbeats 8000000 in
theorem checkall_any (x : Option Addr) (cap : Nat) (l : List Ob) (w : World) (hE : ES w) (hl : SlA w x l) (hm : l.length ≤ 1000000) (hb : OBs l) :
    Calls Tryz.prog 65 #[.slice x l.length cap] w fun e w' => e = .returned (.int .i64 (allC l)) ∧ Below w.heap.size w w' := by
  have HL := Lib.hid (fun w' (h : Below w.heap.size w w') => hl.below h)
  have HE := Lib.hid (fun w' (h : Below w.heap.size w w') => hE.below h)
  have CK := Lib.hid (fun i (h : i < l.length) w' (g : ES w') => check_any (l[i]'h) w' g (hb i h).t0 (hb i h).t1 (hb i h).b0 (hb i h).b1 (hb i h).n1 (hb i h).n2)
  obtain ⟨n, hnl⟩ : ∃ n, l.length = n := ⟨_, rfl⟩
  have GM : Hid (500 < n → allC l = 4) := Lib.hid (fun h => allC_many (by omega))
  have GB : Hid (n ≤ 500 → ∀ i (h : i < l.length), ¬ okO (l[i]'h) → allC l = 8) := Lib.hid (fun a i h g => allC_bad (by omega) h g)
  have GZ : Hid (n ≤ 500 → (∀ i (h : i < l.length), okO (l[i]'h)) → allC l = 0) := Lib.hid (fun a g => allC_zero (by omega) (fun o ho => by
    obtain ⟨i, hi, rfl⟩ := List.getElem_of_mem ho
    exact g i hi))
  generalize allC l = K at *
  rw [hnl] at hm ⊢
  have NL := Lib.hid hnl
  clear hl hE hb hnl
  by_cases h5 : 500 < n
  · have h5' : (500 : Int) < (n : Int) := by omega
    obtain rfl := GM.out h5
    clear CK GM GB GZ HL HE NL
    go_enter Tryz.func65, Tryz.ntmps65
    go_wp2_with fail
    go_ret
    exact ⟨rfl, Below.refl _ _⟩
  · have h5' : ¬ (500 : Int) < (n : Int) := by omega
    clear GM
    go_enter Tryz.func65, Tryz.ntmps65
    go_wp2_with fail
    go_loopw [11] (fun i wr => ∃ k : Nat, k ≤ n ∧ i = .int .i64 k ∧ Hid (∀ j (h : j < l.length), j < k → okO (l[j]'h)) ∧ Hid (Below w.heap.size w wr)) (fun i _ => n - (intOf i).toNat)
    case atStart => exact ⟨0, Nat.zero_le _, rfl, Lib.hid (fun j _ h => by omega), Lib.hid (Below.refl _ _)⟩
    case round =>
      obtain ⟨k, hk, rfl, D, B⟩ := hrel
      by_cases hlt : k < n
      · have hkl : k < l.length := by rw [NL.out]; exact hlt
        obtain ⟨b, off, rfl, lt, row⟩ := (HL.out _ B.out).get hkl
        have R := Lib.hid (row k hkl)
        have CKk := Lib.hid (CK.out k hkl)
        have GBk := Lib.hid (fun (g : ¬ okO (l[k]'hkl)) => GB.out (by omega) k hkl g)
        have DK := Lib.hid (fun (g : okO (l[k]'hkl)) => (show ∀ j (h : j < l.length), j < k + 1 → okO (l[j]'h) from fun j h hj => by
          by_cases e : j = k
          · subst e; exact g
          · exact D.out j h (by omega)))
        have i1 : (k : Int) < (n : Int) := by omega
        clear D GB GZ row lt CK
        generalize l[k]'hkl = o at *
        have X0 := Lib.hid (Box.new wr o)
        have B1 := Lib.hid (B.out.alloc B.out.size (.cells (obsC o).toArray 33))
        have E1 := Lib.hid (HE.out _ B1.out)
        clear B
        go_wp2_with (first | (refine wpList_store_new rfl _ (.tmp 4) (.tmp 14) rfl _ _ rfl rfl info8 rfl ?_ ?_; simp [Value.oneCell']) | (refine wpList_load_mid rfl _ (.tmp 13) rfl b (off + k * 8) rfl (obsC o) _ R.out Tryz.underlying33 rfl info8 ?_) | (refine wpList_load_mid rfl _ (.tmp 4) rfl wr.heap.size 0 rfl (obsC o) _ X0.out.row Tryz.underlying33 rfl info8 ?_))
        refine (CKk.out _ E1.out).mono ?_
        rintro e w2 ⟨rfl, hb2⟩
        have B2 := Lib.hid (below_then B1.out hb2)
        clear hb2 B1 E1 CKk X0 R
        by_cases ok : okO o
        · rw [show checkC o = 0 from if_pos ok]
          have D2 := Lib.hid (DK.out ok)
          clear DK GBk
          go_wp2_with fail
          go_roundw
          case rel => exact ⟨k + 1, by omega, by go_num, D2, B2⟩
          case measure => simp [intOf]; omega
        · rw [show checkC o = 8 from if_neg ok]
          obtain rfl := GBk.out ok
          clear DK
          go_wp2_with fail
          go_ret
          exact ⟨rfl, B2.out⟩
      · obtain rfl : k = n := by omega
        obtain rfl := GZ.out (by omega) (fun i hi => D.out i hi (by have := NL.out; omega))
        clear GZ D GB HL CK
        go_wp2_with fail
        go_ret
        exact ⟨rfl, B.out⟩
end Ow
end Go.Proofs.YtaghilgfldaaiaaGreatDoor
/-
  append of an observation to a slice that the call owns.
-/
namespace Go.Proofs.YtaghilgfldaaiaaGreatDoor
namespace Ow
open Go.RowKit Lw Go.Proofs.YtaghilgfldaaiaaGreatDoor.Ap Go.Proofs.YtaghilgfldaaiaaGreatDoor.Op Go.Proofs.YtaghilgfldaaiaaGreatDoor.Mp Go.Proofs.YtaghilgfldaaiaaGreatDoor.Mw Go.Proofs.YtaghilgfldaaiaaGreatDoor.At

theorem infoR : (Tryz.prog.info? 108).map (fun i => (i.zero, i.size, i.bytes)) = some (some (.agg #[.string .empty, .string .empty, .int .i64 0, .int .i64 0, .int .i64 0, .int .i64 0, .int .i64 0, .int .u8 0]), 8, 80) := by kernel_rfl
/-- append, as the walk meets it: the element lies in a block of its own. -/
theorem wp_app {ops : Array Oper} {rest : List Oper} {o : Oper} {a : Act} {Q : Exit → Act → World → Prop} (w : World) (hgd : o.guard = none) (s x : Operand)
    (ho : o.op = .call { callee := .builtin .append, args := #[s, x], argTypes := #[22, 22] })
    (B : Nat) (v : Value) (l : List Ob) (q : Ob) (hs : a.eval s = v) (hx : a.eval x = .slice (some ⟨w.heap.size, 0, none⟩) 1 1) (hown : OwnO w B v l) (hl : l.length ≤ 1000000)
    (h : ∀ v' w', OwnO w' B v' (l ++ [q]) → Below B w w' → wpList Tryz.prog ops Q rest (a.put o.dst v') w') : wpList Tryz.prog ops Q (o :: rest) a (w.alloc (.cells (obsC q).toArray 33)) := by
  obtain ⟨i0, hi, hz0, hz1, hz2⟩ := info_parts infoO
  have ho' := hown.1.alloc (.cells (obsC q).toArray 33)
  have nw := news_of (rangeAt_new w (obsC q) 33)
  have b1 : Below B w (w.alloc (.cells (obsC q).toArray 33)) := (Below.refl _ _).alloc hown.2 _
  refine wpList_append_own _ hgd s x 22 ho B 33 i0 _ 8 80 Tryz.underlying22 hi hz0 hz1 hz2 rfl (by decide) v l.length (flatO l) hs ho' ⟨w.heap.size, 0, none⟩ 1 1 (obsC q) hx rfl nw (obsC_one q) (by unfold maxLen; omega) (by omega) (Nat.le_trans hown.2 b1.size) ?_
  intro v' w' h1 h2 _
  have e := flatO_snoc l q
  have hb : Below B w w' := b1.trans ((Below.refl B _).grown h2 (Nat.le_trans hown.2 b1.size) (fun k hk => (hown.1.lt k hk).1))
  refine h v' w' ⟨?_, Nat.le_trans hown.2 hb.size⟩ hb
  rw [e, List.length_append]
  exact h1
theorem wp_appR {ops : Array Oper} {rest : List Oper} {o : Oper} {a : Act} {Q : Exit → Act → World → Prop} (w : World) (hgd : o.guard = none) (s x : Operand)
    (ho : o.op = .call { callee := .builtin .append, args := #[s, x], argTypes := #[107, 107] })
    (B : Nat) (v : Value) (l : List Ob) (q : Ob) (hs : a.eval s = v) (hx : a.eval x = .slice (some ⟨w.heap.size, 0, none⟩) 1 1) (hown : OwnR w B v l) (hl : l.length ≤ 1000000)
    (h : ∀ v' w', OwnR w' B v' (l ++ [q]) → Below B w w' → wpList Tryz.prog ops Q rest (a.put o.dst v') w') : wpList Tryz.prog ops Q (o :: rest) a (w.alloc (.cells (obsC q).toArray 108)) := by
  obtain ⟨i0, hi, hz0, hz1, hz2⟩ := info_parts infoR
  have ho' := hown.1.alloc (.cells (obsC q).toArray 108)
  have nw := news_of (rangeAt_new w (obsC q) 108)
  have b1 : Below B w (w.alloc (.cells (obsC q).toArray 108)) := (Below.refl _ _).alloc hown.2 _
  refine wpList_append_own _ hgd s x 107 ho B 108 i0 _ 8 80 Tryz.underlying107 hi hz0 hz1 hz2 rfl (by decide) v l.length (flatO l) hs ho' ⟨w.heap.size, 0, none⟩ 1 1 (obsC q) hx rfl nw (obsC_one q) (by unfold maxLen; omega) (by omega) (Nat.le_trans hown.2 b1.size) ?_
  intro v' w' h1 h2 _
  have e := flatO_snoc l q
  have hb : Below B w w' := b1.trans ((Below.refl B _).grown h2 (Nat.le_trans hown.2 b1.size) (fun k hk => (hown.1.lt k hk).1))
  refine h v' w' ⟨?_, Nat.le_trans hown.2 hb.size⟩ hb
  rw [e, List.length_append]
  exact h1
end Ow
end Go.Proofs.YtaghilgfldaaiaaGreatDoor
/-
  Plain law of observations: comparing them is a total order, and what Sort returns; no walk here.
-/
namespace Go.Proofs.YtaghilgfldaaiaaGreatDoor
namespace Op
open Go.RowKit Lw Go.Proofs.YtaghilgfldaaiaaGreatDoor.Ap Go.Proofs.YtaghilgfldaaiaaGreatDoor.Mp Go.Proofs.YtaghilgfldaaiaaGreatDoor.At Go.Proofs.YtaghilgfldaaiaaGreatDoor.Ow Go.Proofs.YtaghilgfldaaiaaGreatDoor.Mw

theorem orL_zero {l : List Int} (h : ∀ i (hi : i < l.length), l[i] = 0) : orL l = 0 := by
  induction l with
  | nil => rfl
  | cons x r ih =>
    have h0 : x = 0 := h 0 (by simp)
    unfold orL
    rw [if_neg (by simp [h0])]
    exact ih fun i hi => by have := h (i + 1) (by simp; omega); simpa using this
theorem orL_at {l : List Int} {k : Nat} (hk : k < l.length) (h : ∀ i (hi : i < l.length), i < k → l[i] = 0) (g : l[k] ≠ 0) : orL l = l[k] := by
  induction l generalizing k with
  | nil => simp at hk
  | cons x r ih =>
    unfold orL
    match k, hk, g with
    | 0, _, g => rw [if_pos (by simpa using g)]; rfl
    | k + 1, hk, g =>
      have h0 : x = 0 := h 0 (by simp) (by omega)
      rw [if_neg (by simp [h0])]
      have := ih (k := k) (by simpa using hk) (fun i hi hik => by have := h (i + 1) (by simp; omega) (by omega); simpa using this) (by simpa using g)
      rw [this]; rfl
theorem cmpO_refl (a : Ob) : cmpO a a = 0 := by have := cmp_O.anti a a; omega
end Op
end Go.Proofs.YtaghilgfldaaiaaGreatDoor
/-
  Plain law of merging: which observations are kept; no walk here.
-/
namespace Go.Proofs.YtaghilgfldaaiaaGreatDoor
namespace Vp
open Go.RowKit Lw Go.Proofs.YtaghilgfldaaiaaGreatDoor.Ap Go.Proofs.YtaghilgfldaaiaaGreatDoor.Op Go.Proofs.YtaghilgfldaaiaaGreatDoor.Mp Go.Proofs.YtaghilgfldaaiaaGreatDoor.Mw

theorem betP_irrefl (a : Ob) : ¬ betP a a := by
  unfold betP
  rw [cmpO_refl]
  omega
theorem betP_total {a b : Ob} (h : a ≠ b) : betP a b ∨ betP b a := by
  unfold betP
  have := cmp_O.anti a b
  have : cmpO a b ≠ 0 := fun e => h (cmpO_zero e)
  omega
theorem keptTo_yes {l : List Ob} {n : Nat} (hn : n < l.length) (h : bestP l n) : keptTo l (n + 1) = keptTo l n ++ [l[n]] := by
  unfold keptTo
  rw [List.range_succ, List.filter_append, List.filterMap_append]
  simp [h, hn]
theorem keptTo_no {l : List Ob} {n : Nat} (h : ¬ bestP l n) : keptTo l (n + 1) = keptTo l n := by
  unfold keptTo
  rw [List.range_succ, List.filter_append, List.filterMap_append]
  simp [h]
theorem dropTo_yes {l : List Ob} {n : Nat} (h : bestP l n) : dropTo l (n + 1) = dropTo l n := by
  unfold dropTo
  rw [List.range_succ, List.filter_append]
  simp [h]
theorem dropTo_no {l : List Ob} {n : Nat} (h : ¬ bestP l n) : dropTo l (n + 1) = dropTo l n ++ [n] := by
  unfold dropTo
  rw [List.range_succ, List.filter_append]
  simp [h]
theorem keptTo_len (l : List Ob) : ∀ n, (keptTo l n).length + (dropTo l n).length ≤ n ∧ (n ≤ l.length → (keptTo l n).length + (dropTo l n).length = n)
  | 0 => ⟨Nat.le_refl _, fun _ => rfl⟩
  | n + 1 => by
    have ih := keptTo_len l n
    by_cases h : bestP l n
    · rw [dropTo_yes h]
      by_cases hn : n < l.length
      · rw [keptTo_yes hn h, List.length_append]
        simp only [List.length_cons, List.length_nil]
        omega
      · refine ⟨?_, fun g => by omega⟩
        have : keptTo l (n + 1) = keptTo l n := by
          unfold keptTo
          rw [List.range_succ, List.filter_append, List.filterMap_append]
          simp [h, hn]
        rw [this]
        omega
    · rw [dropTo_no h, keptTo_no h, List.length_append]
      simp only [List.length_cons, List.length_nil]
      omega
theorem keptTo_mem {l : List Ob} {n : Nat} {o : Ob} (h : o ∈ keptTo l n) : ∃ i, ∃ hi : i < l.length, i < n ∧ bestP l i ∧ l[i] = o := by
  unfold keptTo at h
  obtain ⟨i, hi, e⟩ := List.mem_filterMap.1 h
  obtain ⟨h1, h2⟩ := List.mem_filter.1 hi
  obtain ⟨h3, h4⟩ := List.getElem?_eq_some_iff.1 e
  exact ⟨i, h3, List.mem_range.1 h1, of_decide_eq_true h2, h4⟩
theorem kept_ok {l : List Ob} (h : allC l = 0) (n : Nat) (hn : n ≤ l.length) : allC (keptTo l n) = 0 := by
  obtain ⟨h1, h2⟩ := allC_ok h
  have := keptTo_len l n
  refine allC_zero (by omega) fun o ho => ?_
  obtain ⟨i, hi, _, _, rfl⟩ := keptTo_mem ho
  exact h2 _ (List.getElem_mem hi)
/-! ### The program's way: the best of each key, out of the sorted list -/
theorem bst_other {x : List Ob} {k : Ky} {r : Option Ob} {o : Ob} (h : BstOf x k r) (g : kyOf o ≠ k) : BstOf (x ++ [o]) k r := by
  cases r with
  | none =>
    intro p hp
    rcases List.mem_append.1 hp with hp | hp
    · exact h p hp
    · rw [List.mem_singleton.1 hp]; exact g
  | some m =>
    obtain ⟨h1, h2, h3⟩ := h
    refine ⟨List.mem_append_left _ h1, h2, fun p hp e => ?_⟩
    rcases List.mem_append.1 hp with hp | hp
    · exact h3 p hp e
    · rw [List.mem_singleton.1 hp] at e; exact absurd e g
theorem bst_first {x : List Ob} {o : Ob} (h : BstOf x (kyOf o) none) : BstOf (x ++ [o]) (kyOf o) (some o) := by
  refine ⟨List.mem_append_right _ (List.mem_singleton.2 rfl), rfl, fun p hp e => ?_⟩
  rcases List.mem_append.1 hp with hp | hp
  · exact absurd e (h p hp)
  · rw [List.mem_singleton.1 hp]; exact betP_irrefl o
theorem bst_less {x : List Ob} {o b : Ob} (h : BstOf x (kyOf o) (some b)) (g : o.sg < b.sg) : BstOf (x ++ [o]) (kyOf o) (some o) := by
  obtain ⟨_, _, h3⟩ := h
  refine ⟨List.mem_append_right _ (List.mem_singleton.2 rfl), rfl, fun p hp e => ?_⟩
  rcases List.mem_append.1 hp with hp | hp
  · have := h3 p hp e
    unfold betP at *
    omega
  · rw [List.mem_singleton.1 hp]; exact betP_irrefl o
theorem bst_keep {x : List Ob} {o b : Ob} (h : BstOf x (kyOf o) (some b)) (g : ¬ o.sg < b.sg) (so : ∀ p ∈ x, cmpO p o ≤ 0) : BstOf (x ++ [o]) (kyOf o) (some b) := by
  obtain ⟨h1, h2, h3⟩ := h
  refine ⟨List.mem_append_left _ h1, h2, fun p hp e => ?_⟩
  rcases List.mem_append.1 hp with hp | hp
  · exact h3 p hp e
  · rw [List.mem_singleton.1 hp]
    have := so b h1
    have e := cmp_O.anti b o
    unfold betP
    omega
theorem BstOf.perm {x y : List Ob} {k : Ky} {r : Option Ob} (h : BstOf x k r) (p : x.Perm y) : BstOf y k r := by
  cases r with
  | none => exact fun o ho => h o (p.mem_iff.2 ho)
  | some m =>
    obtain ⟨h1, h2, h3⟩ := h
    exact ⟨p.mem_iff.1 h1, h2, fun o ho e => h3 o (p.mem_iff.2 ho) e⟩
theorem ordL_take {x : List Ob} (h : ordL x) {j : Nat} (hj : j < x.length) : ∀ p ∈ x.take j, cmpO p x[j] ≤ 0 := by
  intro p hp
  obtain ⟨i, hi, e⟩ := List.getElem_of_mem hp
  rw [List.length_take] at hi
  rw [← e, List.getElem_take]
  exact List.pairwise_iff_getElem.1 h i j (by omega) hj (by omega)
def updF (f : Ky → Option Ob) (k : Ky) (r : Option Ob) : Ky → Option Ob := fun k' => if k' = k then r else f k'
theorem bsts_first {x : List Ob} {j : Nat} (hj : j < x.length) {f : Ky → Option Ob} {o : Ob} (ho : x[j] = o) (H : ∀ k, BstOf (x.take j) k (f k)) (hf : f (kyOf o) = none) : ∀ k, BstOf (x.take (j + 1)) k (updF f (kyOf o) (some o) k) := fun k => by
  rw [List.take_succ_eq_append_getElem hj, ho]
  unfold updF
  by_cases e : k = kyOf o
  · rw [if_pos e, e]
    have := H (kyOf o)
    rw [hf] at this
    exact bst_first this
  · rw [if_neg e]
    exact bst_other (H k) (Ne.symm e)
theorem bsts_less {x : List Ob} {j : Nat} (hj : j < x.length) {f : Ky → Option Ob} {o b : Ob} (ho : x[j] = o) (H : ∀ k, BstOf (x.take j) k (f k)) (hf : f (kyOf o) = some b) (g : o.sg < b.sg) : ∀ k, BstOf (x.take (j + 1)) k (updF f (kyOf o) (some o) k) := fun k => by
  rw [List.take_succ_eq_append_getElem hj, ho]
  unfold updF
  by_cases e : k = kyOf o
  · rw [if_pos e, e]
    have := H (kyOf o)
    rw [hf] at this
    exact bst_less this g
  · rw [if_neg e]
    exact bst_other (H k) (Ne.symm e)
theorem bsts_keep {x : List Ob} {j : Nat} (hj : j < x.length) (hx : ordL x) {f : Ky → Option Ob} {o b : Ob} (ho : x[j] = o) (H : ∀ k, BstOf (x.take j) k (f k)) (hf : f (kyOf o) = some b) (g : ¬ o.sg < b.sg) : ∀ k, BstOf (x.take (j + 1)) k (f k) := fun k => by
  have so := ordL_take hx hj
  rw [List.take_succ_eq_append_getElem hj, ho]
  rw [ho] at so
  by_cases e : k = kyOf o
  · rw [e, hf]
    have := H (kyOf o)
    rw [hf] at this
    exact bst_keep this g so
  · exact bst_other (H k) (Ne.symm e)
/-- What the map holds behind i of the list: the best of a key, if it is still to come. -/
def LeftOf (l : List Ob) (i : Nat) (k : Ky) (r : Option Ob) : Prop := (BstOf l k none ∧ r = none) ∨ ∃ o, BstOf l k (some o) ∧ ((o ∈ l.take i ∧ r = none) ∨ (¬ o ∈ l.take i ∧ r = some o))
theorem left_start {l : List Ob} {k : Ky} {r : Option Ob} (h : BstOf l k r) : LeftOf l 0 k r := by
  cases r with
  | none => exact Or.inl ⟨h, rfl⟩
  | some o => exact Or.inr ⟨o, h, Or.inr ⟨by simp, rfl⟩⟩
theorem take_mem {l : List Ob} {i : Nat} (hi : i < l.length) {o : Ob} : o ∈ l.take (i + 1) ↔ o ∈ l.take i ∨ o = l[i] := by
  rw [List.take_succ_eq_append_getElem hi, List.mem_append, List.mem_singleton]
theorem left_other {l : List Ob} {i : Nat} (hi : i < l.length) {k : Ky} {r : Option Ob} (h : LeftOf l i k r) (g : kyOf l[i] ≠ k) : LeftOf l (i + 1) k r := by
  rcases h with h | ⟨o, hm, h⟩
  · exact Or.inl h
  · have : o ≠ l[i] := fun x => g (by rw [← x]; exact hm.2.1)
    refine Or.inr ⟨o, hm, ?_⟩
    rw [take_mem hi]
    rcases h with ⟨h1, h2⟩ | ⟨h1, h2⟩
    · exact Or.inl ⟨Or.inl h1, h2⟩
    · exact Or.inr ⟨fun x => by rcases x with x | x; exact h1 x; exact this x, h2⟩
/-- The i-th is kept just where it is what the map holds. -/
theorem left_best {l : List Ob} {i : Nat} (hi : i < l.length) {r : Option Ob} (h : LeftOf l i (kyOf l[i]) r) : r = some l[i] ↔ bestP l i := by
  rcases h with ⟨hm, _⟩ | ⟨o, ⟨h1, h2, h3⟩, h⟩
  · exact absurd rfl (hm _ (List.getElem_mem hi))
  · constructor
    · intro q
      rcases h with ⟨_, e⟩ | ⟨hn, e⟩
      · rw [q] at e; cases e
      · rw [q] at e
        have eo := Option.some.inj e
        intro k hk hb
        obtain ⟨_, hk', hne, hky, hor⟩ := hb
        rcases hor with hor | ⟨hlt, hor⟩
        · rw [eo] at hor
          exact h3 _ (List.getElem_mem hk') hky.symm hor
        · by_cases hq : l[k] = l[i]
          · apply hn
            rw [← eo, ← hq]
            exact List.mem_take_iff_getElem.2 ⟨k, by omega, rfl⟩
          · rcases betP_total hq with hb | hb
            · rw [eo] at hb
              exact h3 _ (List.getElem_mem hk') hky.symm hb
            · exact hor hb
    · intro hb
      have ho : o = l[i] := by
        refine Classical.byContradiction fun hne => ?_
        obtain ⟨k, hk, ek⟩ := List.getElem_of_mem h1
        have hb1 : betP o l[i] := by
          rcases betP_total hne with hb1 | hb1
          · exact hb1
          · exact absurd hb1 (h3 _ (List.getElem_mem hi) rfl)
        refine hb k hk ⟨hi, hk, fun e => ?_, ?_, Or.inl (by rw [ek]; exact hb1)⟩
        · subst e; exact hne ek.symm
        · rw [ek]; exact h2.symm
      have hn : ¬ o ∈ l.take i := by
        intro hin
        obtain ⟨k, hk, ek⟩ := List.mem_take_iff_getElem.1 hin
        refine hb k (by omega) ⟨hi, by omega, by omega, ?_, Or.inr ⟨by omega, ?_⟩⟩
        · rw [ek, ho]
        · rw [ek, ho]; exact betP_irrefl _
      rcases h with ⟨h, _⟩ | ⟨_, e⟩
      · exact absurd h hn
      · rw [e, ho]
theorem left_gone {l : List Ob} {i : Nat} (hi : i < l.length) {k : Ky} (h : LeftOf l i k (some l[i])) : LeftOf l (i + 1) k none := by
  rcases h with ⟨_, h⟩ | ⟨o, hm, h⟩
  · cases h
  · rcases h with ⟨_, h⟩ | ⟨_, h⟩
    · cases h
    · have e := Option.some.inj h
      exact Or.inr ⟨o, hm, Or.inl ⟨(take_mem hi).2 (Or.inr e.symm), rfl⟩⟩
theorem left_same {l : List Ob} {i : Nat} (hi : i < l.length) {k : Ky} {r : Option Ob} (h : LeftOf l i k r) (g : r ≠ some l[i]) : LeftOf l (i + 1) k r := by
  rcases h with h | ⟨o, hm, h⟩
  · exact Or.inl h
  · refine Or.inr ⟨o, hm, ?_⟩
    rw [take_mem hi]
    rcases h with ⟨h1, h2⟩ | ⟨h1, h2⟩
    · exact Or.inl ⟨Or.inl h1, h2⟩
    · exact Or.inr ⟨fun x => by
        rcases x with x | x
        · exact h1 x
        · rw [x] at h2; exact g h2, h2⟩
theorem lefts_start {l x : List Ob} {f : Ky → Option Ob} (hp : x.Perm l) (H : ∀ k, BstOf x k (f k)) : ∀ k, LeftOf l 0 k (f k) := fun k => left_start ((H k).perm hp)
theorem lefts_kept {l : List Ob} {i : Nat} (hi : i < l.length) {f : Ky → Option Ob} {o : Ob} (ho : l[i] = o) (H : ∀ k, LeftOf l i k (f k)) (hf : f (kyOf o) = some o) : (∀ k, LeftOf l (i + 1) k (updF f (kyOf o) none k)) ∧ keptTo l (i + 1) = keptTo l i ++ [o] ∧ dropTo l (i + 1) = dropTo l i := by
  subst ho
  have b : bestP l i := (left_best hi (H (kyOf l[i]))).1 hf
  refine ⟨fun k => ?_, keptTo_yes hi b, dropTo_yes b⟩
  unfold updF
  by_cases e : k = kyOf l[i]
  · rw [if_pos e]
    subst e
    have := H (kyOf l[i])
    rw [hf] at this
    exact left_gone hi this
  · rw [if_neg e]
    exact left_other hi (H k) (Ne.symm e)
theorem lefts_dropped {l : List Ob} {i : Nat} (hi : i < l.length) {f : Ky → Option Ob} {o : Ob} (ho : l[i] = o) (H : ∀ k, LeftOf l i k (f k)) (hf : f (kyOf o) ≠ some o) : (∀ k, LeftOf l (i + 1) k (f k)) ∧ keptTo l (i + 1) = keptTo l i ∧ dropTo l (i + 1) = dropTo l i ++ [i] := by
  subst ho
  have b : ¬ bestP l i := fun g => hf ((left_best hi (H (kyOf l[i]))).2 g)
  refine ⟨fun k => ?_, keptTo_no b, dropTo_no b⟩
  by_cases e : k = kyOf l[i]
  · subst e
    exact left_same hi (H _) hf
  · exact left_other hi (H k) (Ne.symm e)
end Vp
end Go.Proofs.YtaghilgfldaaiaaGreatDoor
/-
  The map of observations by name, site and time.
-/
namespace Go.Proofs.YtaghilgfldaaiaaGreatDoor
namespace Vw
open Go.RowKit Lw Go.Proofs.YtaghilgfldaaiaaGreatDoor.Ap Go.Proofs.YtaghilgfldaaiaaGreatDoor.Vp Go.Proofs.YtaghilgfldaaiaaGreatDoor.Op Go.Proofs.YtaghilgfldaaiaaGreatDoor.Ow Go.Maps Go.WideShapes

theorem kyV_inj (k k' : Ky) (h : kyV k = kyV k') : k = k' := by
  unfold kyV at h
  cases k; cases k'
  simpa using h
theorem laidO : laidOutB Tryz.prog = true := by kernel_rfl
theorem rowK : (65 : TypeId) < Tryz.prog.types.size := of_decide_eq_true (by kernel_rfl)
theorem lawK : Keyed Tryz.prog 65 := Keyed.of_law (deep_law_laid laidO (m := 3) (by decide) rowK (by kernel_rfl) (by rw [Tryz.underlying65]))
theorem keyTypeK : Tryz.prog.keyType 65 = true := by kernel_rfl
theorem cellsK : Tryz.prog.cellsOf 65 = 3 := by kernel_rfl
theorem cells1 : Tryz.prog.cellsOf 9 = 1 := by kernel_rfl
theorem cells2 : Tryz.prog.cellsOf 2 = 1 := by kernel_rfl
theorem sizeK : ∃ d, Tryz.prog.types.size = d + 1 := ⟨Tryz.prog.types.size - 1, by
  have : 0 < Tryz.prog.types.size := of_decide_eq_true (by kernel_rfl)
  omega⟩
theorem keyOf_K (k : Ky) (h : goodK k) : ∃ l, keyOf Tryz.prog 65 (kyV k) = some l := by
  obtain ⟨h1, h2, h3, h4⟩ := h
  have m1 : k.name.size ≤ maxLen := by unfold maxLen; omega
  have m2 : k.site.size ≤ maxLen := by unfold maxLen; omega
  have w3 : (Lit.int .i64 k.t).wf = true := WalkArith.wf_i64 (by omega)
  obtain ⟨d, hd⟩ := sizeK
  have fm : (kyV k).formed Tryz.prog 65 = true := by
    unfold kyV
    simp [Value.formed, Tryz.underlying65, cellsK]
  have kl : ∃ ls, Tryz.prog.keyLits (Tryz.prog.types.size + 1) 65 (kyV k).cells.toList = some ls := by
    rw [hd]
    unfold kyV
    simp [Program.keyLits, Tryz.underlying65, Tryz.underlying9, Tryz.underlying2, cellsK, cells1, cells2, Value.cells, m1, m2, w3]
  obtain ⟨ls, hl⟩ := kl
  refine ⟨.string (keyBytes ls), ?_⟩
  unfold keyOf
  rw [Tryz.underlying65]
  simp only [keyTypeK, fm, hl]
  rfl
theorem zeroE (w : World) : (zeroValue 33).run Tryz.prog w = .ok (obsV zeroO) w := by kernel_rfl
theorem mapK : MapTy Tryz.prog 63 65 33 kyV obsV goodK zeroO := ⟨lawK, Tryz.underlying63, zeroE, kyV_inj, keyOf_K⟩
end Vw
end Go.Proofs.YtaghilgfldaaiaaGreatDoor
/-
  Two slices that the call owns, one of observations and one of numbers, and a map beside them: append to either.
-/
namespace Go.Proofs.YtaghilgfldaaiaaGreatDoor
namespace Vw
open Go.RowKit Lw Go.Proofs.YtaghilgfldaaiaaGreatDoor.Ap Go.Proofs.YtaghilgfldaaiaaGreatDoor.Vp Go.Proofs.YtaghilgfldaaiaaGreatDoor.Op Go.Proofs.YtaghilgfldaaiaaGreatDoor.Ow

/-- append to the first. -/
theorem wp_keep {ops : Array Oper} {rest : List Oper} {o : Oper} {a : Act} {Q : Exit → Act → World → Prop} (w : World) (hgd : o.guard = none) (s x : Operand)
    (ho : o.op = .call { callee := .builtin .append, args := #[s, x], argTypes := #[22, 22] })
    (B : Nat) (vk vd : Value) (K : List Ob) (D : List Nat) (q : Ob) (hs : a.eval s = vk) (hx : a.eval x = .slice (some ⟨w.heap.size, 0, none⟩) 1 1) (h2 : W2 B vk K vd D w) (hl : K.length ≤ 1000000)
    (h : ∀ v' w', W2 B v' (K ++ [q]) vd D w' → (w.alloc (.cells (obsC q).toArray 33)).grownBy w' vk.ownBlock → (v'.ownBlock = vk.ownBlock ∨ v'.ownBlock = some (w.heap.size + 1)) → Below B w w' → wpList Tryz.prog ops Q rest (a.put o.dst v') w') :
    wpList Tryz.prog ops Q (o :: rest) a (w.alloc (.cells (obsC q).toArray 33)) := by
  obtain ⟨i0, hi, hz0, hz1, hz2⟩ := info_parts infoO
  have ho' := h2.kp.1.alloc (.cells (obsC q).toArray 33)
  have nw := news_of (rangeAt_new w (obsC q) 33)
  have b1 : Below B w (w.alloc (.cells (obsC q).toArray 33)) := (Below.refl _ _).alloc h2.kp.2 _
  have sz : (w.alloc (.cells (obsC q).toArray 33)).heap.size = w.heap.size + 1 := by simp
  refine wpList_append_own_at _ hgd s x 22 ho B 33 i0 _ 8 80 Tryz.underlying22 hi hz0 hz1 hz2 rfl (by decide) vk K.length (flatO K) hs ho' ⟨w.heap.size, 0, none⟩ 1 1 (obsC q) hx rfl nw (obsC_one q) (by unfold maxLen; omega) (by omega) (Nat.le_trans h2.kp.2 b1.size) ?_
  intro v' w' h1 hg _ hat
  rw [sz] at hat
  have e := flatO_snoc K q
  have hb : Below B w w' := b1.trans ((Below.refl B _).grown hg (Nat.le_trans h2.kp.2 b1.size) (fun k hk => (h2.kp.1.lt k hk).1))
  refine h v' w' ⟨⟨?_, Nat.le_trans h2.kp.2 hb.size⟩, ⟨((h2.dp.1.alloc _).kept hg h2.ap2.1), Nat.le_trans h2.dp.2 hb.size⟩, fun g hv hd => ?_⟩ hg hat hb
  · rw [e, List.length_append]
    exact h1
  · rcases hat with hat | hat
    · exact h2.ap g (hat ▸ hv) hd
    · rw [hat] at hv
      have := (h2.dp.1.lt g hd).2
      injection hv with hv
      omega
theorem M3.keep {B mb n : Nat} {f : Ky → Option Ob} {vk vd v' : Value} {K K' : List Ob} {D : List Nat} {w w' : World} {ob : Obj} (h : M3 B mb n f vk K vd D w) (h2 : W2 B v' K' vd D w') (hg : (w.alloc ob).grownBy w' vk.ownBlock) (hat : v'.ownBlock = vk.ownBlock ∨ v'.ownBlock = some (w.heap.size + 1)) : M3 B mb n f v' K' vd D w' := by
  have lt := h.mp.lt
  refine ⟨h2, (h.mp.below ((Below.refl _ _).alloc (Nat.le_refl _) ob)).kept hg (fun e => h.nk e.symm), fun e => ?_, h.nd⟩
  rcases hat with hat | hat
  · exact h.nk (hat ▸ e)
  · rw [hat] at e
    injection e with e
    omega
theorem Own1.intV {w : World} {B : Nat} {v : Value} {D : List Nat} (h : Own1 3 w B v (intL D)) : IntV w v D := by
  rcases h.form with ⟨e, rfl⟩ | ⟨g, cap, rfl, _, _, lt, hc⟩
  · have : D = [] := by
      cases D with
      | nil => rfl
      | cons a l => cases e
    subst this
    exact IntV.nil w
  · refine ⟨some ⟨g, 0, none⟩, cap, by rw [intL_len], Or.inr ⟨g, 0, rfl, lt, fun j hj => ?_⟩⟩
    rw [Nat.zero_add]
    refine hc j _ ?_
    unfold intL
    rw [List.getElem?_map, List.getElem?_eq_getElem hj]
    rfl
end Vw
end Go.Proofs.YtaghilgfldaaiaaGreatDoor
/-
  Plain law of observations: exact observations are read back as they are; the chapter's example; no walk here.
-/
namespace Go.Proofs.YtaghilgfldaaiaaGreatDoor
namespace Op
open Go.RowKit Lw Go.Proofs.YtaghilgfldaaiaaGreatDoor.Ap Go.Proofs.YtaghilgfldaaiaaGreatDoor.Mp Go.Proofs.YtaghilgfldaaiaaGreatDoor.At Go.Proofs.YtaghilgfldaaiaaGreatDoor.Ow Go.Proofs.YtaghilgfldaaiaaGreatDoor.Mw

/-! ### The example -/
def sOA : ByteArray := ⟨([32, 32, 32, 32, 32, 75, 50, 54, 87, 49, 50, 66, 32, 32, 67, 50, 48, 50, 54, 32, 49, 49, 32, 50, 52, 46, 53, 48, 48, 48, 48, 48, 48, 48, 32, 48, 48, 32, 48, 49].append [46, 48, 48, 48, 45, 48, 48, 32, 48, 48, 32, 48, 49, 46, 48, 48, 32, 32, 32, 32, 32, 32, 32, 32, 32, 49, 56, 46, 53, 48, 119, 32, 32, 32, 32, 32, 32, 70, 53, 49] : List UInt8).toArray⟩
def oA : Ob := ⟨⟨#[75, 50, 54, 87, 49, 50, 66]⟩, ⟨#[70, 53, 49]⟩, 848793669184000, 15000000, -1000000, 100000, 1850, 119⟩
end Op
end Go.Proofs.YtaghilgfldaaiaaGreatDoor
/-
  The walks of given, reads and alive of the law package of tables.
-/
namespace Go.Proofs.YtaghilgfldaaiaaGreatDoor
namespace Vw
open Go.RowKit Lw Go.Proofs.YtaghilgfldaaiaaGreatDoor.Ap Go.Proofs.YtaghilgfldaaiaaGreatDoor.Vp Go.Proofs.YtaghilgfldaaiaaGreatDoor.Op Go.Proofs.YtaghilgfldaaiaaGreatDoor.Ow Go.Proofs.YtaghilgfldaaiaaGreatDoor.Mp Go.Proofs.YtaghilgfldaaiaaGreatDoor.Mw Go.Proofs.YtaghilgfldaaiaaGreatDoor.At

set_option maxRecDepth 100000 in
set_option maxHeartbeats 8000000 in
theorem wrong27_any (s : ByteArray) (w : World) (hE : ES w) (hM : MX w) (hs : s.size ≤ 1000000) (hc : SmallC s) (h : ParseTIs s [] [] 12) : Calls Tryz.prog 30 #[.string s] w fun e w' => e = .returned (.bool true) ∧ Below w.heap.size w w' := by
  have PA := Lib.hid (vparse_any s w hE hM hs hc)
  have H := Lib.hid h
  clear hE hM hs hc h
  go_enter Tryz.func30, Tryz.ntmps30
  go_wp2_with fail
  refine PA.out.mono ?_
  rintro e w1 ⟨v, d, n, m, c, rfl, hP, hv, hd, hb⟩
  obtain ⟨rfl, rfl, rfl⟩ := H.out.uniq hP
  obtain ⟨xn, cn, rfl, hxn⟩ := hv
  obtain ⟨xo, co, rfl, hxo⟩ := hd
  have B := Lib.hid hb
  clear hb hP PA H hxn hxo
  go_wp2_with fail
  go_ret
  exact ⟨rfl, B.out⟩
end Vw
end Go.Proofs.YtaghilgfldaaiaaGreatDoor
/-
  The walks of with and repeat of the law package of tables.
-/
namespace Go.Proofs.YtaghilgfldaaiaaGreatDoor
namespace Vw
open Go.RowKit Lw Go.Proofs.YtaghilgfldaaiaaGreatDoor.Ap Go.Proofs.YtaghilgfldaaiaaGreatDoor.Vp Go.Proofs.YtaghilgfldaaiaaGreatDoor.Op Go.Proofs.YtaghilgfldaaiaaGreatDoor.Ow Go.Proofs.YtaghilgfldaaiaaGreatDoor.Mp Go.Proofs.YtaghilgfldaaiaaGreatDoor.Mw Go.Proofs.YtaghilgfldaaiaaGreatDoor.At

theorem with_str (H x y : ByteArray) (h : H.data.toList = wHead) : (((H ++ x) ++ (⟨#[124]⟩ : ByteArray)) ++ y) ++ (⟨#[10]⟩ : ByteArray) = withS x y := by
  apply str_toL
  unfold withS
  simp [ByteArray.data_append, stL, h]
set_option maxRecDepth 100000 in
set_option maxHeartbeats 4000000 in
theorem with27_any (x y : ByteArray) (w : World) (hx : x.size ≤ 100) (hy : y.size ≤ 100) : Calls Tryz.prog 29 #[.string x, .string y] w fun e w' => e = .returned (.string (withS x y)) ∧ w = w' := by
  have E := Lib.hid (with_str (⟨([110, 97, 109, 101, 124, 115, 116, 110, 124, 111, 98, 115, 84, 105, 109, 101, 124, 114, 97, 124, 100, 101, 99, 124, 115, 105, 103, 109, 97, 124, 109, 97, 103, 124, 98, 97, 110, 100].append [10, 120, 124, 70, 53, 49, 124, 50, 48, 50, 54, 45, 49, 49, 45, 49, 54, 84, 48, 51, 58, 48, 48, 58, 48, 48, 90, 124, 49, 53, 46, 48, 124, 45, 49, 46, 48, 124, 124]).toArray⟩ : ByteArray) x y (by decide))
  have z0 : (⟨([110, 97, 109, 101, 124, 115, 116, 110, 124, 111, 98, 115, 84, 105, 109, 101, 124, 114, 97, 124, 100, 101, 99, 124, 115, 105, 103, 109, 97, 124, 109, 97, 103, 124, 98, 97, 110, 100].append [10, 120, 124, 70, 53, 49, 124, 50, 48, 50, 54, 45, 49, 49, 45, 49, 54, 84, 48, 51, 58, 48, 48, 58, 48, 48, 90, 124, 49, 53, 46, 48, 124, 45, 49, 46, 48, 124, 124]).toArray⟩ : ByteArray).size = 77 := by decide
  have z1 : ((⟨([110, 97, 109, 101, 124, 115, 116, 110, 124, 111, 98, 115, 84, 105, 109, 101, 124, 114, 97, 124, 100, 101, 99, 124, 115, 105, 103, 109, 97, 124, 109, 97, 103, 124, 98, 97, 110, 100].append [10, 120, 124, 70, 53, 49, 124, 50, 48, 50, 54, 45, 49, 49, 45, 49, 54, 84, 48, 51, 58, 48, 48, 58, 48, 48, 90, 124, 49, 53, 46, 48, 124, 45, 49, 46, 48, 124, 124]).toArray⟩ : ByteArray) ++ x).size ≤ 200 := by rw [ByteArray.size_append]; omega
  have zb : (⟨#[124]⟩ : ByteArray).size = 1 := rfl
  have zn : (⟨#[10]⟩ : ByteArray).size = 1 := rfl
  have z2 : ((⟨([110, 97, 109, 101, 124, 115, 116, 110, 124, 111, 98, 115, 84, 105, 109, 101, 124, 114, 97, 124, 100, 101, 99, 124, 115, 105, 103, 109, 97, 124, 109, 97, 103, 124, 98, 97, 110, 100].append [10, 120, 124, 70, 53, 49, 124, 50, 48, 50, 54, 45, 49, 49, 45, 49, 54, 84, 48, 51, 58, 48, 48, 58, 48, 48, 90, 124, 49, 53, 46, 48, 124, 45, 49, 46, 48, 124, 124]).toArray⟩ : ByteArray) ++ x ++ (⟨#[124]⟩ : ByteArray)).size ≤ 300 := by rw [ByteArray.size_append]; omega
  have z3 : ((⟨([110, 97, 109, 101, 124, 115, 116, 110, 124, 111, 98, 115, 84, 105, 109, 101, 124, 114, 97, 124, 100, 101, 99, 124, 115, 105, 103, 109, 97, 124, 109, 97, 103, 124, 98, 97, 110, 100].append [10, 120, 124, 70, 53, 49, 124, 50, 48, 50, 54, 45, 49, 49, 45, 49, 54, 84, 48, 51, 58, 48, 48, 58, 48, 48, 90, 124, 49, 53, 46, 48, 124, 45, 49, 46, 48, 124, 124]).toArray⟩ : ByteArray) ++ x ++ (⟨#[124]⟩ : ByteArray) ++ y).size ≤ 400 := by rw [ByteArray.size_append]; omega
  go_enter Tryz.func29, Tryz.ntmps29
  go_wp2_with fail
  go_ret
  exact ⟨by rw [← E.out]; rfl, rfl⟩
/-- A string so many times. -/
def repB (s : ByteArray) : Nat → List UInt8
  | 0 => []
  | n + 1 => repB s n ++ s.data.toList
theorem repB_len (s : ByteArray) : ∀ n, (stL (repB s n)).size = n * s.size
  | 0 => by rw [stL_size, Nat.zero_mul]; rfl
  | n + 1 => by
    have ih := repB_len s n
    have z : s.data.toList.length = s.size := rfl
    rw [stL_size] at ih ⊢
    show (repB s n ++ s.data.toList).length = _
    rw [List.length_append, ih, z, Nat.add_mul, Nat.one_mul]
theorem rep_str (s : ByteArray) (n : Nat) : stL (repB s n) ++ s = stL (repB s (n + 1)) := by
  apply str_toL
  show _ = repB s n ++ s.data.toList
  simp [ByteArray.data_append, stL]
set_option maxRecDepth 100000 in
set_option maxHeartbeats 4000000 in
theorem repeat27_any (s : ByteArray) (n : Nat) (w : World) (hs : s.size ≤ 100) (hn : n ≤ 1000) : Calls Tryz.prog 31 #[.string s, .int .i64 n] w fun e w' => e = .returned (.string (stL (repB s n))) ∧ w = w' := by
  have ZL := Lib.hid (repB_len s)
  have RS := Lib.hid (rep_str s)
  go_enter Tryz.func31, Tryz.ntmps31
  go_wp2_with fail
  go_loopw [5, 6] (fun sv iv wr => ∃ k : Nat, k ≤ n ∧ iv = .int .i64 k ∧ sv = .string (stL (repB s k)) ∧ w = wr) (fun _ iv _ => n - (intOf iv).toNat)
  case atStart => exact ⟨0, Nat.zero_le _, rfl, rfl, rfl⟩
  case round =>
    obtain ⟨k, hk, rfl, rfl, rfl⟩ := hrel
    have z1 : (stL (repB s k)).size ≤ 100000 := by
      rw [ZL.out k]
      exact Nat.le_trans (Nat.mul_le_mul (Nat.le_trans hk hn) hs) (by omega)
    have E := Lib.hid (RS.out k)
    by_cases hlt : k < n
    · have i1 : (k : Int) < (n : Int) := by omega
      obtain ⟨S, hS⟩ : ∃ S, stL (repB s k) = S := ⟨_, rfl⟩
      rw [hS] at E z1 ⊢
      have z2 : (S ++ s).size ≤ 100100 := by rw [ByteArray.size_append]; omega
      clear hS
      go_wp2_with fail
      go_roundw
      case rel => exact ⟨k + 1, by omega, by go_num, by rw [E.out], by first | rfl | trivial⟩
      case measure => simp [intOf] <;> omega
    · obtain rfl : k = n := by omega
      go_wp2_with fail
      go_ret
      exact ⟨rfl, rfl⟩
end Vw
end Go.Proofs.YtaghilgfldaaiaaGreatDoor
/-
  The walks of with, reads, wrong of the law package of observations.
-/
namespace Go.Proofs.YtaghilgfldaaiaaGreatDoor
namespace Ow
open Go.RowKit Lw Go.Proofs.YtaghilgfldaaiaaGreatDoor.Ap Go.Proofs.YtaghilgfldaaiaaGreatDoor.Op Go.Proofs.YtaghilgfldaaiaaGreatDoor.Mp Go.Proofs.YtaghilgfldaaiaaGreatDoor.Mw Go.Proofs.YtaghilgfldaaiaaGreatDoor.At

/-- The example's line with another piece at a place. -/
def withS (a : Nat) (p : ByteArray) : ByteArray := sOA.extract 0 a ++ p ++ sOA.extract (a + p.size) 80
end Ow
end Go.Proofs.YtaghilgfldaaiaaGreatDoor
/-
  Plain law of observations: the lines of the law ObsNames that cannot be read; no walk here.
-/
namespace Go.Proofs.YtaghilgfldaaiaaGreatDoor
namespace Op
open Go.RowKit Lw Go.Proofs.YtaghilgfldaaiaaGreatDoor.Ap Go.Proofs.YtaghilgfldaaiaaGreatDoor.Mp Go.Proofs.YtaghilgfldaaiaaGreatDoor.At Go.Proofs.YtaghilgfldaaiaaGreatDoor.Ow Go.Proofs.YtaghilgfldaaiaaGreatDoor.Mw

/-- A column that is a magnitude. -/
def magOkP (s : ByteArray) : Prop := bt s 2 = 46 ∧ dgP (bt s 1) ∧ dgP (bt s 3) ∧ (dgP (bt s 4) ∨ bt s 4 = 32) ∧ ((bt s 0 = 45 ∧ 0 < magN s) ∨ bt s 0 = 32 ∨ (dgP (bt s 0) ∧ bt s 0 ≠ 48 ∧ magN s + 1000 * (bt s 0 - 48) ≤ 3000))
instance (s : ByteArray) : Decidable (magOkP s) := by unfold magOkP; infer_instance
instance (s : ByteArray) : Decidable (Gp.validP s) := by unfold Gp.validP Gp.shapeP; infer_instance
instance (s : ByteArray) : Decidable (Gp.decOk s) := by unfold Gp.decOk Gp.signP; infer_instance
end Op
end Go.Proofs.YtaghilgfldaaiaaGreatDoor
/-
  Plain law of observations: the lines of the law ObsNames that can be read; no walk here.
-/
namespace Go.Proofs.YtaghilgfldaaiaaGreatDoor
namespace Op
open Go.RowKit Lw Go.Proofs.YtaghilgfldaaiaaGreatDoor.Ap Go.Proofs.YtaghilgfldaaiaaGreatDoor.Mp Go.Proofs.YtaghilgfldaaiaaGreatDoor.At Go.Proofs.YtaghilgfldaaiaaGreatDoor.Ow Go.Proofs.YtaghilgfldaaiaaGreatDoor.Mw

def oR : Ob := { oA with mag := -146, name := ⟨#[48, 48, 52, 51, 51]⟩ }
instance (a b c : Nat) : Decidable (digP a b c) := by unfold digP; infer_instance
end Op
end Go.Proofs.YtaghilgfldaaiaaGreatDoor
/-
  The walks of comparisons: number, text of the reference; cmp.Compare, cmp.Or.
-/
namespace Go.Proofs.YtaghilgfldaaiaaGreatDoor
namespace Ow
open Go.RowKit Lw Go.Proofs.YtaghilgfldaaiaaGreatDoor.Ap Go.Proofs.YtaghilgfldaaiaaGreatDoor.Op Go.Proofs.YtaghilgfldaaiaaGreatDoor.Mp Go.Proofs.YtaghilgfldaaiaaGreatDoor.Mw Go.Proofs.YtaghilgfldaaiaaGreatDoor.At

theorem cI_m {x y : Int} (h : x < y) : cI x y = -1 := if_pos h
theorem cI_p {x y : Int} (h : ¬ x < y) (g : y < x) : cI x y = 1 := by unfold cI; rw [if_neg h, if_pos g]
theorem cI_z {x y : Int} (h : ¬ x < y) (g : ¬ y < x) : cI x y = 0 := by unfold cI; rw [if_neg h, if_neg g]
set_option maxRecDepth 100000 in
set_option maxHeartbeats 1000000 in
theorem cmp64_any (x y : Int) (w : World) : Calls Tryz.prog 114 #[.int .i64 x, .int .i64 y] w fun e w' => e = .returned (.int .i64 (cI x y)) ∧ w = w' := by
  by_cases h : x < y
  · rw [cI_m h]
    go_enter Tryz.func114, Tryz.ntmps114
    go_wp2_with go_in
    go_ret
    exact ⟨rfl, rfl⟩
  · by_cases g : y < x
    · rw [cI_p h g]
      go_enter Tryz.func114, Tryz.ntmps114
      go_wp2_with go_in
      go_ret
      exact ⟨rfl, rfl⟩
    · rw [cI_z h g]
      go_enter Tryz.func114, Tryz.ntmps114
      go_wp2_with go_in
      go_ret
      exact ⟨rfl, rfl⟩
set_option maxRecDepth 100000 in
set_option maxHeartbeats 1000000 in
theorem cmpint_any (x y : Int) (w : World) : Calls Tryz.prog 116 #[.int .i64 x, .int .i64 y] w fun e w' => e = .returned (.int .i64 (cI x y)) ∧ w = w' := by
  by_cases h : x < y
  · rw [cI_m h]
    go_enter Tryz.func116, Tryz.ntmps116
    go_wp2_with go_in
    go_ret
    exact ⟨rfl, rfl⟩
  · by_cases g : y < x
    · rw [cI_p h g]
      go_enter Tryz.func116, Tryz.ntmps116
      go_wp2_with go_in
      go_ret
      exact ⟨rfl, rfl⟩
    · rw [cI_z h g]
      go_enter Tryz.func116, Tryz.ntmps116
      go_wp2_with go_in
      go_ret
      exact ⟨rfl, rfl⟩
set_option maxRecDepth 100000 in
set_option maxHeartbeats 1000000 in
theorem cmpbyte_any (x y : Int) (w : World) : Calls Tryz.prog 117 #[.int .u8 x, .int .u8 y] w fun e w' => e = .returned (.int .i64 (cI x y)) ∧ w = w' := by
  by_cases h : x < y
  · rw [cI_m h]
    go_enter Tryz.func117, Tryz.ntmps117
    go_wp2_with go_in
    go_ret
    exact ⟨rfl, rfl⟩
  · by_cases g : y < x
    · rw [cI_p h g]
      go_enter Tryz.func117, Tryz.ntmps117
      go_wp2_with go_in
      go_ret
      exact ⟨rfl, rfl⟩
    · rw [cI_z h g]
      go_enter Tryz.func117, Tryz.ntmps117
      go_wp2_with go_in
      go_ret
      exact ⟨rfl, rfl⟩
set_option maxRecDepth 100000 in
set_option maxHeartbeats 1000000 in
theorem cmpstr_any (x y : ByteArray) (w : World) : Calls Tryz.prog 115 #[.string x, .string y] w fun e w' => e = .returned (.int .i64 (cS x y)) ∧ w = w' := by
  by_cases h : x.data.toList < y.data.toList
  · rw [cS_m h]
    have f1 := bl_t h
    clear h
    go_enter Tryz.func115, Tryz.ntmps115
    go_wp2_with go_in
    go_ret
    exact ⟨rfl, rfl⟩
  · by_cases g : y.data.toList < x.data.toList
    · rw [cS_p h g]
      have f1 := bl_f h
      have f2 := be_f g
      clear h g
      go_enter Tryz.func115, Tryz.ntmps115
      go_wp2_with go_in
      go_ret
      exact ⟨rfl, rfl⟩
    · rw [cS_z h g]
      have f1 := bl_f h
      have f2 := be_t h g
      clear h g
      go_enter Tryz.func115, Tryz.ntmps115
      go_wp2_with go_in
      go_ret
      exact ⟨rfl, rfl⟩
set_option maxRecDepth 100000 in
set_option maxHeartbeats 4000000 in
theorem or_any (b cap : Nat) (l : List Int) (w : World) (hl : ∀ i (h : i < l.length), w.cell? ⟨b, i, none⟩ = some (.int .i64 (l[i]'h))) (hm : l.length ≤ 1000) :
    Calls Tryz.prog 113 #[.slice (some ⟨b, 0, none⟩) l.length cap] w fun e w' => e = .returned (.int .i64 (orL l)) ∧ w = w' := by
  have OA := Lib.hid (fun k (hk : k < l.length) (h : ∀ i (hi : i < l.length), i < k → l[i] = 0) (g : l[k] ≠ 0) => orL_at hk h g)
  have OZ := Lib.hid (fun (h : ∀ i (hi : i < l.length), l[i] = 0) => orL_zero h)
  have HL := Lib.hid hl
  generalize orL l = K at *
  obtain ⟨n, hnl⟩ : ∃ n, l.length = n := ⟨_, rfl⟩
  rw [hnl] at hm ⊢
  have NL := Lib.hid hnl
  clear hl hnl
  go_enter Tryz.func113, Tryz.ntmps113
  go_wp2_with fail
  go_loop [8] (fun i => ∃ k : Nat, k ≤ n ∧ i = .int .i64 k ∧ Hid (∀ j (h : j < l.length), j < k → l[j] = 0)) (fun i => n - (intOf i).toNat)
  case atStart => exact ⟨0, Nat.zero_le _, rfl, Lib.hid (fun j _ h => by omega)⟩
  case round =>
    obtain ⟨k, hk, rfl, D⟩ := hrel
    by_cases hlt : k < n
    · have hkl : k < l.length := by rw [NL.out]; exact hlt
      have c0 := HL.out k hkl
      have i1 : (k : Int) < (n : Int) := by omega
      by_cases hz : l[k] = 0
      · have DK := Lib.hid (show ∀ j (h : j < l.length), j < k + 1 → l[j] = 0 from fun j h hj => by
          by_cases e : j = k
          · subst e; exact hz
          · exact D.out j h (by omega))
        rw [hz] at c0
        clear D OA OZ hz
        go_wp2_with fail
        go_round
        case rel => exact ⟨k + 1, by omega, by go_num, DK⟩
        case measure => simp [intOf]; omega
      · have E := Lib.hid (OA.out k hkl D.out hz)
        generalize l[k]'hkl = v at *
        have hz2 : (v != 0) = true := by rw [bne, beq_eq_false_iff_ne.2 hz]; rfl
        clear D OA OZ
        go_wp2_with fail
        go_ret
        exact ⟨by rw [E.out]; rfl, rfl⟩
    · obtain rfl : k = n := by omega
      have E := Lib.hid (OZ.out (fun i hi => D.out i hi (by have := NL.out; omega)))
      clear OA OZ D
      go_wp2_with fail
      go_ret
      exact ⟨by rw [E.out]; rfl, rfl⟩
end Ow
end Go.Proofs.YtaghilgfldaaiaaGreatDoor
/-
  The walks of compare of obs, and of Compare of the reference.
-/
namespace Go.Proofs.YtaghilgfldaaiaaGreatDoor
namespace Ow
open Go.RowKit Lw Go.Proofs.YtaghilgfldaaiaaGreatDoor.Ap Go.Proofs.YtaghilgfldaaiaaGreatDoor.Op Go.Proofs.YtaghilgfldaaiaaGreatDoor.Mp Go.Proofs.YtaghilgfldaaiaaGreatDoor.Mw Go.Proofs.YtaghilgfldaaiaaGreatDoor.At Go.Sort

/-- The numbers of a comparison, as cells. -/
abbrev cmpC (x y : Ob) : List Value := [.int .i64 (cI x.t y.t), .int .i64 (cS x.site y.site), .int .i64 (cS x.name y.name), .int .i64 (cI x.ra y.ra), .int .i64 (cI x.dec y.dec), .int .i64 (cI x.sg y.sg), .int .i64 (cI x.mag y.mag), .int .i64 (cI x.band y.band)]
theorem cmpC_cell {b : Nat} {x y : Ob} {w : World} (h : w.rangeAt b 0 (cmpC x y)) : ∀ i (hi : i < (cmpL x y).length), w.cell? ⟨b, i, none⟩ = some (.int .i64 ((cmpL x y)[i]'hi)) := fun i hi => by
  have e : (cmpC x y)[i]? = some (.int .i64 ((cmpL x y)[i]'hi)) := by
    have : cmpC x y = (cmpL x y).map (Value.int .i64) := rfl
    rw [this, List.getElem?_map, List.getElem?_eq_getElem hi]; rfl
  have := h i _ e
  rwa [Nat.zero_add] at this
theorem row3 (w : World) (a b : Obj) (cs : List Value) (t : TypeId) : (((w.alloc a).alloc b).alloc (.cells cs.toArray t)).drew.rangeAt (w.heap.size + 1 + 1) 0 cs := by
  have h := rangeAt_new ((w.alloc a).alloc b) cs t
  have e : ((w.alloc a).alloc b).heap.size = w.heap.size + 1 + 1 := by simp
  rw [e] at h
  exact rangeAt_below h (Below.refl _ _).drew (by simp)
theorem or8 (b : Nat) (x y : Ob) (w : World) (h : w.rangeAt b 0 (cmpC x y)) : Calls Tryz.prog 113 #[.slice (some ⟨b, 0, none⟩) 8 8] w fun e w' => e = .returned (.int .i64 (cmpO x y)) ∧ w = w' := or_any b 8 (cmpL x y) w (cmpC_cell h) (by show 8 ≤ 1000; omega)
set_option maxRecDepth 100000 in
set_option maxHeartbeats 40000000 in
theorem compare_any (x y : Ob) (w : World) : Calls Tryz.prog 67 #[obsV x, obsV y] w fun e w' => e = .returned (.int .i64 (cmpO x y)) ∧ ∃ q os', w' = grow (w.drewN q) os' := by
  have L := Lib.hid (CX.new w x y 108)
  obtain ⟨n0, s0, t0, r0, d0, g0, m0, b0⟩ := x
  obtain ⟨n1, s1, t1, r1, d1, g1, m1, b1⟩ := y
  have OR := Lib.hid (fun b w' h => or8 b ⟨n0, s0, t0, r0, d0, g0, m0, b0⟩ ⟨n1, s1, t1, r1, d1, g1, m1, b1⟩ w' h)
  generalize cmpO ⟨n0, s0, t0, r0, d0, g0, m0, b0⟩ ⟨n1, s1, t1, r1, d1, g1, m1, b1⟩ = K at *
  go_enter Tryz.func67, Tryz.ntmps67
  go_wp2_with fail
  refine wp_region_held_drew (S := CX w w.heap.size ⟨n0, s0, t0, r0, d0, g0, m0, b0⟩ ⟨n1, s1, t1, r1, d1, g1, m1, b1⟩) (by kernel_rfl) L.out.drew (fun hHeld => ?_)
  clear L
  refine wpAnyH_take (i := 0) (oi := ?oi0x1) (v := ?v0x1) ?hi0x1 (by kernel_rfl) (by kernel_rfl) (by kernel_rfl) ?hq0x1 ?hy0x1 hHeld ?rest0x1
  case hi0x1 => ((try simp only [List.getElem?_toArray, List.getElem?_cons_succ, List.getElem?_cons_zero]); (try rfl))
  case hq0x1 => exact fun _ _ _ h => h
  case hy0x1 => exact Or.inl ⟨by rfl, by intro w hSw; clear hSw; go_simp; try with_reducible rfl⟩
  try simp only [Act.put, List.setIfInBounds_toArray, List.set_cons_zero, List.set_cons_succ]
  refine wpAnyH_take (i := 1) (oi := ?oi1x2) (v := ?v1x2) ?hi1x2 (by kernel_rfl) (by kernel_rfl) (by kernel_rfl) ?hq1x2 ?hy1x2 hHeld ?rest1x2
  case hi1x2 => ((try simp only [List.getElem?_toArray, List.getElem?_cons_succ, List.getElem?_cons_zero]); (try rfl))
  case hq1x2 => exact fun _ _ _ h => h
  case hy1x2 => exact Or.inl ⟨by rfl, by intro w hSw; have q := (CX.rx hSw) 2 _ rfl; clear hSw; simp only [Nat.zero_add] at q; go_simp; try with_reducible rfl⟩
  try simp only [Act.put, List.setIfInBounds_toArray, List.set_cons_zero, List.set_cons_succ]
  refine wpAnyH_take (i := 2) (oi := ?oi2x3) (v := ?v2x3) ?hi2x3 (by kernel_rfl) (by kernel_rfl) (by kernel_rfl) ?hq2x3 ?hy2x3 hHeld ?rest2x3
  case hi2x3 => ((try simp only [List.getElem?_toArray, List.getElem?_cons_succ, List.getElem?_cons_zero]); (try rfl))
  case hq2x3 => exact fun _ _ _ h => h
  case hy2x3 => exact Or.inl ⟨by rfl, by intro w hSw; clear hSw; go_simp; try with_reducible rfl⟩
  try simp only [Act.put, List.setIfInBounds_toArray, List.set_cons_zero, List.set_cons_succ]
  refine wpAnyH_take (i := 3) (oi := ?oi3x4) (v := ?v3x4) ?hi3x4 (by kernel_rfl) (by kernel_rfl) (by kernel_rfl) ?hq3x4 ?hy3x4 hHeld ?rest3x4
  case hi3x4 => ((try simp only [List.getElem?_toArray, List.getElem?_cons_succ, List.getElem?_cons_zero]); (try rfl))
  case hq3x4 => exact fun _ _ _ h => h
  case hy3x4 => exact Or.inl ⟨by rfl, by intro w hSw; have q := (CX.ry hSw) 2 _ rfl; clear hSw; simp only [Nat.zero_add] at q; go_simp; try with_reducible rfl⟩
  try simp only [Act.put, List.setIfInBounds_toArray, List.set_cons_zero, List.set_cons_succ]
  refine wpAnyH_take (i := 5) (oi := ?oi5x5) (v := ?v5x5) ?hi5x5 (by kernel_rfl) (by kernel_rfl) (by kernel_rfl) ?hq5x5 ?hy5x5 hHeld ?rest5x5
  case hi5x5 => ((try simp only [List.getElem?_toArray, List.getElem?_cons_succ, List.getElem?_cons_zero]); (try rfl))
  case hq5x5 => exact fun _ _ _ h => h
  case hy5x5 => exact Or.inl ⟨by rfl, by intro w hSw; clear hSw; go_simp; try with_reducible rfl⟩
  try simp only [Act.put, List.setIfInBounds_toArray, List.set_cons_zero, List.set_cons_succ]
  refine wpAnyH_take (i := 6) (oi := ?oi6x6) (v := ?v6x6) ?hi6x6 (by kernel_rfl) (by kernel_rfl) (by kernel_rfl) ?hq6x6 ?hy6x6 hHeld ?rest6x6
  case hi6x6 => ((try simp only [List.getElem?_toArray, List.getElem?_cons_succ, List.getElem?_cons_zero]); (try rfl))
  case hq6x6 => exact fun _ _ _ h => h
  case hy6x6 => exact Or.inl ⟨by rfl, by intro w hSw; have q := (CX.rx hSw) 1 _ rfl; clear hSw; simp only [Nat.zero_add] at q; go_simp; try with_reducible rfl⟩
  try simp only [Act.put, List.setIfInBounds_toArray, List.set_cons_zero, List.set_cons_succ]
  refine wpAnyH_take (i := 7) (oi := ?oi7x7) (v := ?v7x7) ?hi7x7 (by kernel_rfl) (by kernel_rfl) (by kernel_rfl) ?hq7x7 ?hy7x7 hHeld ?rest7x7
  case hi7x7 => ((try simp only [List.getElem?_toArray, List.getElem?_cons_succ, List.getElem?_cons_zero]); (try rfl))
  case hq7x7 => exact fun _ _ _ h => h
  case hy7x7 => exact Or.inl ⟨by rfl, by intro w hSw; clear hSw; go_simp; try with_reducible rfl⟩
  try simp only [Act.put, List.setIfInBounds_toArray, List.set_cons_zero, List.set_cons_succ]
  refine wpAnyH_take (i := 8) (oi := ?oi8x8) (v := ?v8x8) ?hi8x8 (by kernel_rfl) (by kernel_rfl) (by kernel_rfl) ?hq8x8 ?hy8x8 hHeld ?rest8x8
  case hi8x8 => ((try simp only [List.getElem?_toArray, List.getElem?_cons_succ, List.getElem?_cons_zero]); (try rfl))
  case hq8x8 => exact fun _ _ _ h => h
  case hy8x8 => exact Or.inl ⟨by rfl, by intro w hSw; have q := (CX.ry hSw) 1 _ rfl; clear hSw; simp only [Nat.zero_add] at q; go_simp; try with_reducible rfl⟩
  try simp only [Act.put, List.setIfInBounds_toArray, List.set_cons_zero, List.set_cons_succ]
  refine wpAnyH_take (i := 10) (oi := ?oi10x9) (v := ?v10x9) ?hi10x9 (by kernel_rfl) (by kernel_rfl) (by kernel_rfl) ?hq10x9 ?hy10x9 hHeld ?rest10x9
  case hi10x9 => ((try simp only [List.getElem?_toArray, List.getElem?_cons_succ, List.getElem?_cons_zero]); (try rfl))
  case hq10x9 => exact fun _ _ _ h => h
  case hy10x9 => exact Or.inl ⟨by rfl, by intro w hSw; clear hSw; go_simp; try with_reducible rfl⟩
  try simp only [Act.put, List.setIfInBounds_toArray, List.set_cons_zero, List.set_cons_succ]
  refine wpAnyH_take (i := 11) (oi := ?oi11x10) (v := ?v11x10) ?hi11x10 (by kernel_rfl) (by kernel_rfl) (by kernel_rfl) ?hq11x10 ?hy11x10 hHeld ?rest11x10
  case hi11x10 => ((try simp only [List.getElem?_toArray, List.getElem?_cons_succ, List.getElem?_cons_zero]); (try rfl))
  case hq11x10 => exact fun _ _ _ h => h
  case hy11x10 => exact Or.inl ⟨by rfl, by intro w hSw; have q := (CX.rx hSw) 0 _ rfl; clear hSw; simp only [Nat.zero_add] at q; go_simp; try with_reducible rfl⟩
  try simp only [Act.put, List.setIfInBounds_toArray, List.set_cons_zero, List.set_cons_succ]
  refine wpAnyH_take (i := 12) (oi := ?oi12x11) (v := ?v12x11) ?hi12x11 (by kernel_rfl) (by kernel_rfl) (by kernel_rfl) ?hq12x11 ?hy12x11 hHeld ?rest12x11
  case hi12x11 => ((try simp only [List.getElem?_toArray, List.getElem?_cons_succ, List.getElem?_cons_zero]); (try rfl))
  case hq12x11 => exact fun _ _ _ h => h
  case hy12x11 => exact Or.inl ⟨by rfl, by intro w hSw; clear hSw; go_simp; try with_reducible rfl⟩
  try simp only [Act.put, List.setIfInBounds_toArray, List.set_cons_zero, List.set_cons_succ]
  refine wpAnyH_take (i := 13) (oi := ?oi13x12) (v := ?v13x12) ?hi13x12 (by kernel_rfl) (by kernel_rfl) (by kernel_rfl) ?hq13x12 ?hy13x12 hHeld ?rest13x12
  case hi13x12 => ((try simp only [List.getElem?_toArray, List.getElem?_cons_succ, List.getElem?_cons_zero]); (try rfl))
  case hq13x12 => exact fun _ _ _ h => h
  case hy13x12 => exact Or.inl ⟨by rfl, by intro w hSw; have q := (CX.ry hSw) 0 _ rfl; clear hSw; simp only [Nat.zero_add] at q; go_simp; try with_reducible rfl⟩
  try simp only [Act.put, List.setIfInBounds_toArray, List.set_cons_zero, List.set_cons_succ]
  refine wpAnyH_take (i := 15) (oi := ?oi15x13) (v := ?v15x13) ?hi15x13 (by kernel_rfl) (by kernel_rfl) (by kernel_rfl) ?hq15x13 ?hy15x13 hHeld ?rest15x13
  case hi15x13 => ((try simp only [List.getElem?_toArray, List.getElem?_cons_succ, List.getElem?_cons_zero]); (try rfl))
  case hq15x13 => exact fun _ _ _ h => h
  case hy15x13 => exact Or.inl ⟨by rfl, by intro w hSw; clear hSw; go_simp; try with_reducible rfl⟩
  try simp only [Act.put, List.setIfInBounds_toArray, List.set_cons_zero, List.set_cons_succ]
  refine wpAnyH_take (i := 16) (oi := ?oi16x14) (v := ?v16x14) ?hi16x14 (by kernel_rfl) (by kernel_rfl) (by kernel_rfl) ?hq16x14 ?hy16x14 hHeld ?rest16x14
  case hi16x14 => ((try simp only [List.getElem?_toArray, List.getElem?_cons_succ, List.getElem?_cons_zero]); (try rfl))
  case hq16x14 => exact fun _ _ _ h => h
  case hy16x14 => exact Or.inl ⟨by rfl, by intro w hSw; have q := (CX.rx hSw) 3 _ rfl; clear hSw; simp only [Nat.zero_add] at q; go_simp; try with_reducible rfl⟩
  try simp only [Act.put, List.setIfInBounds_toArray, List.set_cons_zero, List.set_cons_succ]
  refine wpAnyH_take (i := 17) (oi := ?oi17x15) (v := ?v17x15) ?hi17x15 (by kernel_rfl) (by kernel_rfl) (by kernel_rfl) ?hq17x15 ?hy17x15 hHeld ?rest17x15
  case hi17x15 => ((try simp only [List.getElem?_toArray, List.getElem?_cons_succ, List.getElem?_cons_zero]); (try rfl))
  case hq17x15 => exact fun _ _ _ h => h
  case hy17x15 => exact Or.inl ⟨by rfl, by intro w hSw; clear hSw; go_simp; try with_reducible rfl⟩
  try simp only [Act.put, List.setIfInBounds_toArray, List.set_cons_zero, List.set_cons_succ]
  refine wpAnyH_take (i := 18) (oi := ?oi18x16) (v := ?v18x16) ?hi18x16 (by kernel_rfl) (by kernel_rfl) (by kernel_rfl) ?hq18x16 ?hy18x16 hHeld ?rest18x16
  case hi18x16 => ((try simp only [List.getElem?_toArray, List.getElem?_cons_succ, List.getElem?_cons_zero]); (try rfl))
  case hq18x16 => exact fun _ _ _ h => h
  case hy18x16 => exact Or.inl ⟨by rfl, by intro w hSw; have q := (CX.ry hSw) 3 _ rfl; clear hSw; simp only [Nat.zero_add] at q; go_simp; try with_reducible rfl⟩
  try simp only [Act.put, List.setIfInBounds_toArray, List.set_cons_zero, List.set_cons_succ]
  refine wpAnyH_take (i := 20) (oi := ?oi20x17) (v := ?v20x17) ?hi20x17 (by kernel_rfl) (by kernel_rfl) (by kernel_rfl) ?hq20x17 ?hy20x17 hHeld ?rest20x17
  case hi20x17 => ((try simp only [List.getElem?_toArray, List.getElem?_cons_succ, List.getElem?_cons_zero]); (try rfl))
  case hq20x17 => exact fun _ _ _ h => h
  case hy20x17 => exact Or.inl ⟨by rfl, by intro w hSw; clear hSw; go_simp; try with_reducible rfl⟩
  try simp only [Act.put, List.setIfInBounds_toArray, List.set_cons_zero, List.set_cons_succ]
  refine wpAnyH_take (i := 21) (oi := ?oi21x18) (v := ?v21x18) ?hi21x18 (by kernel_rfl) (by kernel_rfl) (by kernel_rfl) ?hq21x18 ?hy21x18 hHeld ?rest21x18
  case hi21x18 => ((try simp only [List.getElem?_toArray, List.getElem?_cons_succ, List.getElem?_cons_zero]); (try rfl))
  case hq21x18 => exact fun _ _ _ h => h
  case hy21x18 => exact Or.inl ⟨by rfl, by intro w hSw; have q := (CX.rx hSw) 4 _ rfl; clear hSw; simp only [Nat.zero_add] at q; go_simp; try with_reducible rfl⟩
  try simp only [Act.put, List.setIfInBounds_toArray, List.set_cons_zero, List.set_cons_succ]
  refine wpAnyH_take (i := 22) (oi := ?oi22x19) (v := ?v22x19) ?hi22x19 (by kernel_rfl) (by kernel_rfl) (by kernel_rfl) ?hq22x19 ?hy22x19 hHeld ?rest22x19
  case hi22x19 => ((try simp only [List.getElem?_toArray, List.getElem?_cons_succ, List.getElem?_cons_zero]); (try rfl))
  case hq22x19 => exact fun _ _ _ h => h
  case hy22x19 => exact Or.inl ⟨by rfl, by intro w hSw; clear hSw; go_simp; try with_reducible rfl⟩
  try simp only [Act.put, List.setIfInBounds_toArray, List.set_cons_zero, List.set_cons_succ]
  refine wpAnyH_take (i := 23) (oi := ?oi23x20) (v := ?v23x20) ?hi23x20 (by kernel_rfl) (by kernel_rfl) (by kernel_rfl) ?hq23x20 ?hy23x20 hHeld ?rest23x20
  case hi23x20 => ((try simp only [List.getElem?_toArray, List.getElem?_cons_succ, List.getElem?_cons_zero]); (try rfl))
  case hq23x20 => exact fun _ _ _ h => h
  case hy23x20 => exact Or.inl ⟨by rfl, by intro w hSw; have q := (CX.ry hSw) 4 _ rfl; clear hSw; simp only [Nat.zero_add] at q; go_simp; try with_reducible rfl⟩
  try simp only [Act.put, List.setIfInBounds_toArray, List.set_cons_zero, List.set_cons_succ]
  refine wpAnyH_take (i := 25) (oi := ?oi25x21) (v := ?v25x21) ?hi25x21 (by kernel_rfl) (by kernel_rfl) (by kernel_rfl) ?hq25x21 ?hy25x21 hHeld ?rest25x21
  case hi25x21 => ((try simp only [List.getElem?_toArray, List.getElem?_cons_succ, List.getElem?_cons_zero]); (try rfl))
  case hq25x21 => exact fun _ _ _ h => h
  case hy25x21 => exact Or.inl ⟨by rfl, by intro w hSw; clear hSw; go_simp; try with_reducible rfl⟩
  try simp only [Act.put, List.setIfInBounds_toArray, List.set_cons_zero, List.set_cons_succ]
  refine wpAnyH_take (i := 26) (oi := ?oi26x22) (v := ?v26x22) ?hi26x22 (by kernel_rfl) (by kernel_rfl) (by kernel_rfl) ?hq26x22 ?hy26x22 hHeld ?rest26x22
  case hi26x22 => ((try simp only [List.getElem?_toArray, List.getElem?_cons_succ, List.getElem?_cons_zero]); (try rfl))
  case hq26x22 => exact fun _ _ _ h => h
  case hy26x22 => exact Or.inl ⟨by rfl, by intro w hSw; have q := (CX.rx hSw) 5 _ rfl; clear hSw; simp only [Nat.zero_add] at q; go_simp; try with_reducible rfl⟩
  try simp only [Act.put, List.setIfInBounds_toArray, List.set_cons_zero, List.set_cons_succ]
  refine wpAnyH_take (i := 27) (oi := ?oi27x23) (v := ?v27x23) ?hi27x23 (by kernel_rfl) (by kernel_rfl) (by kernel_rfl) ?hq27x23 ?hy27x23 hHeld ?rest27x23
  case hi27x23 => ((try simp only [List.getElem?_toArray, List.getElem?_cons_succ, List.getElem?_cons_zero]); (try rfl))
  case hq27x23 => exact fun _ _ _ h => h
  case hy27x23 => exact Or.inl ⟨by rfl, by intro w hSw; clear hSw; go_simp; try with_reducible rfl⟩
  try simp only [Act.put, List.setIfInBounds_toArray, List.set_cons_zero, List.set_cons_succ]
  refine wpAnyH_take (i := 28) (oi := ?oi28x24) (v := ?v28x24) ?hi28x24 (by kernel_rfl) (by kernel_rfl) (by kernel_rfl) ?hq28x24 ?hy28x24 hHeld ?rest28x24
  case hi28x24 => ((try simp only [List.getElem?_toArray, List.getElem?_cons_succ, List.getElem?_cons_zero]); (try rfl))
  case hq28x24 => exact fun _ _ _ h => h
  case hy28x24 => exact Or.inl ⟨by rfl, by intro w hSw; have q := (CX.ry hSw) 5 _ rfl; clear hSw; simp only [Nat.zero_add] at q; go_simp; try with_reducible rfl⟩
  try simp only [Act.put, List.setIfInBounds_toArray, List.set_cons_zero, List.set_cons_succ]
  refine wpAnyH_take (i := 30) (oi := ?oi30x25) (v := ?v30x25) ?hi30x25 (by kernel_rfl) (by kernel_rfl) (by kernel_rfl) ?hq30x25 ?hy30x25 hHeld ?rest30x25
  case hi30x25 => ((try simp only [List.getElem?_toArray, List.getElem?_cons_succ, List.getElem?_cons_zero]); (try rfl))
  case hq30x25 => exact fun _ _ _ h => h
  case hy30x25 => exact Or.inl ⟨by rfl, by intro w hSw; clear hSw; go_simp; try with_reducible rfl⟩
  try simp only [Act.put, List.setIfInBounds_toArray, List.set_cons_zero, List.set_cons_succ]
  refine wpAnyH_take (i := 31) (oi := ?oi31x26) (v := ?v31x26) ?hi31x26 (by kernel_rfl) (by kernel_rfl) (by kernel_rfl) ?hq31x26 ?hy31x26 hHeld ?rest31x26
  case hi31x26 => ((try simp only [List.getElem?_toArray, List.getElem?_cons_succ, List.getElem?_cons_zero]); (try rfl))
  case hq31x26 => exact fun _ _ _ h => h
  case hy31x26 => exact Or.inl ⟨by rfl, by intro w hSw; have q := (CX.rx hSw) 6 _ rfl; clear hSw; simp only [Nat.zero_add] at q; go_simp; try with_reducible rfl⟩
  try simp only [Act.put, List.setIfInBounds_toArray, List.set_cons_zero, List.set_cons_succ]
  refine wpAnyH_take (i := 32) (oi := ?oi32x27) (v := ?v32x27) ?hi32x27 (by kernel_rfl) (by kernel_rfl) (by kernel_rfl) ?hq32x27 ?hy32x27 hHeld ?rest32x27
  case hi32x27 => ((try simp only [List.getElem?_toArray, List.getElem?_cons_succ, List.getElem?_cons_zero]); (try rfl))
  case hq32x27 => exact fun _ _ _ h => h
  case hy32x27 => exact Or.inl ⟨by rfl, by intro w hSw; clear hSw; go_simp; try with_reducible rfl⟩
  try simp only [Act.put, List.setIfInBounds_toArray, List.set_cons_zero, List.set_cons_succ]
  refine wpAnyH_take (i := 33) (oi := ?oi33x28) (v := ?v33x28) ?hi33x28 (by kernel_rfl) (by kernel_rfl) (by kernel_rfl) ?hq33x28 ?hy33x28 hHeld ?rest33x28
  case hi33x28 => ((try simp only [List.getElem?_toArray, List.getElem?_cons_succ, List.getElem?_cons_zero]); (try rfl))
  case hq33x28 => exact fun _ _ _ h => h
  case hy33x28 => exact Or.inl ⟨by rfl, by intro w hSw; have q := (CX.ry hSw) 6 _ rfl; clear hSw; simp only [Nat.zero_add] at q; go_simp; try with_reducible rfl⟩
  try simp only [Act.put, List.setIfInBounds_toArray, List.set_cons_zero, List.set_cons_succ]
  refine wpAnyH_take (i := 35) (oi := ?oi35x29) (v := ?v35x29) ?hi35x29 (by kernel_rfl) (by kernel_rfl) (by kernel_rfl) ?hq35x29 ?hy35x29 hHeld ?rest35x29
  case hi35x29 => ((try simp only [List.getElem?_toArray, List.getElem?_cons_succ, List.getElem?_cons_zero]); (try rfl))
  case hq35x29 => exact fun _ _ _ h => h
  case hy35x29 => exact Or.inl ⟨by rfl, by intro w hSw; clear hSw; go_simp; try with_reducible rfl⟩
  try simp only [Act.put, List.setIfInBounds_toArray, List.set_cons_zero, List.set_cons_succ]
  refine wpAnyH_take (i := 36) (oi := ?oi36x30) (v := ?v36x30) ?hi36x30 (by kernel_rfl) (by kernel_rfl) (by kernel_rfl) ?hq36x30 ?hy36x30 hHeld ?rest36x30
  case hi36x30 => ((try simp only [List.getElem?_toArray, List.getElem?_cons_succ, List.getElem?_cons_zero]); (try rfl))
  case hq36x30 => exact fun _ _ _ h => h
  case hy36x30 => exact Or.inl ⟨by rfl, by intro w hSw; have q := (CX.rx hSw) 7 _ rfl; clear hSw; simp only [Nat.zero_add] at q; go_simp; try with_reducible rfl⟩
  try simp only [Act.put, List.setIfInBounds_toArray, List.set_cons_zero, List.set_cons_succ]
  refine wpAnyH_take (i := 37) (oi := ?oi37x31) (v := ?v37x31) ?hi37x31 (by kernel_rfl) (by kernel_rfl) (by kernel_rfl) ?hq37x31 ?hy37x31 hHeld ?rest37x31
  case hi37x31 => ((try simp only [List.getElem?_toArray, List.getElem?_cons_succ, List.getElem?_cons_zero]); (try rfl))
  case hq37x31 => exact fun _ _ _ h => h
  case hy37x31 => exact Or.inl ⟨by rfl, by intro w hSw; clear hSw; go_simp; try with_reducible rfl⟩
  try simp only [Act.put, List.setIfInBounds_toArray, List.set_cons_zero, List.set_cons_succ]
  refine wpAnyH_take (i := 38) (oi := ?oi38x32) (v := ?v38x32) ?hi38x32 (by kernel_rfl) (by kernel_rfl) (by kernel_rfl) ?hq38x32 ?hy38x32 hHeld ?rest38x32
  case hi38x32 => ((try simp only [List.getElem?_toArray, List.getElem?_cons_succ, List.getElem?_cons_zero]); (try rfl))
  case hq38x32 => exact fun _ _ _ h => h
  case hy38x32 => exact Or.inl ⟨by rfl, by intro w hSw; have q := (CX.ry hSw) 7 _ rfl; clear hSw; simp only [Nat.zero_add] at q; go_simp; try with_reducible rfl⟩
  try simp only [Act.put, List.setIfInBounds_toArray, List.set_cons_zero, List.set_cons_succ]
  refine wpAnyH_ready (rs := [4]) (by kernel_rfl) (by simp) ?_
  refine AllReadyH.cons rfl (fun K' hK => ?_) AllReadyH.nil
  have H1 := Lib.hid hHeld
  clear hHeld
  go_simp
  refine (cmp64_any _ _ _).mono ?_
  rintro e w9 ⟨rfl, rfl⟩
  refine hK.out _ _ H1.out (fun hHeld => ?_)
  clear hK H1
  try simp only [Act.put, List.setIfInBounds_toArray, List.set_cons_zero, List.set_cons_succ]
  refine wpAnyH_ready (rs := [9]) (by kernel_rfl) (by simp) ?_
  refine AllReadyH.cons rfl (fun K' hK => ?_) AllReadyH.nil
  have H1 := Lib.hid hHeld
  clear hHeld
  go_simp
  refine (cmpstr_any _ _ _).mono ?_
  rintro e w9 ⟨rfl, rfl⟩
  refine hK.out _ _ H1.out (fun hHeld => ?_)
  clear hK H1
  try simp only [Act.put, List.setIfInBounds_toArray, List.set_cons_zero, List.set_cons_succ]
  refine wpAnyH_ready (rs := [14]) (by kernel_rfl) (by simp) ?_
  refine AllReadyH.cons rfl (fun K' hK => ?_) AllReadyH.nil
  have H1 := Lib.hid hHeld
  clear hHeld
  go_simp
  refine (cmpstr_any _ _ _).mono ?_
  rintro e w9 ⟨rfl, rfl⟩
  refine hK.out _ _ H1.out (fun hHeld => ?_)
  clear hK H1
  try simp only [Act.put, List.setIfInBounds_toArray, List.set_cons_zero, List.set_cons_succ]
  refine wpAnyH_ready (rs := [19]) (by kernel_rfl) (by simp) ?_
  refine AllReadyH.cons rfl (fun K' hK => ?_) AllReadyH.nil
  have H1 := Lib.hid hHeld
  clear hHeld
  go_simp
  refine (cmp64_any _ _ _).mono ?_
  rintro e w9 ⟨rfl, rfl⟩
  refine hK.out _ _ H1.out (fun hHeld => ?_)
  clear hK H1
  try simp only [Act.put, List.setIfInBounds_toArray, List.set_cons_zero, List.set_cons_succ]
  refine wpAnyH_ready (rs := [24]) (by kernel_rfl) (by simp) ?_
  refine AllReadyH.cons rfl (fun K' hK => ?_) AllReadyH.nil
  have H1 := Lib.hid hHeld
  clear hHeld
  go_simp
  refine (cmp64_any _ _ _).mono ?_
  rintro e w9 ⟨rfl, rfl⟩
  refine hK.out _ _ H1.out (fun hHeld => ?_)
  clear hK H1
  try simp only [Act.put, List.setIfInBounds_toArray, List.set_cons_zero, List.set_cons_succ]
  refine wpAnyH_ready (rs := [29]) (by kernel_rfl) (by simp) ?_
  refine AllReadyH.cons rfl (fun K' hK => ?_) AllReadyH.nil
  have H1 := Lib.hid hHeld
  clear hHeld
  go_simp
  refine (cmp64_any _ _ _).mono ?_
  rintro e w9 ⟨rfl, rfl⟩
  refine hK.out _ _ H1.out (fun hHeld => ?_)
  clear hK H1
  try simp only [Act.put, List.setIfInBounds_toArray, List.set_cons_zero, List.set_cons_succ]
  refine wpAnyH_ready (rs := [34]) (by kernel_rfl) (by simp) ?_
  refine AllReadyH.cons rfl (fun K' hK => ?_) AllReadyH.nil
  have H1 := Lib.hid hHeld
  clear hHeld
  go_simp
  refine (cmpint_any _ _ _).mono ?_
  rintro e w9 ⟨rfl, rfl⟩
  refine hK.out _ _ H1.out (fun hHeld => ?_)
  clear hK H1
  try simp only [Act.put, List.setIfInBounds_toArray, List.set_cons_zero, List.set_cons_succ]
  refine wpAnyH_ready (rs := [39]) (by kernel_rfl) (by simp) ?_
  refine AllReadyH.cons rfl (fun K' hK => ?_) AllReadyH.nil
  have H1 := Lib.hid hHeld
  clear hHeld
  go_simp
  refine (cmpbyte_any _ _ _).mono ?_
  rintro e w9 ⟨rfl, rfl⟩
  refine hK.out _ _ H1.out (fun hHeld => ?_)
  clear hK H1
  try simp only [Act.put, List.setIfInBounds_toArray, List.set_cons_zero, List.set_cons_succ]
  refine wpAnyH_ready (rs := [40]) (by kernel_rfl) (by simp) ?_
  refine AllReadyH.cons rfl (fun K' hK => ?_) AllReadyH.nil
  have H1 := Lib.hid hHeld
  clear hHeld
  go_simp
  refine hK.out _ _ (H1.out.alloc _) (fun hHeld => ?_)
  clear hK H1
  try simp only [Act.put, List.setIfInBounds_toArray, List.set_cons_zero, List.set_cons_succ]
  refine wpAnyH_ready (rs := [41]) (by kernel_rfl) (by simp) ?_
  refine AllReadyH.cons rfl (fun K' hK => ?_) AllReadyH.nil
  have H1 := Lib.hid hHeld
  clear hHeld
  go_simp
  refine (OR.out _ _ ?ro).mono ?_
  case ro => exact row3 _ _ _ (cmpC ⟨n0, s0, t0, r0, d0, g0, m0, b0⟩ ⟨n1, s1, t1, r1, d1, g1, m1, b1⟩) _
  rintro e w9 ⟨rfl, rfl⟩
  refine hK.out _ _ H1.out (fun hHeld => ?_)
  clear hK H1 OR
  try simp only [Act.put, List.setIfInBounds_toArray, List.set_cons_zero, List.set_cons_succ]
  refine wpAnyH_take (i := 42) (oi := ?oi42x33) (v := ?v42x33) ?hi42x33 (by kernel_rfl) (by kernel_rfl) (by kernel_rfl) ?hq42x33 ?hy42x33 hHeld ?rest42x33
  case hi42x33 => ((try simp only [List.getElem?_toArray, List.getElem?_cons_succ, List.getElem?_cons_zero]); (try rfl))
  case hq42x33 => exact fun _ _ _ h => h
  case hy42x33 => exact Or.inl ⟨by rfl, by intro w hSw; clear hSw; go_simp; try with_reducible rfl⟩
  try simp only [Act.put, List.setIfInBounds_toArray, List.set_cons_zero, List.set_cons_succ]
  refine wpAnyH_done (by kernel_rfl) ?_ _
  have XF := Lib.hid hHeld.at_
  clear hHeld
  go_wp2_with fail
  go_ret
  exact ⟨rfl, XF.out⟩
end Ow
end Go.Proofs.YtaghilgfldaaiaaGreatDoor
/-
  Plain law of observations: the plan of the law ObsBack: what is read from a line has a line; no walk here.
-/
namespace Go.Proofs.YtaghilgfldaaiaaGreatDoor
namespace Op
open Go.RowKit Lw Go.Proofs.YtaghilgfldaaiaaGreatDoor.Ap Go.Proofs.YtaghilgfldaaiaaGreatDoor.Mp Go.Proofs.YtaghilgfldaaiaaGreatDoor.At Go.Proofs.YtaghilgfldaaiaaGreatDoor.Ow Go.Proofs.YtaghilgfldaaiaaGreatDoor.Mw

/-! ### Columns as lists -/
abbrev sl (s : ByteArray) (i j : Nat) : List UInt8 := (s.extract i j).data.toList
end Op
end Go.Proofs.YtaghilgfldaaiaaGreatDoor
/-
  The library contract of a sort, laid at this program.
-/
namespace Go.Proofs
open Go.Shelf
def Tryz.sortRec_ren : Go.Shelf.Ren := ⟨fun | 6 => 66 | 15 => 112 | 14 => 111 | 28 => 166 | 29 => 167 | 20 => 158 | 21 => 159 | 22 => 160 | 23 => 161 | 24 => 162 | 25 => 163 | 26 => 164 | 27 => 165 | 46 => 196 | 47 => 197 | 48 => 198 | 49 => 199 | 50 => 200 | 57 => 216 | n => n, fun | 22 => 107 | 24 => 108 | 25 => 110 | 3 => 3 | 39 => 150 | 0 => 0 | 53 => 179 | 55 => 181 | 4 => 4 | 46 => 173 | 45 => 172 | 50 => 123 | 5 => 5 | 9 => 9 | 66 => 197 | 70 => 201 | 76 => 219 | 77 => 220 | n => n, fun n => n⟩
theorem Tryz.sortRec : Go.Proofs.SlLaysF0.n6 Tryz.prog Tryz.sortRec_ren := {
  mixed := by kernel_rfl
  f6 := ⟨Tryz.f66.name, by decide, Tryz.func66.trans (congrArg some (by kernel_rfl))⟩
  f14 := ⟨Tryz.f111.name, by decide, Tryz.func111.trans (congrArg some (by kernel_rfl))⟩
  f15 := Tryz.func112.trans (congrArg some (by kernel_rfl))
  f20 := ⟨Tryz.f158.name, by decide, Tryz.func158.trans (congrArg some (by kernel_rfl))⟩
  f21 := ⟨Tryz.f159.name, by decide, Tryz.func159.trans (congrArg some (by kernel_rfl))⟩
  f22 := ⟨Tryz.f160.name, by decide, Tryz.func160.trans (congrArg some (by kernel_rfl))⟩
  f23 := ⟨Tryz.f161.name, by decide, Tryz.func161.trans (congrArg some (by kernel_rfl))⟩
  f24 := ⟨Tryz.f162.name, by decide, Tryz.func162.trans (congrArg some (by kernel_rfl))⟩
  f25 := ⟨Tryz.f163.name, by decide, Tryz.func163.trans (congrArg some (by kernel_rfl))⟩
  f26 := ⟨Tryz.f164.name, by decide, Tryz.func164.trans (congrArg some (by kernel_rfl))⟩
  f27 := ⟨Tryz.f165.name, by decide, Tryz.func165.trans (congrArg some (by kernel_rfl))⟩
  f28 := Tryz.func166.trans (congrArg some (by kernel_rfl))
  f29 := Tryz.func167.trans (congrArg some (by kernel_rfl))
  f46 := ⟨Tryz.f196.name, by decide, Tryz.func196.trans (congrArg some (by kernel_rfl))⟩
  f47 := Tryz.func197.trans (congrArg some (by kernel_rfl))
  f48 := Tryz.func198.trans (congrArg some (by kernel_rfl))
  f49 := ⟨Tryz.f199.name, by decide, Tryz.func199.trans (congrArg some (by kernel_rfl))⟩
  f50 := ⟨Tryz.f200.name, by decide, Tryz.func200.trans (congrArg some (by kernel_rfl))⟩
  f57 := ⟨Tryz.f216.name, by decide, Tryz.func216.trans (congrArg some (by kernel_rfl))⟩
  t0 := Tryz.underlying0
  a0 := Tryz.isAgg0
  z0 := Tryz.sizeOf0
  v0 := Tryz.zeroValue0
  t3 := Tryz.underlying3
  a3 := Tryz.isAgg3
  z3 := Tryz.sizeOf3
  v3 := Tryz.zeroValue3
  t4 := Tryz.underlying4
  a4 := Tryz.isAgg4
  z4 := Tryz.sizeOf4
  v4 := Tryz.zeroValue4
  t5 := Tryz.underlying5
  a5 := Tryz.isAgg5
  z5 := Tryz.sizeOf5
  v5 := Tryz.zeroValue5
  t9 := Tryz.underlying9
  a9 := Tryz.isAgg9
  z9 := Tryz.sizeOf9
  v9 := Tryz.zeroValue9
  t22 := Tryz.underlying107
  a22 := Tryz.isAgg107
  z22 := Tryz.sizeOf107
  v22 := Tryz.zeroValue107
  t25 := Tryz.underlying110
  a25 := Tryz.isAgg110
  z25 := Tryz.sizeOf110
  v25 := Tryz.zeroValue110
  t39 := Tryz.underlying150
  a39 := Tryz.isAgg150
  z39 := Tryz.sizeOf150
  v39 := Tryz.zeroValue150
  t45 := Tryz.underlying172
  a45 := Tryz.isAgg172
  z45 := Tryz.sizeOf172
  v45 := Tryz.zeroValue172
  t46 := Tryz.underlying173
  a46 := Tryz.isAgg173
  z46 := Tryz.sizeOf173
  v46 := Tryz.zeroValue173
  t50 := Tryz.underlying123
  a50 := Tryz.isAgg123
  z50 := Tryz.sizeOf123
  v50 := Tryz.zeroValue123
  t53 := Tryz.underlying179
  a53 := Tryz.isAgg179
  z53 := Tryz.sizeOf179
  v53 := Tryz.zeroValue179
  t55 := Tryz.underlying181
  a55 := Tryz.isAgg181
  z55 := Tryz.sizeOf181
  v55 := Tryz.zeroValue181
  t66 := Tryz.underlying197
  a66 := Tryz.isAgg197
  z66 := Tryz.sizeOf197
  v66 := Tryz.zeroValue197
  t70 := Tryz.underlying201
  a70 := Tryz.isAgg201
  z70 := Tryz.sizeOf201
  v70 := Tryz.zeroValue201
  t76 := Tryz.underlying219
  a76 := Tryz.isAgg219
  z76 := Tryz.sizeOf219
  v76 := Tryz.zeroValue219
  t77 := Tryz.underlying220
  a77 := Tryz.isAgg220
  z77 := Tryz.sizeOf220
  v77 := Tryz.zeroValue220 }
end Go.Proofs
/-
  slices.SortFunc at records of observations.
-/
namespace Go.Proofs.YtaghilgfldaaiaaGreatDoor
namespace Ow
open Go.RowKit Lw Go.Proofs.YtaghilgfldaaiaaGreatDoor.Ap Go.Proofs.YtaghilgfldaaiaaGreatDoor.Op Go.Proofs.YtaghilgfldaaiaaGreatDoor.Mp Go.Proofs.YtaghilgfldaaiaaGreatDoor.Mw Go.Proofs.YtaghilgfldaaiaaGreatDoor.At Go.Sort Go.Lib

theorem lt_cmp (x y : Ob) : ltOf cmpO x y = decide (cmpO x y < 0) := rfl
theorem swo_O : SWO (ltOf cmpO) where
  irrefl x := by rw [lt_cmp, cmpO_refl]; rfl
  trans x y z h1 h2 := by
    rw [lt_cmp] at *
    have h1 := of_decide_eq_true h1
    have h2 := of_decide_eq_true h2
    exact decide_eq_true (cmp_O.lt_le h1 (by omega))
  ntrans x y z h1 h2 := by
    rw [lt_cmp] at *
    have h1 := of_decide_eq_false h1
    have h2 := of_decide_eq_false h2
    have e1 := cmp_O.anti x y
    have e2 := cmp_O.anti y z
    have e3 := cmp_O.anti x z
    have := cmp_O.trans z y x (by omega) (by omega)
    exact decide_eq_false (by omega)
/-- The cells of a row that the call owns. -/
theorem holds_own {w : World} {B g cap : Nat} {l : List Ob} (h : OwnR w B (.slice (some ⟨g, 0, none⟩) l.length cap) l) (hn : l ≠ []) : HoldsK obsC 8 w g 0 l.toArray := by
  obtain ⟨⟨h1, h2⟩, _⟩ := h
  have hlt := h1
  rcases h2 with ⟨hv, hn0⟩ | ⟨g', cap', cur, hv, hb, hh, hc1, hc2, hs, ht⟩
  · exact absurd (List.length_eq_zero_iff.1 hn0) hn
  · have eg : g = g' := by
      have := congrArg (fun v => match v with | Value.slice (some a) _ _ => a.block | _ => 0) hv
      exact this
    subst eg
    intro t ht'
    rw [size_flatK] at ht'
    have z : l.toArray.size = l.length := by simp
    rw [z] at ht'
    have hi : t / 8 < l.length := by omega
    have e1 : (flatK obsC 8 l.toArray)[t]! = (obsC l[t / 8])[t % 8]! := by
      rw [get_flatK _ _ _ _ (by rw [z]; exact ht')]
      congr 2
      rw [getElem!_pos l.toArray (t / 8) (by rw [z]; exact hi)]
      simp
    have hj : t % 8 < (obsC l[t / 8]).length := by show t % 8 < 8; omega
    have e2 : (obsC l[t / 8])[t % 8]? = some ((obsC l[t / 8])[t % 8]!) := by
      rw [getElem!_pos (obsC l[t / 8]) (t % 8) hj]; exact List.getElem?_eq_getElem hj
    have e3 := flatO_get hi e2
    rw [show t / 8 * 8 + t % 8 = t by omega] at e3
    have e4 : cur[t]? = some ((obsC l[t / 8])[t % 8]!) := by
      rw [← ht] at e3
      rw [List.getElem?_take_of_lt (by omega)] at e3
      rwa [Array.getElem?_toList] at e3
    rw [e1, Nat.zero_add]
    refine ⟨?_, ?_⟩
    · unfold World.cell?
      rw [hh]
      simpa using e4
    · exact Lib.frozen_of_heap hh t
theorem obs_holds {w : World} {g : Nat} {d : Array Ob} (h : HoldsK obsC 8 w g 0 d) : ObsAt w g 0 d.toList := fun i hi j v hv => by
  have hi' : i < d.size := by simpa using hi
  have hj : j < 8 := by
    have := (List.getElem?_eq_some_iff.1 hv).1
    exact this
  have := (h.cell hi' hj).1
  rw [this]
  have e : d[i]! = d.toList[i] := by rw [getElem!_pos d i hi']; simp
  rw [e]
  have hj2 : j < (obsC d.toList[i]).length := hj
  rw [getElem!_pos (obsC d.toList[i]) j hj2]
  rw [List.getElem?_eq_getElem hj2] at hv
  exact hv
theorem below_sorted (w : World) (B g n : Nat) (d : Array Ob) (os : Array Obj) (hg : B ≤ g) (hB : B ≤ w.heap.size) : Below B w (sortWorldK obsC 8 w g 0 n d os) := by
  refine ⟨rfl, rfl, rfl, ?_, fun k hk => ?_⟩
  · show w.heap.size ≤ ((putRowK obsC 8 (Go.Sort.ahead w n) g 0 d).heap ++ os).size
    rw [Array.size_append]
    have : (putRowK obsC 8 (Go.Sort.ahead w n) g 0 d).heap.size = w.heap.size := by unfold putRowK; rw [size_putRow]; rfl
    omega
  · show ((putRowK obsC 8 (Go.Sort.ahead w n) g 0 d).heap ++ os)[k]? = w.heap[k]?
    have z : (putRowK obsC 8 (Go.Sort.ahead w n) g 0 d).heap.size = w.heap.size := by unfold putRowK; rw [size_putRow]; rfl
    rw [Array.getElem?_append_left (by omega)]
    unfold putRowK putRow mapBlock
    simp only [Array.getElem?_modify]
    rw [if_neg (by omega)]
    rfl
/-- SortFunc at a row of the call's own. -/
theorem sort_rec (B g cap : Nat) (l : List Ob) (w : World) (h : OwnR w B (.slice (some ⟨g, 0, none⟩) l.length cap) l) (hn : l ≠ []) (hg : B ≤ g) (lt : g < w.heap.size) (hl : l.length ≤ 1000000) :
    Calls Tryz.prog 66 #[.slice (some ⟨g, 0, none⟩) l.length cap, .func (.func 67) #[] #[]] w fun e w' => e = .returned (.tuple #[]) ∧ ∃ x, x.Perm l ∧ ordL x ∧ ObsAt w' g 0 x ∧ g < w'.heap.size ∧ Below B w w' := by
  have eg : ∀ args w, (callFunc 67 args).run Tryz.prog w = .ok (.enter 67 args) w := enters_of Tryz.func67 (by kernel_rfl) rfl
  have H := holds_own h hn
  have hc := AnyQ.slices_SortFunc Tryz.sortRec 8 Tryz.isAgg108 Tryz.sizeOf108 obsC (fun _ => rfl) (fun x => obsC_one x) cmpO swo_O 67 #[] g 0 cap l.toArray w eg (fun m os dk hs x y => compare_any x y _) H lt (by simp; omega)
  have z : l.toArray.size = l.length := by simp
  rw [z] at hc
  refine hc.mono ?_
  rintro e w' ⟨rfl, d', n, os, hp, hs, rfl⟩
  obtain ⟨p1, _, p2⟩ := hp
  have e1 : d'.extract 0 l.length = d' := by rw [← z, ← p1]; exact Array.extract_size
  have e2 : l.toArray.extract 0 l.length = l.toArray := by rw [← z]; exact Array.extract_size
  rw [e1, e2] at p2
  have hd := holdsK_sortWorldK obsC 8 w g 0 n l.toArray d' os lt H p1
  refine ⟨rfl, d'.toList, by simpa using p2, ?_, obs_holds hd, lt_sortWorldK obsC 8 w g 0 n d' os lt, below_sorted w B g n d' os hg h.2⟩
  unfold ordL
  rw [List.pairwise_iff_getElem]
  intro i j hi hj hij
  have hi' : i < d'.size := by simpa using hi
  have hj' : j < d'.size := by simpa using hj
  have := hs i j (Nat.zero_le _) hij (by rw [p1, z] at hj'; exact hj')
  rw [getElem!_pos d' j hj', getElem!_pos d' i hi', lt_cmp] at this
  have := of_decide_eq_false this
  have e3 := cmp_O.anti d'[i] d'[j]
  show cmpO d'.toList[i] d'.toList[j] ≤ 0
  simp only [Array.getElem_toList]
  omega
end Ow
end Go.Proofs.YtaghilgfldaaiaaGreatDoor
/-
  The walk of Sort of obs.
-/
namespace Go.Proofs.YtaghilgfldaaiaaGreatDoor
namespace Ow
open Go.RowKit Lw Go.Proofs.YtaghilgfldaaiaaGreatDoor.Ap Go.Proofs.YtaghilgfldaaiaaGreatDoor.Op Go.Proofs.YtaghilgfldaaiaaGreatDoor.Mp Go.Proofs.YtaghilgfldaaiaaGreatDoor.Mw Go.Proofs.YtaghilgfldaaiaaGreatDoor.At

theorem sort_own (B : Nat) (v : Value) (l : List Ob) (w : World) (h : OwnR w B v l) (hl : l.length ≤ 1000000) :
    Calls Tryz.prog 66 #[v, .func (.func 67) #[] #[]] w fun e w' => e = .returned (.tuple #[]) ∧ ∃ x, x.Perm l ∧ ordL x ∧ SlV w' v x ∧ Below B w w' := by
  rcases owns_form h.1 with ⟨rfl, rfl⟩ | ⟨g, cap, rfl, hg, lt, _⟩
  · refine (AnyF.slices_SortFunc_none Tryz.sortRec none 0 _ w).mono ?_
    rintro e w' ⟨rfl, rfl⟩
    exact ⟨rfl, [], List.Perm.refl _, List.Pairwise.nil, SlV.nil _, Below.refl _ _⟩
  · by_cases hn : l = []
    · subst hn
      refine (AnyF.slices_SortFunc_none Tryz.sortRec (some ⟨g, 0, none⟩) cap _ w).mono ?_
      rintro e w' ⟨rfl, rfl⟩
      exact ⟨rfl, [], List.Perm.refl _, List.Pairwise.nil, ⟨_, cap, rfl, Or.inl rfl⟩, Below.refl _ _⟩
    · refine (sort_rec B g cap l w h hn hg lt hl).mono ?_
      rintro e w' ⟨rfl, x, hp, ho, hx, lt', hb⟩
      exact ⟨rfl, x, hp, ho, ⟨some ⟨g, 0, none⟩, cap, by rw [hp.length_eq], Or.inr ⟨g, 0, rfl, lt', hx⟩⟩, hb⟩
def SortPost (l : List Ob) (w : World) (e : Ending) (w' : World) : Prop := ∃ (v : Value) (x : List Ob) (c : Int), e = .returned (.tuple #[v, .int .i64 c]) ∧ SortIs l x c ∧ SlV w' v x ∧ Below w.heap.size w w'
theorem take_snocO {l : List Ob} {k : Nat} (h : k < l.length) : l.take (k + 1) = l.take k ++ [l[k]] := List.take_succ_eq_append_getElem h
theorem infoR8 : (Tryz.prog.info? 108).map (·.size) = some 8 := by kernel_rfl
set_option maxRecDepth 100000 in
set_option maxHeartbeats 16000000 in
theorem sort_any (x : Option Addr) (cap : Nat) (l : List Ob) (w : World) (hE : ES w) (hl : SlA w x l) (hm : l.length ≤ 1000000) (hb : OBs l) :
    Calls Tryz.prog 32 #[.slice x l.length cap] w (SortPost l w) := by
  have HL := Lib.hid (fun w' (h : Below w.heap.size w w') => hl.below h)
  have CA := Lib.hid (checkall_any x cap l w hE hl hm hb)
  obtain ⟨n, hnl⟩ : ∃ n, l.length = n := ⟨_, rfl⟩
  by_cases hz : allC l = 0
  · have n5 : n ≤ 500 := by have := (allC_ok hz).1; omega
    have FIN : Hid (∀ x, x.Perm l → ordL x → SortIs l x 0) := Lib.hid (fun x h g => Or.inl ⟨hz, h, g, rfl⟩)
    rw [hz] at CA
    rw [hnl] at CA ⊢
    have NL := Lib.hid hnl
    clear hl hE hb hnl hz hm
    go_enter Tryz.func32, Tryz.ntmps32
    go_wp2_with fail
    refine CA.out.mono ?_
    rintro e w1 ⟨rfl, hb1⟩
    have B1 := Lib.hid hb1
    clear hb1 CA
    go_wp2_with fail
    go_loopw [5, 18] (fun v i wr => ∃ k : Nat, k ≤ n ∧ i = .int .i64 k ∧ Hid (OwnR wr w.heap.size v (l.take k)) ∧ Hid (Below w.heap.size w wr)) (fun _ i _ => n - (intOf i).toNat)
    case atStart => exact ⟨0, Nat.zero_le _, rfl, Lib.hid (OwnR.nil w1 _ B1.out.size), B1⟩
    case round =>
      obtain ⟨k, hk, rfl, O, B⟩ := hrel
      clear B1
      by_cases hlt : k < n
      · have hkl : k < l.length := by rw [NL.out]; exact hlt
        obtain ⟨b, off, rfl, lt, row⟩ := (HL.out _ B.out).get hkl
        have R := Lib.hid (row k hkl)
        have TK := Lib.hid (take_snocO hkl)
        have i1 : (k : Int) < (n : Int) := by omega
        have zl : (l.take k).length ≤ 1000000 := by rw [List.length_take]; omega
        clear row lt FIN
        generalize l[k]'hkl = o at *
        have bx := (Below.refl wr.heap.size wr).alloc (Nat.le_refl _) (.cells (obsC o).toArray 33)
        have X0 := Lib.hid (Box.new wr o)
        have B1 := Lib.hid (below_then B.out bx)
        have O1 := Lib.hid (O.out.below bx)
        clear B bx O
        go_wp2_with (first | (refine wpList_store_new rfl _ (.tmp 7) (.tmp 21) rfl _ _ rfl rfl info8 rfl ?_ ?_; simp [Value.oneCell']) | (refine wpList_load_mid rfl _ (.tmp 20) rfl b (off + k * 8) rfl (obsC o) _ R.out Tryz.underlying33 rfl info8 ?_) | (refine wpList_load_mid rfl _ (.tmp 7) rfl wr.heap.size 0 rfl (obsC o) _ X0.out.row Tryz.underlying33 rfl info8 ?_) | (at_builtin; refine wp_appR _ rfl (.tmp 22) (.tmp 24) rfl w.heap.size _ (l.take k) o rfl (by first | rfl | simp [Act.eval]) O1.out zl ?_; intro v' w3 hO3 hb3))
        have B3 := Lib.hid (B1.out.trans hb3)
        have O3 := Lib.hid (show OwnR w3 w.heap.size v' (l.take (k + 1)) by rw [TK.out]; exact hO3)
        clear hO3 hb3 B1 O1 X0 R TK
        go_wp2_with fail
        go_roundw
        case rel => exact ⟨k + 1, by omega, by go_num, O3, B3⟩
        case measure => simp [intOf]; omega
      · obtain rfl : k = n := by omega
        have tk : l.take k = l := by rw [← NL.out, List.take_length]
        have O1 := O.out
        rw [tk] at O1
        have ST := Lib.hid (sort_own w.heap.size _ l wr O1 (by have := NL.out; omega))
        clear HL O tk O1
        go_wp2_with fail
        refine ST.out.mono ?_
        rintro e w4 ⟨rfl, y, hp, ho, hv, hb4⟩
        have F := Lib.hid (FIN.out y hp ho)
        have zy : y.length = k := by rw [hp.length_eq]; exact NL.out
        obtain ⟨ya, yc, rfl, hy⟩ := hv
        have B4 := Lib.hid (B.out.trans hb4)
        have YL := Lib.hid (fun w' (h : Below w4.heap.size w4 w') => hy.below h)
        clear hp ho hy hb4 B ST FIN
        rw [zy]
        have ZY := Lib.hid zy
        have NI := Lib.hid (OwnO.nil w4 w4.heap.size (Nat.le_refl _))
        clear zy
        go_wp2_with fail
        go_loopw [8, 31] (fun v i wr => ∃ j : Nat, j ≤ k ∧ i = .int .i64 j ∧ Hid (OwnO wr w4.heap.size v (y.take j)) ∧ Hid (Below w4.heap.size w4 wr)) (fun _ i _ => k - (intOf i).toNat)
        case atStart => exact ⟨0, Nat.zero_le _, rfl, NI, Lib.hid (Below.refl _ _)⟩
        case round =>
          obtain ⟨j, hj, rfl, O, B⟩ := hrel
          by_cases hlt2 : j < k
          · have hjl : j < y.length := by rw [ZY.out]; exact hlt2
            obtain ⟨b, off, rfl, lt, row⟩ := (YL.out _ B.out).get hjl
            have R := Lib.hid (row j hjl)
            have TK := Lib.hid (take_snocO hjl)
            have i1 : (j : Int) < (k : Int) := by omega
            have zl : (y.take j).length ≤ 1000000 := by rw [List.length_take]; omega
            clear row lt F
            generalize y[j]'hjl = o at *
            have bx := (Below.refl wr.heap.size wr).alloc (Nat.le_refl _) (.cells (obsC o).toArray 108)
            have X0 := Lib.hid (show (wr.alloc (.cells (obsC o).toArray 108)).rangeAt wr.heap.size 0 (obsC o) from rangeAt_new wr _ _)
            have B1 := Lib.hid (below_then B.out bx)
            have O1 := Lib.hid (O.out.below bx)
            clear B bx O
            go_wp2_with (first | (refine wpList_store_new rfl _ (.tmp 10) (.tmp 34) rfl _ _ rfl rfl infoR8 rfl ?_ ?_; simp [Value.oneCell']) | (refine wpList_load_mid rfl _ (.tmp 33) rfl b (off + j * 8) rfl (obsC o) _ R.out Tryz.underlying108 rfl infoR8 ?_) | (refine wpList_load_mid rfl _ (.tmp 10) rfl wr.heap.size 0 rfl (obsC o) _ X0.out Tryz.underlying108 rfl infoR8 ?_) | (at_builtin; refine wp_app _ rfl (.tmp 35) (.tmp 37) rfl w4.heap.size _ (y.take j) o rfl (by first | rfl | simp [Act.eval]) O1.out zl ?_; intro v' w3 hO3 hb3))
            have B3 := Lib.hid (B1.out.trans hb3)
            have O3 := Lib.hid (show OwnO w3 w4.heap.size v' (y.take (j + 1)) by rw [TK.out]; exact hO3)
            clear hO3 hb3 B1 O1 X0 R TK
            go_wp2_with fail
            go_roundw
            case rel => exact ⟨j + 1, by omega, by go_num, O3, B3⟩
            case measure => simp [intOf]; omega
          · obtain rfl : j = k := by omega
            have tk : y.take j = y := by rw [← ZY.out, List.take_length]
            have O1 := O.out.1
            rw [tk] at O1
            have SV := Lib.hid (slV_of O1)
            have B5 := Lib.hid (below_then B4.out B.out)
            clear YL O O1 tk B B4
            go_wp2_with fail
            go_ret2
            exact ⟨_, y, 0, rfl, F.out, SV.out, B5.out⟩
  · have FIN := Lib.hid (show SortIs l [] (allC l) from Or.inr ⟨hz, rfl, rfl⟩)
    have hnz : (allC l != 0) = true := by rw [bne, beq_eq_false_iff_ne.2 hz]; rfl
    clear hl hE hb hnl hm HL hz
    generalize allC l = K at *
    go_enter Tryz.func32, Tryz.ntmps32
    go_wp2_with fail
    refine CA.out.mono ?_
    rintro e w1 ⟨rfl, hb1⟩
    have B1 := Lib.hid hb1
    clear hb1 CA
    go_wp2_with fail
    go_ret2
    exact ⟨_, [], K, rfl, FIN.out, SlV.nil _, B1.out⟩
end Ow
end Go.Proofs.YtaghilgfldaaiaaGreatDoor
/-
  The walk of Sort of the reference.
-/
namespace Go.Proofs.YtaghilgfldaaiaaGreatDoor
namespace Ow
open Go.RowKit Lw Go.Proofs.YtaghilgfldaaiaaGreatDoor.Ap Go.Proofs.YtaghilgfldaaiaaGreatDoor.Op Go.Proofs.YtaghilgfldaaiaaGreatDoor.Mp Go.Proofs.YtaghilgfldaaiaaGreatDoor.Mw Go.Proofs.YtaghilgfldaaiaaGreatDoor.At

theorem OBs.perm {y l : List Ob} (h : OBs l) (p : y.Perm l) : OBs y := fun i hi => by
  have := p.subset (List.getElem_mem hi)
  obtain ⟨k, hk, e⟩ := List.getElem_of_mem this
  rw [← e]; exact h k hk
end Ow
end Go.Proofs.YtaghilgfldaaiaaGreatDoor
/-
  What the law ObsNames needs of slices of zero observations and of files of lines; no walk here.
-/
namespace Go.Proofs.YtaghilgfldaaiaaGreatDoor
namespace Ow
open Go.RowKit Lw Go.Proofs.YtaghilgfldaaiaaGreatDoor.Ap Go.Proofs.YtaghilgfldaaiaaGreatDoor.Op Go.Proofs.YtaghilgfldaaiaaGreatDoor.Mp Go.Proofs.YtaghilgfldaaiaaGreatDoor.Mw Go.Proofs.YtaghilgfldaaiaaGreatDoor.At

def zQ : Ob := ⟨⟨#[]⟩, ⟨#[]⟩, 0, 0, 0, 0, 0, 0⟩
def zC (n : Nat) : Array Value := madeCells (obsC zQ).toArray (n * 8)
theorem info8f : (Tryz.prog.info? 33).map (fun i => (i.zero, i.size, i.bytes)) = some (some (.agg (obsC zQ).toArray), 8, 80) := by kernel_rfl
theorem make_O (n : Nat) (hn : n ≤ 2000) (w : World) : (Instr.makeSlice 22 (.int .i64 (n : Int)) (.int .i64 (n : Int))).run Tryz.prog w = .ok (.slice (some ⟨w.heap.size, 0, none⟩) n n) (w.alloc (.cells (zC n) 33)) := by
  obtain ⟨i, hi, hzz⟩ := Option.map_eq_some_iff.1 info8f
  simp only [Prod.mk.injEq] at hzz
  obtain ⟨hz, hs, hb⟩ := hzz
  have h := run_make (P := Tryz.prog) w 22 33 i _ Tryz.underlying22 hi hz .i64 .i64 (n : Int) (n : Int) (by omega) (Int.le_refl _) (by rw [hb]; omega) (by omega)
  rw [hs, Int.toNat_natCast] at h
  exact h
theorem zC_get (n i j : Nat) (v : Value) (hi : i < n) (h : (obsC zQ)[j]? = some v) : (zC n)[i * 8 + j]? = some v := by
  have hj : j < 8 := by
    have h8 : (obsC zQ).length = 8 := rfl
    have := (List.getElem?_eq_some_iff.1 h).1
    omega
  have hz : (obsC zQ).toArray.size = 8 := rfl
  have hl : i * 8 + j < n * 8 := by omega
  unfold zC madeCells
  rw [Array.getElem?_map, hz]
  rw [show (Array.range (n * 8))[i * 8 + j]? = some (i * 8 + j) by simp [hl]]
  show some ((obsC zQ).toArray[(i * 8 + j) % 8]!) = some v
  rw [show (i * 8 + j) % 8 = j by omega]
  have : (obsC zQ).toArray[j]? = some v := by simpa using h
  rw [getElem!_def, this]
theorem zeros_at (w : World) (n : Nat) : SlA (w.alloc (.cells (zC n) 33)) (some ⟨w.heap.size, 0, none⟩) (List.replicate n zQ) := by
  refine Or.inr ⟨w.heap.size, 0, rfl, by simp, fun i hi j v hv => ?_⟩
  rw [List.length_replicate] at hi
  rw [List.getElem_replicate] at hv
  rw [World.cell?_alloc_at _ _ _ _ rfl, Nat.zero_add]
  exact zC_get n i j v hi hv
theorem zeros_ob (n : Nat) : OBs (List.replicate n zQ) := fun i hi => by
  rw [List.getElem_replicate]
  exact ⟨by decide, by decide, by decide, by decide, by decide, by decide⟩
theorem zeros_many : allC (List.replicate 501 zQ) = 4 := allC_many (by rw [List.length_replicate]; omega)
theorem zeros_one : allC (List.replicate 1 zQ) = 8 := allC_bad (i := 0) (by decide) (by decide) (by decide)
end Ow
end Go.Proofs.YtaghilgfldaaiaaGreatDoor
