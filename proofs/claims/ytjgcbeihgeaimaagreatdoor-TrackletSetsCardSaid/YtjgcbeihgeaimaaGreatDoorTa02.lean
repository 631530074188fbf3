/-
  Lemmas and walks, texts joined: Frame, MBPl, MNum, MTen, Shelf, MPad, MLike, MForm, MCut, MForm2, MText, MDay, MRdPl, MFld, MRdPl2, MPDay, MNmPl, PNum, PTen, PParts, PParts2, PSpec, OPl, PRead2, OWord, ONumb, OCheck, TPad, TClk, PDSpec, Pl.
-/
import Derived.Lib.SmallJoins
import Derived.ProofKit
import Derived.Lib.Hide
import Derived.Laws.RangeAny
import Derived.LoopTactic
import Derived.Deep.QuietTactic
import Derived.BigQuiet
import Derived.WalkLawsBesides
import Derived.WalkSpells
import Derived.Shelf.Bits.Mul64
import Derived.Shelf.LaysM
import Derived.Shelf.Pu.ParseUintPublic10
import Derived.Shelf.SlicesE.Clone
import Derived.Shelf.Small.Bits
import Derived.Shelf.Small.Strs
import Derived.Shelf.Small.Utf8
import Derived.Shelf.Small.Wraps
import Derived.Shelf.Strconv.Itoa0
import Derived.Shelf.Strconv.Itoa1
import Derived.Shelf.Strconv.Itoa2
import Derived.Shelf.Strconv.Itoa3
import Derived.Shelf.Strconv.Itoa4
import Derived.Shelf.Strings.Builder1
import Derived.Shelf.Strings.Builder2
import Derived.Shelf.Strings.BuilderF
import Derived.Shelf.Strings.Cut
import Derived.Shelf.Strings.OnBuilder
import Derived.Shelf.Strings.Prefix
import Derived.Shelf.Strings.Repeat
import Derived.Shelf.Strings.Runes
import Derived.Shelf.Strings.Search1
import Derived.Shelf.Strings.Search2
import Derived.Shelf.Strings.Shaped
import Derived.Shelf.Strings.SlTrimAscii
import Derived.Shelf.Strings.Trim
import Derived.Lib.LaidTab
import Derived.Laws.Concat
import Derived.Lib.Repeat
import Derived.Lib.ItoaLen
import Derived.Sort.Grow
import Derived.Deep.RegionHeld3
import Derived.StillTailTactics
import Derived.OneCell
import Derived.OwnWalk
import Derived.Deep.AppendLies
import Derived.Lib.AtoiErrMem
import Derived.Deep.Cut
import Derived.Lib.Join
import Derived.Deep.OwnRows
import Derived.WalkKit
import Derived.Test.YtjgcbeihgeaimaaGreatDoorTa01
import Derived.Test.YtjgcbeihgeaimaaGreatDoorRows
import Derived.Test.YtjgcbeihgeaimaaGreatDoorProg
set_option linter.unusedSimpArgs false
set_option linter.unusedVariables false
/-
  Opening an argument that is a struct by value, whatever the number of its one-cell fields; for any program.
-/
namespace Go.Proofs.YtjgcbeihgeaimaaGreatDoor
namespace Fr
open Go.Joins Go.ChangeShapes Go.WideShapes Go.RowKit Go.Deep

section
variable {H : Type} {enc : TypeId × Value → H} {P : Program} {w : World} {base : Nat} {spare : Nat → Bool} {held : Bool}
theorem open_agg {r : Reach} {b0 : Nat} {t : TypeId} {fs : Array Field} {v : Value} {d : DataW H} {p : List MemPlace} (hs : P.underlying t = some (.struct fs)) (hone : oneCellFields P fs = true) (hC : P.cellsOf t = fs.size)
    (hv : Value.okWide P w r b0 t v) (h : DataW.Trod enc P w base spare held t v d p) :
    ∃ l : List Value, v = .agg l.toArray ∧ l.length = fs.size ∧ ∃ n : Nat, ∀ (j : Nat) (f : Field) (c : Value), fs[j]? = some f → l[j]? = some c → ∃ y, DataW.trod enc P w base spare held n f.type [c] = some y := by
  obtain ⟨cs, rfl, hsz⟩ := okWide_struct hs hv
  obtain ⟨l⟩ := cs
  have hl : l.length = fs.size := hsz.trans hC
  obtain ⟨fuel, hf⟩ := h
  obtain ⟨xs, n, _, hx, _, hlen, hg⟩ := DataW.trod_struct hs hf
  refine ⟨l, rfl, hl, n, fun j f c hj hc => ?_⟩
  obtain ⟨o, k⟩ := hone_of hone j f hj
  have hjl : j < l.length := (List.getElem?_eq_some_iff.1 hc).1
  have h1 := hg j f hj
  rw [o, k] at h1
  have e : ((Value.agg l.toArray).cells.toList.drop j).take 1 = [c] := by
    show (l.drop j).take 1 = [c]
    rw [List.drop_eq_getElem_cons hjl]
    have := (List.getElem?_eq_some_iff.1 hc).2
    simp [this]
  rw [e] at h1
  have hxl : j < xs.length := by omega
  exact ⟨xs[j], h1.trans (List.getElem?_eq_getElem hxl)⟩
end
theorem one_eq {a b : Value} (h : [a] = [b]) : a = b := by injection h
theorem list5 {l : List Value} (h : l.length = 5) : ∃ a b c d e, l = [a, b, c, d, e] := by match l, h with | [a, b, c, d, e], _ => exact ⟨a, b, c, d, e, rfl⟩
end Fr
end Go.Proofs.YtjgcbeihgeaimaaGreatDoor
/-
  Plain laws: ToUtc and FromUtc are inverse, and later times have later dates.
-/
namespace Go.Proofs.YtjgcbeihgeaimaaGreatDoor
namespace Mp

/-- The date of a time is a date, and its time is the time. -/
theorem to_from {t n y m z k : Int} (hd : DayOf t n y m z k) :
    fromOk y m (n - mo y m + 1) (mins (t - bgv n y m) / 60) (mins (t - bgv n y m) % 60) ((t - bgv n y m) / 1000000 - 60 * mins (t - bgv n y m)) ((t - bgv n y m) % 1000000) ∧
    timeOf y m (n - mo y m + 1) (mins (t - bgv n y m) / 60) (mins (t - bgv n y m) % 60) ((t - bgv n y m) / 1000000 - 60 * mins (t - bgv n y m)) ((t - bgv n y m) % 1000000) = t := by
  have hw : wholeP y m (n - mo y m + 1) := ⟨hd.y1, by have := hd.y2; omega, hd.ym.m1, hd.ym.m12, by have := hd.ym.lo; omega, by have := hd.ym.hi; omega⟩
  have e : dn y m (n - mo y m + 1) = n := by rw [dn_mo]; omega
  have dl := day_len (z := z) (k := k) hw (by rw [e]; exact hd.zk)
  rw [e] at dl
  obtain ⟨p0, p1⟩ := hd.pass
  have hi := hd.hi
  obtain ⟨p, hp⟩ : ∃ p, t - bgv n y m = p := ⟨_, rfl⟩
  rw [hp] at p0 p1 ⊢
  have mb : 0 ≤ mins p ∧ mins p ≤ 1439 := by unfold mins; split <;> omega
  constructor
  · refine ⟨hw, by omega, by omega, by omega, by omega, ?_, by omega, by omega, ?_⟩
    · unfold mins; split <;> omega
    · by_cases c : p / 1000000 / 60 ≤ 1439
      · left
        have em : mins p = p / 1000000 / 60 := if_pos c
        rw [em]; omega
      · right
        have em : mins p = 1439 := if_neg c
        rw [em]
        refine ⟨by omega, by omega, by omega, ?_⟩
        rcases dl with ⟨a, _⟩ | ⟨_, b⟩
        · omega
        · exact b
  · unfold timeOf
    rw [e]
    omega
/-- The time of a date has the date. -/
theorem from_to {y m d h i s u : Int} (ok : fromOk y m d h i s u) : ∃ z k, DayOf (timeOf y m d h i s u) (dn y m d) y m z k ∧
    d = dn y m d - mo y m + 1 ∧ h = mins (timeOf y m d h i s u - bgv (dn y m d) y m) / 60 ∧ i = mins (timeOf y m d h i s u - bgv (dn y m d) y m) % 60 ∧
    s = (timeOf y m d h i s u - bgv (dn y m d) y m) / 1000000 - 60 * mins (timeOf y m d h i s u - bgv (dn y m d) y m) ∧ u = (timeOf y m d h i s u - bgv (dn y m d) y m) % 1000000 := by
  obtain ⟨hw, h1, h2, h3, h4, h5, h6, h7, h8⟩ := ok
  have wr := wholeP_range hw
  obtain ⟨z, k, z1, z2, zk⟩ := ym_ex (dn y m d + 1) (by omega) (by omega)
  have dl := day_len hw zk
  have ep : timeOf y m d h i s u - bgv (dn y m d) y m = (3600 * h + 60 * i + s) * 1000000 + u := by unfold timeOf; omega
  refine ⟨z, k, ⟨wholeP_ym hw, zk, by omega, ?_, by omega, by omega, hw.1, by have := hw.2.1; omega⟩, by rw [dn_mo]; omega, ?_⟩
  · rcases h8 with c | ⟨c1, c2, c3, c4⟩
    · rcases dl with ⟨a, _⟩ | ⟨a, _⟩ <;> omega
    · rcases dl with ⟨_, b⟩ | ⟨a, _⟩
      · exact absurd c4 b
      · omega
  · rw [ep]
    rcases h8 with c | ⟨c1, c2, c3, c4⟩
    · have em : mins ((3600 * h + 60 * i + s) * 1000000 + u) = 60 * h + i := by
        unfold mins
        rw [if_pos (by omega)]
        omega
      rw [em]; omega
    · subst c1 c2 c3
      have em : mins ((3600 * 23 + 60 * 59 + 60) * 1000000 + u) = 1439 := by
        unfold mins
        rw [if_neg (by omega)]
      rw [em]; omega
theorem ToIs.back {t y m d h i s u : Int} (a : ToIs t y m d h i s u 0) : FromIs y m d h i s u t 0 := by
  rcases a with ⟨_, _, _, _, _, _, _, _, c⟩ | ⟨a1, a2, n, z, k, hd, rfl, rfl, rfl, rfl, rfl, _⟩
  · omega
  · obtain ⟨b1, b2⟩ := to_from hd
    exact Or.inl ⟨b1, b2.symm, rfl⟩
theorem FromIs.back {t y m d h i s u : Int} (a : FromIs y m d h i s u t 0) : ToIs t y m d h i s u 0 := by
  rcases a with ⟨ok, rfl, _⟩ | ⟨_, _, c⟩
  · obtain ⟨z, k, hd, e1, e2, e3, e4, e5⟩ := from_to ok
    refine Or.inr ⟨?_, ?_, dn y m d, z, k, hd, e1, e2, e3, e4, e5, rfl⟩
    · have := bgv_mono hd.ym ym_72 hd.n1; have := hd.lo; omega
    · have := bgv_mono ym_00 hd.zk (by have := hd.n2; omega); have := hd.hi; omega
  · omega
theorem DayOf.bd {t n y m z k : Int} (h : DayOf t n y m z k) : -1000000000000000 ≤ t ∧ t ≤ 4000000000000000 := by
  have a := bgv_bd n y m (by have := h.n1; omega) (by have := h.n2; omega)
  have b := bgv_bd (n + 1) z k (by have := h.n1; omega) (by have := h.n2; omega)
  have := h.lo
  have := h.hi
  omega
theorem FromIs.bd {t y m d h i s u c : Int} (a : FromIs y m d h i s u t c) : -1000000000000000 ≤ t ∧ t ≤ 4000000000000000 := by
  rcases a with ⟨ok, rfl, _⟩ | ⟨_, rfl, c⟩
  · obtain ⟨z, k, hd, _⟩ := from_to ok
    exact hd.bd
  · omega
theorem ToIs.bd {t y m d h i s u : Int} (a : ToIs t y m d h i s u 0) : -1000000000000000 ≤ t ∧ t ≤ 4000000000000000 := a.back.bd
/-! ### The order of dates -/
/-! ### Months -/
end Mp
end Go.Proofs.YtjgcbeihgeaimaaGreatDoor
/-
  Reading digits: number of the reference.
-/
namespace Go.Proofs.YtjgcbeihgeaimaaGreatDoor
namespace Ap
open Go.RowKit Lw

def numL (l : List UInt8) : Int := l.foldl (fun n c => 10 * n + ((c.toNat : Int) - 48)) 0
def allD (l : List UInt8) : Prop := ∀ c ∈ l, 48 ≤ (c.toNat : Int) ∧ (c.toNat : Int) ≤ 57
instance (l : List UInt8) : Decidable (allD l) := by unfold allD; infer_instance
/-- The number that a string of digits is, or -1. -/
def numV (l : List UInt8) : Int := if allD l then numL l else -1
theorem numL_snoc (l : List UInt8) (c : UInt8) : numL (l ++ [c]) = 10 * numL l + ((c.toNat : Int) - 48) := by simp [numL]
theorem allD_snoc {l : List UInt8} {c : UInt8} (h : allD l) (h1 : 48 ≤ (c.toNat : Int)) (h2 : (c.toNat : Int) ≤ 57) : allD (l ++ [c]) := fun x hx => by
  rcases List.mem_append.1 hx with g | g
  · exact h x g
  · have := List.mem_singleton.1 g; subst this; exact ⟨h1, h2⟩
theorem take_snoc (s : ByteArray) (k : Nat) (h : k < s.size) : s.data.toList.take (k + 1) = s.data.toList.take k ++ [s[k]] := by
  rw [List.take_succ_eq_append_getElem (by simpa using h)]; rfl
theorem take_all (s : ByteArray) (k : Nat) (h : ¬ k < s.size) : s.data.toList.take k = s.data.toList := List.take_of_length_le (by simp; omega)
theorem byte_bd (b : UInt8) : 0 ≤ (b.toNat : Int) ∧ (b.toNat : Int) < 256 := by have := b.toNat_lt; omega
end Ap
end Go.Proofs.YtjgcbeihgeaimaaGreatDoor
/-
  Powers of ten: package moment and the reference.
-/
namespace Go.Proofs.YtjgcbeihgeaimaaGreatDoor
namespace Ap
open Go.RowKit Lw

/-- A power of ten. -/
def tenI (k : Nat) : Int := (10 ^ k : Nat)
end Ap
end Go.Proofs.YtjgcbeihgeaimaaGreatDoor
/-
  The library contracts that this claim uses, laid at its program: cut out of what the shelf's own program writes.
-/
namespace Go.Proofs
open Go.Shelf
def Tryz.laysPu14_ren : Go.Shelf.Ren := ⟨fun | 14 => 119 | 16 => 128 | 17 => 129 | 19 => 137 | 20 => 138 | 21 => 139 | 22 => 140 | 23 => 141 | 24 => 142 | 25 => 143 | 27 => 145 | 26 => 144 | 28 => 146 | 29 => 147 | 30 => 148 | 31 => 149 | 32 => 150 | 33 => 151 | 35 => 67 | 34 => 152 | 36 => 153 | 37 => 154 | 38 => 155 | 39 => 156 | 40 => 41 | n => n, fun | 9 => 9 | 3 => 3 | 22 => 55 | 24 => 166 | 25 => 167 | 4 => 4 | 34 => 181 | 5 => 5 | 36 => 87 | 37 => 183 | 0 => 0 | 39 => 184 | 21 => 21 | 44 => 191 | 47 => 194 | 50 => 197 | 48 => 195 | 2 => 2 | 52 => 199 | 55 => 201 | 59 => 204 | 60 => 119 | 20 => 20 | 61 => 205 | 65 => 206 | 66 => 109 | 67 => 207 | n => n, fun | 0 => 1 | 1 => 2 | 2 => 3 | 3 => 4 | 4 => 0 | n => n⟩
theorem Tryz.laysPu14 : Go.Proofs.LaysPu.n14 Tryz.prog Tryz.laysPu14_ren := {
  mixed := by kernel_rfl
  f14 := Tryz.func119.trans (congrArg some (by kernel_rfl))
  f16 := Tryz.func128.trans (congrArg some (by kernel_rfl))
  f17 := Tryz.func129.trans (congrArg some (by kernel_rfl))
  f19 := Tryz.func137.trans (congrArg some (by kernel_rfl))
  f20 := Tryz.func138.trans (congrArg some (by kernel_rfl))
  f21 := Tryz.func139.trans (congrArg some (by kernel_rfl))
  f22 := Tryz.func140.trans (congrArg some (by kernel_rfl))
  f23 := Tryz.func141.trans (congrArg some (by kernel_rfl))
  f24 := Tryz.func142.trans (congrArg some (by kernel_rfl))
  f25 := Tryz.func143.trans (congrArg some (by kernel_rfl))
  f26 := Tryz.func144.trans (congrArg some (by kernel_rfl))
  f27 := Tryz.func145.trans (congrArg some (by kernel_rfl))
  f28 := Tryz.func146.trans (congrArg some (by kernel_rfl))
  f29 := Tryz.func147.trans (congrArg some (by kernel_rfl))
  f30 := Tryz.func148.trans (congrArg some (by kernel_rfl))
  f31 := Tryz.func149.trans (congrArg some (by kernel_rfl))
  f32 := Tryz.func150.trans (congrArg some (by kernel_rfl))
  f33 := Tryz.func151.trans (congrArg some (by kernel_rfl))
  f34 := Tryz.func152.trans (congrArg some (by kernel_rfl))
  f35 := Tryz.func67.trans (congrArg some (by kernel_rfl))
  f36 := Tryz.func153.trans (congrArg some (by kernel_rfl))
  f37 := Tryz.func154.trans (congrArg some (by kernel_rfl))
  f38 := Tryz.func155.trans (congrArg some (by kernel_rfl))
  f39 := Tryz.func156.trans (congrArg some (by kernel_rfl))
  f40 := Tryz.func41.trans (congrArg some (by kernel_rfl))
  t0 := Tryz.underlying0
  a0 := Tryz.isAgg0
  z0 := Tryz.sizeOf0
  v0 := Tryz.zeroValue0
  i0 := by kernel_rfl
  t2 := Tryz.underlying2
  a2 := Tryz.isAgg2
  z2 := Tryz.sizeOf2
  v2 := Tryz.zeroValue2
  i2 := by kernel_rfl
  t3 := Tryz.underlying3
  a3 := Tryz.isAgg3
  z3 := Tryz.sizeOf3
  v3 := Tryz.zeroValue3
  i3 := by kernel_rfl
  t4 := Tryz.underlying4
  a4 := Tryz.isAgg4
  z4 := Tryz.sizeOf4
  v4 := Tryz.zeroValue4
  i4 := by kernel_rfl
  t5 := Tryz.underlying5
  a5 := Tryz.isAgg5
  z5 := Tryz.sizeOf5
  v5 := Tryz.zeroValue5
  i5 := by kernel_rfl
  t9 := Tryz.underlying9
  a9 := Tryz.isAgg9
  z9 := Tryz.sizeOf9
  v9 := Tryz.zeroValue9
  i9 := by kernel_rfl
  t20 := Tryz.underlying20
  a20 := Tryz.isAgg20
  z20 := Tryz.sizeOf20
  v20 := Tryz.zeroValue20
  i20 := by kernel_rfl
  t21 := Tryz.underlying21
  a21 := Tryz.isAgg21
  z21 := Tryz.sizeOf21
  v21 := Tryz.zeroValue21
  i21 := by kernel_rfl
  t22 := Tryz.underlying55
  a22 := Tryz.isAgg55
  z22 := Tryz.sizeOf55
  v22 := Tryz.zeroValue55
  i22 := by kernel_rfl
  t24 := Tryz.underlying166
  a24 := Tryz.isAgg166
  z24 := Tryz.sizeOf166
  v24 := Tryz.zeroValue166
  i24 := by kernel_rfl
  t25 := Tryz.underlying167
  a25 := Tryz.isAgg167
  z25 := Tryz.sizeOf167
  v25 := Tryz.zeroValue167
  i25 := by kernel_rfl
  t34 := Tryz.underlying181
  a34 := Tryz.isAgg181
  z34 := Tryz.sizeOf181
  v34 := Tryz.zeroValue181
  i34 := by kernel_rfl
  c34 := by kernel_rfl
  t36 := Tryz.underlying87
  a36 := Tryz.isAgg87
  z36 := Tryz.sizeOf87
  v36 := Tryz.zeroValue87
  i36 := by kernel_rfl
  t37 := Tryz.underlying183
  a37 := Tryz.isAgg183
  z37 := Tryz.sizeOf183
  v37 := Tryz.zeroValue183
  i37 := by kernel_rfl
  t39 := Tryz.underlying184
  a39 := Tryz.isAgg184
  z39 := Tryz.sizeOf184
  v39 := Tryz.zeroValue184
  i39 := by kernel_rfl
  t44 := Tryz.underlying191
  a44 := Tryz.isAgg191
  z44 := Tryz.sizeOf191
  v44 := Tryz.zeroValue191
  i44 := by kernel_rfl
  t47 := Tryz.underlying194
  a47 := Tryz.isAgg194
  z47 := Tryz.sizeOf194
  v47 := Tryz.zeroValue194
  i47 := by kernel_rfl
  t48 := Tryz.underlying195
  a48 := Tryz.isAgg195
  z48 := Tryz.sizeOf195
  v48 := Tryz.zeroValue195
  i48 := by kernel_rfl
  t50 := Tryz.underlying197
  a50 := Tryz.isAgg197
  z50 := Tryz.sizeOf197
  v50 := Tryz.zeroValue197
  i50 := by kernel_rfl
  t52 := Tryz.underlying199
  a52 := Tryz.isAgg199
  z52 := Tryz.sizeOf199
  v52 := Tryz.zeroValue199
  i52 := by kernel_rfl
  t55 := Tryz.underlying201
  a55 := Tryz.isAgg201
  z55 := Tryz.sizeOf201
  v55 := Tryz.zeroValue201
  i55 := by kernel_rfl
  t59 := Tryz.underlying204
  a59 := Tryz.isAgg204
  z59 := Tryz.sizeOf204
  v59 := Tryz.zeroValue204
  i59 := by kernel_rfl
  t60 := Tryz.underlying119
  a60 := Tryz.isAgg119
  z60 := Tryz.sizeOf119
  v60 := Tryz.zeroValue119
  i60 := by kernel_rfl
  t61 := Tryz.underlying205
  a61 := Tryz.isAgg205
  z61 := Tryz.sizeOf205
  t65 := Tryz.underlying206
  a65 := Tryz.isAgg206
  z65 := Tryz.sizeOf206
  v65 := Tryz.zeroValue206
  i65 := by kernel_rfl
  t66 := Tryz.underlying109
  a66 := Tryz.isAgg109
  z66 := Tryz.sizeOf109
  v66 := Tryz.zeroValue109
  i66 := by kernel_rfl
  t67 := Tryz.underlying207
  a67 := Tryz.isAgg207
  z67 := Tryz.sizeOf207
  v67 := Tryz.zeroValue207
  i67 := by kernel_rfl
  g0 := by kernel_rfl
  m0 := by kernel_rfl
  g1 := by kernel_rfl
  m1 := by kernel_rfl
  g2 := by kernel_rfl
  m2 := by kernel_rfl
  g3 := by kernel_rfl
  m3 := by kernel_rfl
  g4 := by kernel_rfl
  m4 := by kernel_rfl }
open Go.RowKit in
/-- strconv.ParseUint(s, 10, 16), AT EVERY STRING THAT SPELLS A uint16 ('Lib.parseUintB 16 s.data.toList = .ok u'): u, AND NO ERROR. (LAID: no walk: one application.) -/
theorem Tryz.strconv_ParseUint_10_at16_ok (s : ByteArray) (hmax : s.size ≤ 9223372036854775806) (u : Nat) (h : Lib.parseUintB 16 s.data.toList = .ok u) (w : World) :
    Calls Tryz.prog 119 #[.string s, .int .i64 10, .int .i64 16] w fun e w' => e = .returned (.tuple #[.int .u64 u, .nilIface]) ∧ (w' = w ∨ w' = Lib.bytesWorld w 5 s) := Any.strconv_ParseUint_10_at16_ok Tryz.laysPu14 s hmax u h w
open Go.RowKit in
/-- strconv.ParseUint(s, 10, 16), AT EVERY STRING THAT IS NO ROW OF DECIMAL DIGITS (a sign is a fault): 0, AND AN ERROR THAT IS NOT nil: a *NumError in a new block N: {Func: "ParseUint", Num: s's bytes, Err: what the variable ErrSyntax holds}. Of what was there nothing has turned. (LAID: no walk: one application.) -/
theorem Tryz.strconv_ParseUint_10_at16_syntax (s : ByteArray) (hlim : s.size ≤ 281474976710656) (h : Lib.parseUintB 16 s.data.toList = Lib.parseUintB 16 []) (ev : Value) (w : World) (hv : w.cell? ⟨1, 0, none⟩ = some ev) (hev : ev = .nilIface ∨ ∃ te pe, ev = .iface te pe) :
    Calls Tryz.prog 119 #[.string s, .int .i64 10, .int .i64 16] w fun e w' => ∃ N, e = .returned (.tuple #[.int .u64 0, .iface 184 (.pointer (some ⟨N, 0, none⟩))]) ∧ w.heap.size ≤ N ∧ w'.heap[N]? = some (.cells #[.string ⟨#[80, 97, 114, 115, 101, 85, 105, 110, 116]⟩, .string s, ev] 191 (0, 0)) ∧ Below w.heap.size w w' := Any.strconv_ParseUint_10_at16_syntax Tryz.laysPu14 s hlim h ev w hv hev
def Tryz.lays264_ren : Go.Shelf.Ren := ⟨fun | 264 => 53 | n => n, fun | 53 => 55 | 46 => 87 | n => n, fun | n => n⟩
theorem Tryz.lays264 : Go.Proofs.Lays.n264 Tryz.prog Tryz.lays264_ren := {
  mixed := by kernel_rfl
  f264 := Tryz.func53.trans (congrArg some (by kernel_rfl))
  t46 := Tryz.underlying87
  a46 := Tryz.isAgg87
  z46 := Tryz.sizeOf87
  v46 := Tryz.zeroValue87
  t53 := Tryz.underlying55
  a53 := Tryz.isAgg55
  z53 := Tryz.sizeOf55
  v53 := Tryz.zeroValue55 }
open Go.RowKit Go.Lib in
theorem Tryz.bits_Mul64 (x y : Nat) (hx : x < 18446744073709551616) (hy : y < 18446744073709551616) (w : World) :
    Calls Tryz.prog 53 #[.int .u64 x, .int .u64 y] w fun e w' => e = .returned (.tuple #[.int .u64 ((x * y / 18446744073709551616 : Nat) : Int), .int .u64 ((x * y % 18446744073709551616 : Nat) : Int)]) ∧ w' = w := Any.bits_Mul64 Tryz.lays264 x y hx hy w
end Go.Proofs
/-
  Texts of numbers: pad of package moment, digitsOf of the reference, and the digits that both write.
-/
namespace Go.Proofs.YtjgcbeihgeaimaaGreatDoor
namespace At
open Go.RowKit Lw Ap

theorem gPow : Tryz.prog.globalNamed "internal/strconv.uint64pow10" = some 3 := by kernel_rfl
/-- The library's table of powers of ten holds what its initialiser lays. -/
def Tab (w : World) : Prop := Lib.TabIs Tryz.prog w "internal/strconv.uint64pow10" .u64 Lib.pow10Tab
theorem Tab.below {w w' : World} (h : Tab w) (hb : Below w.heap.size w w') : Tab w' := Joins.tab_stays gPow h hb (Nat.le_refl _)

/-- A number with at least so many digits. -/
def padL (n : Int) (d : Nat) : List UInt8 := Lib.repeatL [48] (d - (Lib.itoa n).length) ++ Lib.itoa n
theorem rep_len (k : Nat) : (Lib.repeatL [48] k).length = k := by
  induction k with
  | zero => rfl
  | succ k ih => simp_all [Lib.repeatL]
theorem u8_of (n : Nat) (h : n < 10) : (((UInt8.ofNat (48 + n)).toNat : Nat) : Int) = 48 + n := by
  rw [UInt8.toNat_ofNat']
  omega
theorem dd_num (u : Nat) : numL (Lib.decDigits u) = u ∧ allD (Lib.decDigits u) := by
  induction u using Nat.strongRecOn with
  | _ u ih =>
    by_cases h : u < 10
    · rw [Lib.decDigits_one h]
      have e := u8_of u h
      refine ⟨by unfold numL; simp only [List.foldl_cons, List.foldl_nil]; omega, fun c hc => ?_⟩
      rw [List.mem_singleton.1 hc]
      omega
    · rw [Lib.decDigits, dif_neg h]
      obtain ⟨h1, h2⟩ := ih (u / 10) (by omega)
      have e := u8_of (u % 10) (Nat.mod_lt _ (by omega))
      exact ⟨by rw [numL_snoc, h1]; omega, allD_snoc h2 (by omega) (by omega)⟩
theorem itoa_num (r : Nat) : numL (Lib.itoa (r : Int)) = r ∧ allD (Lib.itoa (r : Int)) := by
  unfold Lib.itoa
  rw [if_neg (by omega), Int.toNat_natCast]
  exact dd_num r
theorem rep_num (k : Nat) : numL (Lib.repeatL [48] k) = 0 ∧ allD (Lib.repeatL [48] k) := by
  induction k with
  | zero => exact ⟨rfl, fun c hc => by simp [Lib.repeatL] at hc⟩
  | succ k ih =>
    have e : Lib.repeatL [48] (k + 1) = 48 :: Lib.repeatL [48] k := rfl
    rw [e]
    refine ⟨?_, fun c hc => ?_⟩
    · have := ih.1
      unfold numL at this ⊢
      rw [List.foldl_cons]
      exact this
    · rcases List.mem_cons.1 hc with rfl | g
      · decide
      · exact ih.2 c g
theorem pad_num (r d : Nat) : numV (padL (r : Int) d) = r := by
  have h1 := itoa_num r
  have h2 := rep_num (d - (Lib.itoa (r : Int)).length)
  have hA : allD (padL (r : Int) d) := fun c hc => by
    rcases List.mem_append.1 hc with g | g
    · exact h2.2 c g
    · exact h1.2 c g
  unfold numV
  rw [if_pos hA]
  unfold padL numL
  rw [List.foldl_append]
  have e2 := h2.1
  have e1 := h1.1
  unfold numL at e1 e2
  rw [e2, e1]
theorem nd_le : ∀ (d r : Nat), r < 10 ^ (d + 1) → Lib.nDigits r ≤ d + 1
  | 0, r, h => by rw [Lib.nDigits_small (by simpa using h)]; exact Nat.le_refl _
  | d + 1, r, h => by
    by_cases g : r < 10
    · rw [Lib.nDigits_small g]; omega
    · rw [Lib.nDigits_big g]
      have := nd_le d (r / 10) (by rw [Nat.pow_succ] at h; omega)
      omega
theorem pad_size (r d : Nat) (hd : 1 ≤ d) (h : r < 10 ^ d) : (padL (r : Int) d).length = d := by
  obtain ⟨k, rfl⟩ : ∃ k, d = k + 1 := ⟨d - 1, by omega⟩
  have h1 := nd_le k r h
  have hl : (Lib.itoa (r : Int)).length = Lib.nDigits r := by
    unfold Lib.itoa
    rw [if_neg (by omega), Int.toNat_natCast, Lib.decDigits_length]
  unfold padL
  rw [List.length_append, rep_len, hl]
  omega
/-- The digit of a number below ten. -/
def dg (m : Nat) : UInt8 := UInt8.ofNat (48 + m)
theorem dg_of (n : Nat) (h : n < 10) : (((dg n).toNat : Nat) : Int) = 48 + n := u8_of n h
/-- The last digits of a number. -/
def decL : Nat → Nat → List UInt8
  | _, 0 => []
  | n, k + 1 => decL (n / 10) k ++ [dg (n % 10)]
theorem decL_len : ∀ k n, (decL n k).length = k
  | 0, _ => rfl
  | k + 1, n => by rw [decL, List.length_append, decL_len k]; rfl
theorem decL_num : ∀ k n, numL (decL n k) = ((n % 10 ^ k : Nat) : Int) ∧ allD (decL n k)
  | 0, n => ⟨by simp [decL, numL, Nat.mod_one], fun c hc => by simp [decL] at hc⟩
  | k + 1, n => by
    obtain ⟨h1, h2⟩ := decL_num k (n / 10)
    have e := dg_of (n % 10) (Nat.mod_lt _ (by omega))
    refine ⟨?_, allD_snoc h2 (by omega) (by omega)⟩
    rw [decL, numL_snoc, h1, Nat.pow_succ, Nat.mul_comm (10 ^ k) 10, Nat.mod_mul]
    omega
theorem num_inj : ∀ (k : Nat) (a b : List UInt8), a.length = k → b.length = k → allD a → allD b → numL a = numL b → a = b
  | 0, a, b, ha, hb, _, _, _ => by rw [List.length_eq_zero_iff.1 ha, List.length_eq_zero_iff.1 hb]
  | k + 1, a, b, ha, hb, da, db, hn => by
    obtain ⟨a', x, rfl⟩ : ∃ a' x, a = a' ++ [x] := ⟨a.dropLast, a.getLast (by intro h; rw [h] at ha; simp at ha), (List.dropLast_concat_getLast _).symm⟩
    obtain ⟨b', y, rfl⟩ : ∃ b' y, b = b' ++ [y] := ⟨b.dropLast, b.getLast (by intro h; rw [h] at hb; simp at hb), (List.dropLast_concat_getLast _).symm⟩
    rw [numL_snoc, numL_snoc] at hn
    have hx := da x (List.mem_append_right _ (List.mem_singleton.2 rfl))
    have hy := db y (List.mem_append_right _ (List.mem_singleton.2 rfl))
    have e : numL a' = numL b' := by omega
    have e2 : x = y := by
      apply UInt8.toNat_inj.1
      omega
    rw [num_inj k a' b' (by simpa using ha) (by simpa using hb) (fun c hc => da c (List.mem_append_left _ hc)) (fun c hc => db c (List.mem_append_left _ hc)) e, e2]
theorem pad_all (r d : Nat) : allD (padL (r : Int) d) := fun c hc => by
  rcases List.mem_append.1 hc with g | g
  · exact (rep_num (d - (Lib.itoa (r : Int)).length)).2 c g
  · exact (itoa_num r).2 c g
theorem pad_dec (r d : Nat) (hd : 1 ≤ d) (h : r < 10 ^ d) : padL (r : Int) d = decL r d := by
  obtain ⟨h1, h2⟩ := decL_num d r
  refine num_inj d _ _ (pad_size r d hd h) (decL_len d r) (pad_all r d) h2 ?_
  have := pad_num r d
  unfold numV at this
  rw [if_pos (pad_all r d)] at this
  rw [this, h1, Nat.mod_eq_of_lt h]
end At
end Go.Proofs.YtjgcbeihgeaimaaGreatDoor
/-
  Texts that follow a pattern: like of the reference.
-/
namespace Go.Proofs.YtjgcbeihgeaimaaGreatDoor
namespace Ap
open Go.RowKit Lw

abbrev bt (s : ByteArray) (k : Nat) : Int := ((s.get! k).toNat : Int)
/-- A byte that follows a pattern: a digit where the pattern has one, and the pattern's byte elsewhere. -/
def okAt (s p : ByteArray) (k : Nat) : Prop := (bt p k = 48 → 48 ≤ bt s k ∧ bt s k ≤ 57) ∧ (¬ bt p k = 48 → bt s k = bt p k)
instance (s p : ByteArray) (k : Nat) : Decidable (okAt s p k) := by unfold okAt; infer_instance
def likeTo (s p : ByteArray) (n : Nat) : Prop := ∀ k, k < n → okAt s p k
instance (s p : ByteArray) (n : Nat) : Decidable (likeTo s p n) := by unfold likeTo; infer_instance
def likeP (s p : ByteArray) : Prop := s.size = p.size ∧ likeTo s p s.size
instance (s p : ByteArray) : Decidable (likeP s p) := by unfold likeP; infer_instance
theorem bt_of (s : ByteArray) (i : Nat) (h : i < s.size) : bt s i = (s[i].toNat : Int) := by simp [bt, ByteArray.get!, getElem!_pos, h]; rfl
theorem ret_b {a b : Bool} (h : a = b) : Ending.returned (.bool a) = .returned (.bool b) := by rw [h]
end Ap
end Go.Proofs.YtjgcbeihgeaimaaGreatDoor
/-
  Plain law of the texts of times: what a text says, for any string; no walk here.
-/
namespace Go.Proofs.YtjgcbeihgeaimaaGreatDoor
namespace Ap
open Go.RowKit Lw Go.Proofs.YtjgcbeihgeaimaaGreatDoor.Mp

/-- 0000-00-00T00:00:00 -/
def P19 : ByteArray := ⟨#[48, 48, 48, 48, 45, 48, 48, 45, 48, 48, 84, 48, 48, 58, 48, 48, 58, 48, 48]⟩
/-- 0000 00 00 -/
def P10 : ByteArray := ⟨#[48, 48, 48, 48, 32, 48, 48, 32, 48, 48]⟩
/-- The number of some bytes. -/
def nm (s : ByteArray) (i j : Nat) : Int := numV (s.extract i j).data.toList
def textP (s : ByteArray) : Prop := 20 ≤ s.size ∧ s.size ≠ 21 ∧ s.size ≤ 27 ∧ bt s (s.size - 1) = 90 ∧ likeP (s.extract 0 19) P19 ∧ (20 < s.size → bt s 19 = 46 ∧ 0 ≤ nm s 20 (s.size - 1))
def microV (s : ByteArray) : Int := if s.size = 20 then 0 else nm s 20 (s.size - 1) * tenI (27 - s.size)
def okText (s : ByteArray) : Prop := textP s ∧ fromOk (nm s 0 4) (nm s 5 7) (nm s 8 10) (nm s 11 13) (nm s 14 16) (nm s 17 19) (microV s)
def textV (s : ByteArray) : Int := timeOf (nm s 0 4) (nm s 5 7) (nm s 8 10) (nm s 11 13) (nm s 14 16) (nm s 17 19) (microV s)
/-- What Parse returns: the time, and the error. -/
def ParseIs (s : ByteArray) (t e : Int) : Prop := (okText s ∧ t = textV s ∧ e = 0) ∨ (¬ okText s ∧ t = 0 ∧ e = 12)
theorem ParseIs.uniq {s : ByteArray} {t e t' e' : Int} (a : ParseIs s t e) (b : ParseIs s t' e') : t = t' ∧ e = e' := by
  rcases a with ⟨a1, a2, a3⟩ | ⟨a1, a2, a3⟩ <;> rcases b with ⟨b1, b2, b3⟩ | ⟨b1, b2, b3⟩
  · exact ⟨by rw [a2, b2], by omega⟩
  · exact absurd a1 b1
  · exact absurd b1 a1
  · exact ⟨by omega, by omega⟩
def dayP (s : ByteArray) : Prop := 10 ≤ s.size ∧ s.size ≠ 11 ∧ s.size ≤ 20 ∧ likeP (s.extract 0 10) P10 ∧ (10 < s.size → bt s 10 = 46 ∧ 0 ≤ nm s 11 s.size)
def okDay (s : ByteArray) : Prop := dayP s ∧ fromOk (nm s 0 4) (nm s 5 7) (nm s 8 10) 0 0 0 0
/-- A quotient, rounded up. -/
def upI (a b : Int) : Int := a / b + (if 0 < a % b then 1 else 0)
def dayLen (y m d : Int) : Int := if d = mo y (m + 1) - mo y m ∧ lps (12 * y + m) = lps (12 * y + m - 1) + 1 then 86401000000 else 86400000000
def partV (s : ByteArray) : Int := if s.size = 10 then 0 else upI (nm s 11 s.size * dayLen (nm s 0 4) (nm s 5 7) (nm s 8 10)) (tenI (s.size - 11))
def dayV (s : ByteArray) : Int := timeOf (nm s 0 4) (nm s 5 7) (nm s 8 10) 0 0 0 0 + partV s
/-- What ParseDay returns: the time, and the error. -/
def PDayIs (s : ByteArray) (t e : Int) : Prop := (okDay s ∧ t = dayV s ∧ e = 0) ∨ (¬ okDay s ∧ t = 0 ∧ e = 12)
theorem PDayIs.uniq {s : ByteArray} {t e t' e' : Int} (a : PDayIs s t e) (b : PDayIs s t' e') : t = t' ∧ e = e' := by
  rcases a with ⟨a1, a2, a3⟩ | ⟨a1, a2, a3⟩ <;> rcases b with ⟨b1, b2, b3⟩ | ⟨b1, b2, b3⟩
  · exact ⟨by rw [a2, b2], by omega⟩
  · exact absurd a1 b1
  · exact absurd b1 a1
  · exact ⟨by omega, by omega⟩
/-! ### Head and tail -/
abbrev noPt (c : UInt8) : Bool := decide (¬ ((c.toNat : Nat) : Int) = 46)
/-- The place of the first point, or the end. -/
def ptL (l : List UInt8) : Nat := (l.takeWhile noPt).length
end Ap
end Go.Proofs.YtjgcbeihgeaimaaGreatDoor
/-
  Head and tail of a string: strings.Cut at a point, strings.CutSuffix of a Z.
-/
namespace Go.Proofs.YtjgcbeihgeaimaaGreatDoor
namespace Ap
open Go.RowKit Lw

/-- The place of the first point of a string. -/
def ptS (s : ByteArray) : Nat := ptL s.data.toList
/-- Does a string end in a Z? -/
def zP (s : ByteArray) : Prop := 1 ≤ s.size ∧ bt s (s.size - 1) = 90
instance (s : ByteArray) : Decidable (zP s) := by unfold zP; infer_instance
end Ap
end Go.Proofs.YtjgcbeihgeaimaaGreatDoor
/-
  Plain law: what head, tail and numbers of a text say is what the text says; no walk here.
-/
namespace Go.Proofs.YtjgcbeihgeaimaaGreatDoor
namespace Ap
open Go.RowKit Lw Go.Proofs.YtjgcbeihgeaimaaGreatDoor.Mp

theorem numV_yes {l : List UInt8} (h : allD l) : numV l = numL l := if_pos h
/-! ### The digits behind the point -/
/-! ### The numbers ahead of the point -/
end Ap
end Go.Proofs.YtjgcbeihgeaimaaGreatDoor
/-
  The texts of times: Text of package moment and of the reference.
-/
namespace Go.Proofs.YtjgcbeihgeaimaaGreatDoor
namespace At
open Go.RowKit Lw Ap Go.Proofs.YtjgcbeihgeaimaaGreatDoor.Mp Go.Proofs.YtjgcbeihgeaimaaGreatDoor.Mw

/-- The last digits of a number, as a string. -/
def dS (n k : Nat) : ByteArray := ⟨(decL n k).toArray⟩
theorem dS_size (n k : Nat) : (dS n k).size = k := by
  have : (dS n k).size = (decL n k).length := by simp [dS, ByteArray.size]
  rw [this, decL_len]
def baseS (Y M D H I S : Nat) : ByteArray := dS Y 4 ++ (⟨#[45]⟩ : ByteArray) ++ dS M 2 ++ (⟨#[45]⟩ : ByteArray) ++ dS D 2 ++ (⟨#[84]⟩ : ByteArray) ++ dS H 2 ++ (⟨#[58]⟩ : ByteArray) ++ dS I 2 ++ (⟨#[58]⟩ : ByteArray) ++ dS S 2
/-- The text of a time. -/
def textS (Y M D H I S U d : Nat) : ByteArray := (if 0 < d then baseS Y M D H I S ++ ((⟨#[46]⟩ : ByteArray) ++ (dS U 6).extract 0 d) else baseS Y M D H I S) ++ (⟨#[90]⟩ : ByteArray)
/-- What Text returns: the text, and the error. -/
def TextIs (t d : Int) (s : ByteArray) (c : Int) : Prop :=
  ((d < 0 ∨ 6 < d) ∧ s = ⟨#[]⟩ ∧ c = 2) ∨ (0 ≤ d ∧ d ≤ 6 ∧ (t < bgv (-10227) 1972 1 ∨ bgv 36525 2100 1 ≤ t) ∧ s = ⟨#[]⟩ ∧ c = 16) ∨
  (0 ≤ d ∧ d ≤ 6 ∧ bgv (-10227) 1972 1 ≤ t ∧ t < bgv 36525 2100 1 ∧ ∃ n y m z k, DayOf t n y m z k ∧ s = textS y.toNat m.toNat (n - mo y m + 1).toNat (mins (t - bgv n y m) / 60).toNat (mins (t - bgv n y m) % 60).toNat ((t - bgv n y m) / 1000000 - 60 * mins (t - bgv n y m)).toNat ((t - bgv n y m) % 1000000).toNat d.toNat ∧ c = 0)
theorem TextIs.uniq {t d : Int} {s s' : ByteArray} {c c' : Int} (a : TextIs t d s c) (b : TextIs t d s' c') : s = s' ∧ c = c' := by
  rcases a with ⟨a0, a1, a2⟩ | ⟨a0, a1, a2, a3, a4⟩ | ⟨a0, a1, a2, a3, n, y, m, z, k, a4, a5, a6⟩ <;> rcases b with ⟨b0, b1, b2⟩ | ⟨b0, b1, b2, b3, b4⟩ | ⟨b0, b1, b2, b3, n', y', m', z', k', b4, b5, b6⟩
  · exact ⟨by rw [a1, b1], by omega⟩
  · omega
  · omega
  · omega
  · exact ⟨by rw [a3, b3], by omega⟩
  · omega
  · omega
  · omega
  · obtain ⟨rfl, rfl, rfl, _, _⟩ := a4.uniq b4
    exact ⟨by rw [a5, b5], by omega⟩
/-- The date in its block, the table, and what was there before. -/
structure XS (w : World) (b : Nat) (w' : World) : Prop where
  lt : b < w'.heap.size
  tab : Tab w'
  below : Below w.heap.size w w'
theorem XS.call {w : World} {b : Nat} {a c : World} (h : XS w b a) (hb : Below a.heap.size a c) : XS w b c := ⟨Nat.lt_of_lt_of_le h.lt hb.size, h.tab.below hb, below_then h.below hb⟩
theorem XS.drew {w : World} {b : Nat} {a : World} (h : XS w b a) : XS w b a.drew := ⟨h.lt, h.tab, h.below.drew⟩
structure XSr (w : World) (b : Nat) (w' : World) : Prop where
  lt : b < w'.heap.size
  below : Below w.heap.size w w'
theorem XSr.drew {w : World} {b : Nat} {a : World} (h : XSr w b a) : XSr w b a.drew := ⟨h.lt, h.below.drew⟩
end At
end Go.Proofs.YtjgcbeihgeaimaaGreatDoor
/-
  The day texts of times: Day of package moment.
-/
namespace Go.Proofs.YtjgcbeihgeaimaaGreatDoor
namespace At
open Go.RowKit Lw Ap Go.Proofs.YtjgcbeihgeaimaaGreatDoor.Mp Go.Proofs.YtjgcbeihgeaimaaGreatDoor.Mw

def dbS (Y M D : Nat) : ByteArray := dS Y 4 ++ (⟨#[32]⟩ : ByteArray) ++ dS M 2 ++ (⟨#[32]⟩ : ByteArray) ++ dS D 2
def daytS (Y M D q d : Nat) : ByteArray := if 0 < d then dbS Y M D ++ ((⟨#[46]⟩ : ByteArray) ++ dS q d) else dbS Y M D
/-- The digits of the part of a day. -/
def fracQ (p L : Int) (d : Nat) : Nat := p.toNat * 10 ^ d / L.toNat
/-- What Day returns: the text, and the error. -/
def DayIs (t d : Int) (s : ByteArray) (c : Int) : Prop :=
  ((d < 0 ∨ 9 < d) ∧ s = ⟨#[]⟩ ∧ c = 2) ∨ (0 ≤ d ∧ d ≤ 9 ∧ (t < bgv (-10227) 1972 1 ∨ bgv 36525 2100 1 ≤ t) ∧ s = ⟨#[]⟩ ∧ c = 16) ∨
  (0 ≤ d ∧ d ≤ 9 ∧ bgv (-10227) 1972 1 ≤ t ∧ t < bgv 36525 2100 1 ∧ ∃ n y m z k, DayOf t n y m z k ∧ s = daytS y.toNat m.toNat (n - mo y m + 1).toNat (fracQ (t - bgv n y m) (bgv (n + 1) z k - bgv n y m) d.toNat) d.toNat ∧ c = 0)
theorem DayIs.uniq {t d : Int} {s s' : ByteArray} {c c' : Int} (a : DayIs t d s c) (b : DayIs t d s' c') : s = s' ∧ c = c' := by
  rcases a with ⟨a0, a1, a2⟩ | ⟨a0, a1, a2, a3, a4⟩ | ⟨a0, a1, a2, a3, n, y, m, z, k, a4, a5, a6⟩ <;> rcases b with ⟨b0, b1, b2⟩ | ⟨b0, b1, b2, b3, b4⟩ | ⟨b0, b1, b2, b3, n', y', m', z', k', b4, b5, b6⟩
  · exact ⟨by rw [a1, b1], by omega⟩
  · omega
  · omega
  · omega
  · exact ⟨by rw [a3, b3], by omega⟩
  · omega
  · omega
  · omega
  · obtain ⟨rfl, rfl, rfl, rfl, rfl⟩ := a4.uniq b4
    exact ⟨by rw [a5, b5], by omega⟩
end At
end Go.Proofs.YtjgcbeihgeaimaaGreatDoor
/-
  Plain laws of MomentRounds: texts and times correspond; no walk here.
-/
namespace Go.Proofs.YtjgcbeihgeaimaaGreatDoor
namespace At
open Go.RowKit Lw Ap Go.Proofs.YtjgcbeihgeaimaaGreatDoor.Mp Go.Proofs.YtjgcbeihgeaimaaGreatDoor.Mw

/-! ### Strings as lists -/
theorem toL_inj {s t : ByteArray} (h : s.data.toList = t.data.toList) : s = t := by
  cases s; cases t
  simp only at h
  rw [Array.toList_inj.1 h]
theorem ext_L (s : ByteArray) (i j : Nat) (hj : j ≤ s.size) : (s.extract i j).data.toList = (s.data.toList.drop i).take (j - i) := by
  simp
theorem bt_L (s : ByteArray) (k : Nat) (hk : k < s.size) : bt s k = ((s.data.toList.getD k 0).toNat : Int) := by
  rw [bt_of s k hk]
  have h : k < s.data.toList.length := by simpa using hk
  rw [List.getD_eq_getElem?_getD, List.getElem?_eq_getElem h]
  rfl
theorem dec_all (n k : Nat) : allD (decL n k) := (decL_num k n).2
theorem dec_val {n k : Nat} (h : n < 10 ^ k) : numV (decL n k) = n := by
  rw [numV_yes (dec_all n k), (decL_num k n).1, Nat.mod_eq_of_lt h]
/-! ### The parts of such a string -/
end At
end Go.Proofs.YtjgcbeihgeaimaaGreatDoor
/-
  Reading numbers between separators: fields of package moment and its function literal.
-/
namespace Go.Proofs.YtjgcbeihgeaimaaGreatDoor
namespace Ap
open Go.RowKit Lw

/-- What the literal captures: the two strings, the numbers, and whether the byte before was one of a number. -/
structure FS (s p : ByteArray) (w0 : World) (B : Nat) (L : List Int) (b : Bool) (wr : World) : Prop where
  cs : wr.heap[B]? = some (.cells #[.string s] 9 (0, 0))
  cp : wr.heap[B + 1]? = some (.cells #[.string p] 9 (0, 0))
  co : ∃ v, wr.heap[B + 2]? = some (.cells #[v] 62 (0, 0)) ∧ wr.ownsRow (B + 4) 3 1 v L.length (L.map (Value.int .i64))
  ci : wr.heap[B + 3]? = some (.cells #[.bool b] 4 (0, 0))
  below : Below B w0 wr
theorem owns_set {w : World} {base : Nat} {e : TypeId} {g n cap : Nat} {xs : List Value} {u : Value} (h : w.ownsRow base e 1 (.slice (some ⟨g, 0, none⟩) n cap) n (xs ++ [u])) (u' : Value) :
    (w.setCell ⟨g, xs.length, none⟩ u').ownsRow base e 1 (.slice (some ⟨g, 0, none⟩) n cap) n (xs ++ [u']) := by
  obtain ⟨h1, h2⟩ := h
  refine ⟨by simpa using h1, ?_⟩
  rcases h2 with ⟨h2, _⟩ | ⟨g', cap', cur, hv, hg, hh, hc1, hc2, hsz, ht⟩
  · cases h2
  · cases hv
    refine Or.inr ⟨g, cap, cur.set! xs.length u', rfl, hg, ?_, hc1, hc2, by simpa using hsz, ?_⟩
    · have hlt := lt_of_block hh
      have h' : w.heap[g] = .cells cur e (0, 0) := by simpa [Array.getElem?_eq_getElem hlt] using hh
      show (w.heap.modify g _)[g]? = _
      rw [Array.getElem?_eq_getElem (by simpa using hlt), Array.getElem_modify_self, h']
      rfl
    · have hn : n = xs.length + 1 := by simpa using h1.symm
      subst hn
      simp only [Nat.mul_one] at ht ⊢
      rw [Array.set!_eq_setIfInBounds, Array.toList_setIfInBounds]
      have hl : xs.length < cur.toList.length := by simp at hsz ⊢; omega
      rw [List.take_set, ht]
      simp
theorem FS.drewN {s p : ByteArray} {w0 : World} {B : Nat} {L : List Int} {b : Bool} {wr : World} (h : FS s p w0 B L b wr) (n : Nat) : FS s p w0 B L b (wr.drewN n) := by
  obtain ⟨h1, h2, ⟨v, h3, h4⟩, h5, h6⟩ := h
  exact ⟨h1, h2, ⟨v, h3, h4⟩, h5, ⟨h6.os, h6.tape, h6.output, h6.size, h6.block⟩⟩
theorem FS.drew {s p : ByteArray} {w0 : World} {B : Nat} {L : List Int} {b : Bool} {wr : World} (h : FS s p w0 B L b wr) : FS s p w0 B L b wr.drew := by
  obtain ⟨h1, h2, ⟨v, h3, h4⟩, h5, h6⟩ := h
  exact ⟨h1, h2, ⟨v, h3, h4⟩, h5, h6.drew⟩
theorem FS.put {s p : ByteArray} {w0 : World} {B : Nat} {X : List Int} {u : Int} {b : Bool} {wr : World} {g n cap : Nat} (h : FS s p w0 B (X ++ [u]) b wr) (hv : wr.heap[B + 2]? = some (.cells #[.slice (some ⟨g, 0, none⟩) n cap] 62 (0, 0))) (u' : Int) :
    n = X.length + 1 ∧ wr.cell? ⟨g, X.length, none⟩ = some (.int .i64 u) ∧ wr.frozen? ⟨g, X.length, none⟩ = false ∧ B + 4 ≤ g ∧ FS s p w0 B (X ++ [u']) b (wr.setCell ⟨g, X.length, none⟩ (.int .i64 u')) := by
  obtain ⟨a1, a2, ⟨v, a3, a4⟩, a5, a6⟩ := h
  rw [hv] at a3
  have a3' : v = .slice (some ⟨g, 0, none⟩) n cap := by simpa using a3.symm
  subst a3'
  have hn : n = X.length + 1 := by
    rcases a4.2 with ⟨e, _⟩ | ⟨g', cap', cur, e, _⟩
    · cases e
    · cases e; simp
  have ml : (X ++ [u]).map (Value.int .i64) = X.map (Value.int .i64) ++ [.int .i64 u] := by simp
  have ll : (X ++ [u]).length = n := by simp; omega
  rw [ml, ll] at a4
  have ce := a4.cells (g := g) rfl X.length (.int .i64 u) (by simp)
  have ae : (⟨g, 0, none⟩ : Addr).add X.length = ⟨g, X.length, none⟩ := by
    unfold Addr.add
    split
    · simp [*]
    · simp
  rw [ae] at ce
  have hgb := (a4.lt g rfl).1
  have hfz : wr.frozen? ⟨g, X.length, none⟩ = false := by
    rcases a4.2 with ⟨e, _⟩ | ⟨g', cap', cur, e, _, hh, _, _, hs, _⟩
    · cases e
    · cases e
      simp [World.frozen?, hh]
  have st := owns_set a4 (.int .i64 u')
  rw [List.length_map] at st
  refine ⟨hn, ce, hfz, hgb, by rw [Below.heap_setCell _ _ _ _ (by simp; omega)]; exact a1, by rw [Below.heap_setCell _ _ _ _ (by simp; omega)]; exact a2,
    ⟨.slice (some ⟨g, 0, none⟩) n cap, by rw [Below.heap_setCell _ _ _ _ (by simp; omega)]; exact hv, ?_⟩, by rw [Below.heap_setCell _ _ _ _ (by simp; omega)]; exact a5, a6.setCell (by simp; omega) _⟩
  have e1 : (X ++ [u']).map (Value.int .i64) = X.map (Value.int .i64) ++ [.int .i64 u'] := by simp
  have e2 : (X ++ [u']).length = n := by simp; omega
  rw [e1, e2]
  exact st
end Ap
end Go.Proofs.YtjgcbeihgeaimaaGreatDoor
/-
  Plain laws of MomentRounds, second part: the time of a text, and the text of that time; no walk here.
-/
namespace Go.Proofs.YtjgcbeihgeaimaaGreatDoor
namespace At
open Go.RowKit Lw Ap Go.Proofs.YtjgcbeihgeaimaaGreatDoor.Mp Go.Proofs.YtjgcbeihgeaimaaGreatDoor.Mw

theorem dec1 {u k : Nat} {l : List UInt8} (h : u < 10 ^ k) (e : decL u k = l) : numV l = u := by rw [← e, dec_val h]
/-! ### Texts of days -/
end At
end Go.Proofs.YtjgcbeihgeaimaaGreatDoor
/-
  The walk of ParseDay of package moment.
-/
namespace Go.Proofs.YtjgcbeihgeaimaaGreatDoor
namespace Ap
open Go.RowKit Lw Go.Proofs.YtjgcbeihgeaimaaGreatDoor.Mp

theorem time_bd {y m d : Int} (hw : wholeP y m d) : -1000000000000000 ≤ timeOf y m d 0 0 0 0 ∧ timeOf y m d 0 0 0 0 ≤ 4000000000000000 := by
  have r := wholeP_range hw
  have b := bgv_bd (dn y m d) y m (by omega) (by omega)
  unfold timeOf
  omega
end Ap
end Go.Proofs.YtjgcbeihgeaimaaGreatDoor
/-
  Plain facts of MomentNames: what the calls return at its constants; no walk here.
-/
namespace Go.Proofs.YtjgcbeihgeaimaaGreatDoor
namespace At
open Go.RowKit Lw Ap Go.Proofs.YtjgcbeihgeaimaaGreatDoor.Mp Go.Proofs.YtjgcbeihgeaimaaGreatDoor.Mw

instance (y m d h i s u : Int) : Decidable (fromOk y m d h i s u) := by unfold fromOk wholeP leapday; infer_instance
instance (s : ByteArray) : Decidable (textP s) := by unfold textP; infer_instance
instance (s : ByteArray) : Decidable (okText s) := by unfold okText; infer_instance
instance (s : ByteArray) : Decidable (dayP s) := by unfold dayP; infer_instance
instance (s : ByteArray) : Decidable (okDay s) := by unfold okDay; infer_instance
/-! ### The constants of alive -/
end At
end Go.Proofs.YtjgcbeihgeaimaaGreatDoor
/-
  Reading digits: number of the reference, value of package angle.
-/
namespace Go.Proofs.YtjgcbeihgeaimaaGreatDoor
namespace Gp
open Go.RowKit Lw

def numL (l : List UInt8) : Int := l.foldl (fun n c => 10 * n + ((c.toNat : Int) - 48)) 0
def allD (l : List UInt8) : Prop := ∀ c ∈ l, 48 ≤ (c.toNat : Int) ∧ (c.toNat : Int) ≤ 57
instance (l : List UInt8) : Decidable (allD l) := by unfold allD; infer_instance
/-- The number that a string of digits is, or -1. -/
def numV (l : List UInt8) : Int := if allD l then numL l else -1
theorem numL_snoc (l : List UInt8) (c : UInt8) : numL (l ++ [c]) = 10 * numL l + ((c.toNat : Int) - 48) := by simp [numL]
theorem allD_snoc {l : List UInt8} {c : UInt8} (h : allD l) (h1 : 48 ≤ (c.toNat : Int)) (h2 : (c.toNat : Int) ≤ 57) : allD (l ++ [c]) := fun x hx => by
  rcases List.mem_append.1 hx with g | g
  · exact h x g
  · have := List.mem_singleton.1 g; subst this; exact ⟨h1, h2⟩
theorem take_snoc (s : ByteArray) (k : Nat) (h : k < s.size) : s.data.toList.take (k + 1) = s.data.toList.take k ++ [s[k]] := by
  rw [List.take_succ_eq_append_getElem (by simpa using h)]; rfl
theorem take_all (s : ByteArray) (k : Nat) (h : ¬ k < s.size) : s.data.toList.take k = s.data.toList := List.take_of_length_le (by simp; omega)
theorem byte_bd (b : UInt8) : 0 ≤ (b.toNat : Int) ∧ (b.toNat : Int) < 256 := by have := b.toNat_lt; omega
end Gp
end Go.Proofs.YtjgcbeihgeaimaaGreatDoor
/-
  Powers of ten, rounding, the common divisor: package angle and the reference.
-/
namespace Go.Proofs.YtjgcbeihgeaimaaGreatDoor
namespace Gp
open Go.RowKit Lw

/-- A power of ten. -/
def tenI (k : Nat) : Int := (10 ^ k : Nat)
/-- Half to even. -/
def rndI (a u : Int) : Int := a / u + (if u < 2 * (a % u) ∨ (2 * (a % u) = u ∧ (a / u) % 2 = 1) then 1 else 0)
end Gp
end Go.Proofs.YtjgcbeihgeaimaaGreatDoor
/-
  The parts of a text of hours or degrees: the reference.
-/
namespace Go.Proofs.YtjgcbeihgeaimaaGreatDoor
namespace Gp
open Go.RowKit Lw

/-- The number of two digits at a place, or -1. -/
def two (s : ByteArray) (i : Nat) : Int := numV (s.extract i (i + 2)).data.toList
/-- Where the spaces and the point stand. -/
def shapeP (s : ByteArray) : Prop := 8 ≤ s.size ∧ ((s.get! 2).toNat : Int) = 32 ∧ ((s.get! 5).toNat : Int) = 32 ∧ s.size ≠ 9 ∧ s.size ≤ 15 ∧ (8 < s.size → ((s.get! 8).toNat : Int) = 46)
def restOf (s : ByteArray) : ByteArray := if s.size = 8 then ByteArray.empty else s.extract 9 s.size
def validP (s : ByteArray) : Prop := shapeP s ∧ 0 ≤ two s 0 ∧ (0 ≤ two s 3 ∧ two s 3 ≤ 59) ∧ (0 ≤ two s 6 ∧ two s 6 ≤ 59) ∧ 0 ≤ numV (restOf s).data.toList
end Gp
end Go.Proofs.YtjgcbeihgeaimaaGreatDoor
/-
  The parts of a text of hours or degrees: the reference, where spaces and point stand right.
-/
namespace Go.Proofs.YtjgcbeihgeaimaaGreatDoor
namespace Gp
open Go.RowKit Lw

/-- What lies at an address. -/
def cellOf (w : World) (p : Addr) : Value := (w.cell? p).getD undef
theorem cellOf_some {w : World} {p : Addr} (h : (w.cell? p).isSome = true) : w.cell? p = some (cellOf w p) := by
  obtain ⟨v, hv⟩ := Option.isSome_iff_exists.1 h
  rw [cellOf, hv]; rfl
theorem range_set {w : World} {b : Nat} {cs : List Value} (h : w.rangeAt b 0 cs) (j : Nat) (hj : j < cs.length) (v : Value) : (w.setCell ⟨b, j, none⟩ v).rangeAt b 0 (cs.set j v) := fun i x hx => by
  have hu : w.cell? ⟨b, j, none⟩ = some cs[j] := by have := h j cs[j] (List.getElem?_eq_getElem hj); simpa using this
  have hi : i < cs.length := by have := (List.getElem?_eq_some_iff.1 hx).1; simpa using this
  rw [Nat.zero_add]
  by_cases e : j = i
  · subst e
    rw [World.cell?_setCell_same _ _ _ hu]
    rw [List.getElem?_set_self hj] at hx
    exact hx
  · rw [World.cell?_setCell_other _ _ _ _ (by intro g; injection g with _ g2 _; exact e g2)]
    rw [List.getElem?_set_ne e] at hx
    have := h i x hx
    rwa [Nat.zero_add] at this
end Gp
end Go.Proofs.YtjgcbeihgeaimaaGreatDoor
/-
  What the angle of a text is: hours and degrees with parts.
-/
namespace Go.Proofs.YtjgcbeihgeaimaaGreatDoor
namespace Gp
open Go.RowKit Lw

/-- A whole number of seconds. -/
def secs (s : ByteArray) : Int := two s 0 * 3600 + two s 3 * 60 + two s 6
/-- The angle of a text whose second is so many micro-arcseconds. -/
def angV (s : ByteArray) (u : Int) : Int := secs s * u + numV (restOf s).data.toList * (u / tenI (restOf s).size)
theorem mul_bd {a b m n : Int} (h0 : 0 ≤ a) (h1 : a ≤ m) (g0 : 0 ≤ b) (g1 : b ≤ n) : 0 ≤ a * b ∧ a * b ≤ m * n :=
  ⟨Int.mul_nonneg h0 g0, Int.le_trans (Int.mul_le_mul_of_nonneg_right h1 g0) (Int.mul_le_mul_of_nonneg_left g1 (by omega))⟩
def RaIs (s : ByteArray) (v e : Int) : Prop := (validP s ∧ two s 0 ≤ 23 ∧ v = angV s 15000000 ∧ e = 0) ∨ (¬ (validP s ∧ two s 0 ≤ 23) ∧ v = 0 ∧ e = 12)
theorem RaIs.det {s : ByteArray} {v e v' e' : Int} (h : RaIs s v e) (g : RaIs s v' e') : v = v' ∧ e = e' := by
  rcases h with ⟨h1, h2, h3, h4⟩ | ⟨h1, h2, h3⟩ <;> rcases g with ⟨g1, g2, g3, g4⟩ | ⟨g1, g2, g3⟩
  · exact ⟨by rw [h3, g3], by rw [h4, g4]⟩
  · exact absurd ⟨h1, h2⟩ g1
  · exact absurd ⟨g1, g2⟩ h1
  · exact ⟨by rw [h2, g2], by rw [h3, g3]⟩
/-- The text of a declination: a sign, and the rest. -/
def signP (s : ByteArray) : Prop := 0 < s.size ∧ (((s.get! 0).toNat : Int) = 43 ∨ ((s.get! 0).toNat : Int) = 45)
def tailOf (s : ByteArray) : ByteArray := s.extract 1 s.size
def decOk (s : ByteArray) : Prop := signP s ∧ validP (tailOf s) ∧ two (tailOf s) 0 ≤ 90 ∧ angV (tailOf s) 1000000 ≤ 324000000000
def DecIs (s : ByteArray) (v e : Int) : Prop := (decOk s ∧ v = (if ((s.get! 0).toNat : Int) = 45 then -angV (tailOf s) 1000000 else angV (tailOf s) 1000000) ∧ e = 0) ∨ (¬ decOk s ∧ v = 0 ∧ e = 12)
theorem DecIs.det {s : ByteArray} {v e v' e' : Int} (h : DecIs s v e) (g : DecIs s v' e') : v = v' ∧ e = e' := by
  rcases h with ⟨h1, h3, h4⟩ | ⟨h1, h2, h3⟩ <;> rcases g with ⟨g1, g3, g4⟩ | ⟨g1, g2, g3⟩
  · exact ⟨by rw [h3, g3], by rw [h4, g4]⟩
  · exact absurd h1 g1
  · exact absurd g1 h1
  · exact ⟨by rw [h2, g2], by rw [h3, g3]⟩
end Gp
end Go.Proofs.YtjgcbeihgeaimaaGreatDoor
/-
  Plain law of observations: names, checks, and what the columns of a line say; no walk here.
-/
namespace Go.Proofs.YtjgcbeihgeaimaaGreatDoor
namespace Op
open Go.RowKit Lw Go.Proofs.YtjgcbeihgeaimaaGreatDoor.Ap Go.Proofs.YtjgcbeihgeaimaaGreatDoor.Mp

/-! ### Words -/
def dgP (c : Int) : Prop := 48 ≤ c ∧ c ≤ 57
def ltP (c : Int) : Prop := (65 ≤ c ∧ c ≤ 90) ∨ (97 ≤ c ∧ c ≤ 122)
instance (c : Int) : Decidable (dgP c) := by unfold dgP; infer_instance
instance (c : Int) : Decidable (ltP c) := by unfold ltP; infer_instance
def dgB (c : Int) : Bool := decide (dgP c)
def ltB (c : Int) : Bool := decide (ltP c)
/-- Digits and letters alone. -/
def wordP (l : List UInt8) : Prop := ∀ c ∈ l, dgP (c.toNat : Int) ∨ ltP (c.toNat : Int)
instance (l : List UInt8) : Decidable (wordP l) := by unfold wordP; infer_instance
def wordB (l : List UInt8) : Bool := decide (wordP l)
theorem wordP_snoc {l : List UInt8} {c : UInt8} (h : wordP l) (g : dgP (c.toNat : Int) ∨ ltP (c.toNat : Int)) : wordP (l ++ [c]) := fun x hx => by
  rcases List.mem_append.1 hx with hx | hx
  · exact h x hx
  · rw [List.mem_singleton.1 hx]; exact g
theorem word_not (s : ByteArray) (k : Nat) (hk : k < s.size) (h : ¬ (dgP (s[k].toNat : Int) ∨ ltP (s[k].toNat : Int))) : wordB s.data.toList = false := by
  refine decide_eq_false fun g => h (g _ ?_)
  have : s[k] = s.data.toList[k]'(by simpa using hk) := rfl
  rw [this]; exact List.getElem_mem _
theorem word_all (s : ByteArray) (k : Nat) (hk : ¬ k < s.size) (h : wordP (s.data.toList.take k)) : wordB s.data.toList = true := by
  rw [take_all s k hk] at h
  exact decide_eq_true h
/-- Digits alone, and at least one. -/
def digsP (l : List UInt8) : Prop := 0 < l.length ∧ allD l
instance (l : List UInt8) : Decidable (allD l) := by unfold allD; infer_instance
instance (l : List UInt8) : Decidable (digsP l) := by unfold digsP; infer_instance
def digsB (l : List UInt8) : Bool := decide (digsP l)
/-- The name of a numbered object. -/
def numbP (s : ByteArray) : Prop := s.size = 5 ∧ ((bt s 0 = 126 ∧ wordP (s.extract 1 5).data.toList) ∨ (wordP (s.extract 0 1).data.toList ∧ digsP (s.extract 1 5).data.toList))
instance (s : ByteArray) : Decidable (numbP s) := by unfold numbP; infer_instance
def numbB (s : ByteArray) : Bool := decide (numbP s)
def nameP (s : ByteArray) : Prop := numbP s ∨ (1 ≤ s.size ∧ s.size ≤ 7 ∧ wordP s.data.toList)
instance (s : ByteArray) : Decidable (nameP s) := by unfold nameP; infer_instance
def nameB (s : ByteArray) : Bool := decide (nameP s)
/-! ### Observations -/
structure Ob where
  name : ByteArray
  site : ByteArray
  t : Int
  ra : Int
  dec : Int
  sg : Int
  mag : Int
  band : Int
abbrev obsC (o : Ob) : List Value := [.string o.name, .string o.site, .int .i64 o.t, .int .i64 o.ra, .int .i64 o.dec, .int .i64 o.sg, .int .i64 o.mag, .int .u8 o.band]
abbrev obsV (o : Ob) : Value := .agg #[.string o.name, .string o.site, .int .i64 o.t, .int .i64 o.ra, .int .i64 o.dec, .int .i64 o.sg, .int .i64 o.mag, .int .u8 o.band]
def zeroO : Ob := ⟨ByteArray.empty, ByteArray.empty, 0, 0, 0, 0, 0, 0⟩
/-- A time of which a date can be told. -/
def timeP (t : Int) : Prop := bgv (-10227) 1972 1 ≤ t ∧ t < bgv 36525 2100 1
def magP (m b : Int) : Prop := (m = 9999 ∧ b = 32) ∨ (-500 ≤ m ∧ m ≤ 3000 ∧ (b = 32 ∨ ltP b))
def okO (o : Ob) : Prop := timeP o.t ∧ nameP o.name ∧ o.site.size = 3 ∧ wordP o.site.data.toList ∧ 0 ≤ o.ra ∧ o.ra < 1296000000000 ∧ -324000000000 ≤ o.dec ∧ o.dec ≤ 324000000000 ∧ 1 ≤ o.sg ∧ o.sg ≤ 10000000000 ∧ magP o.mag o.band
instance (m b : Int) : Decidable (magP m b) := by unfold magP; infer_instance
instance (t : Int) : Decidable (timeP t) := by unfold timeP; infer_instance
instance (o : Ob) : Decidable (okO o) := by unfold okO; infer_instance
def checkC (o : Ob) : Int := if okO o then 0 else 8
/-! ### Columns -/
/-- Without spaces at the end. -/
def cutL (l : List UInt8) : List UInt8 := (l.reverse.dropWhile (fun c => c == 32)).reverse
def cutS (s : ByteArray) : ByteArray := ⟨(cutL s.data.toList).toArray⟩
def blankP (s : ByteArray) : Prop := ∀ c ∈ s.data.toList, c = 32
instance (s : ByteArray) : Decidable (blankP s) := by unfold blankP; infer_instance
/-- How many bytes stand behind the first point, or 0. -/
def decs (s : ByteArray) : Nat := s.size - ptS s - 1
def magN (s : ByteArray) : Int := 100 * (bt s 1 - 48) + 10 * (bt s 3 - 48) + (if bt s 4 = 32 then 0 else bt s 4 - 48)
/-- What a column of a magnitude says. -/
def MagIs (s : ByteArray) (m : Int) : Prop := bt s 2 = 46 ∧ dgP (bt s 1) ∧ dgP (bt s 3) ∧ (dgP (bt s 4) ∨ bt s 4 = 32) ∧
  ((bt s 0 = 45 ∧ m = -magN s ∧ 0 < magN s) ∨ (bt s 0 = 32 ∧ m = magN s) ∨ (dgP (bt s 0) ∧ bt s 0 ≠ 48 ∧ m = magN s + 1000 * (bt s 0 - 48) ∧ m ≤ 3000))
theorem MagIs.uniq {s : ByteArray} {m m' : Int} (a : MagIs s m) (b : MagIs s m') : m = m' := by
  obtain ⟨_, _, _, _, a⟩ := a
  obtain ⟨_, _, _, _, b⟩ := b
  unfold dgP at *
  omega
/-- What a line says of an observation. -/
structure Good (s : ByteArray) (o : Ob) : Prop where
  size : s.size = 80
  mark : bt s 12 = 32 ∧ bt s 13 = 32 ∧ bt s 14 = 67
  b1 : blankP (s.extract 56 65)
  b2 : blankP (s.extract 71 77)
  p : 3 ≤ decs (cutS (s.extract 15 32)) ∧ decs (cutS (s.extract 15 32)) ≤ 6
  q : 1 ≤ decs (cutS (s.extract 32 44)) ∧ decs (cutS (s.extract 32 44)) ≤ 3
  r : decs (cutS (s.extract 44 56)) ≤ 2
  day : PDayIs (cutS (s.extract 15 32)) o.t 0
  ra : Gp.RaIs (cutS (s.extract 32 44)) o.ra 0
  dec : Gp.DecIs (cutS (s.extract 44 56)) o.dec 0
  site : o.site = s.extract 77 80
  sg : o.sg = (if decs (cutS (s.extract 44 56)) = 0 then 1000000 else if decs (cutS (s.extract 44 56)) = 1 then 300000 else 100000)
  name : (blankP (s.extract 0 5) ∧ o.name = cutS (s.extract 5 12) ∧ ¬ numbP o.name) ∨ (¬ blankP (s.extract 0 5) ∧ o.name = s.extract 0 5 ∧ numbP o.name ∧ blankP (s.extract 5 12))
  mag : (blankP (s.extract 65 71) ∧ o.mag = 9999 ∧ o.band = 32) ∨ (¬ blankP (s.extract 65 71) ∧ MagIs (s.extract 65 70) o.mag ∧ o.band = bt s 70)
  ok : okO o
theorem Good.uniq {s : ByteArray} {o o' : Ob} (a : Good s o) (b : Good s o') : o = o' := by
  have e1 := (a.day.uniq b.day).1
  have e2 := (a.ra.det b.ra).1
  have e3 := (a.dec.det b.dec).1
  have e4 := a.site.trans b.site.symm
  have e5 := a.sg.trans b.sg.symm
  have e6 : o.name = o'.name := by
    rcases a.name with ⟨x1, x2, _⟩ | ⟨x1, x2, _⟩ <;> rcases b.name with ⟨y1, y2, _⟩ | ⟨y1, y2, _⟩
    · rw [x2, y2]
    · exact absurd x1 y1
    · exact absurd y1 x1
    · rw [x2, y2]
  have e7 : o.mag = o'.mag ∧ o.band = o'.band := by
    rcases a.mag with ⟨x1, x2, x3⟩ | ⟨x1, x2, x3⟩ <;> rcases b.mag with ⟨y1, y2, y3⟩ | ⟨y1, y2, y3⟩
    · exact ⟨by omega, by omega⟩
    · exact absurd x1 y1
    · exact absurd y1 x1
    · exact ⟨x2.uniq y2, by omega⟩
  obtain ⟨e7, e8⟩ := e7
  cases o; cases o'
  simp only at e1 e2 e3 e4 e5 e6 e7 e8
  rw [e1, e2, e3, e4, e5, e6, e7, e8]
/-- What Parse returns. -/
def ObsIs (s : ByteArray) (o : Ob) (c : Int) : Prop := (Good s o ∧ c = 0) ∨ ((∀ x, ¬ Good s x) ∧ o = zeroO ∧ c = 12)
theorem ObsIs.uniq {s : ByteArray} {o o' : Ob} {c c' : Int} (a : ObsIs s o c) (b : ObsIs s o' c') : o = o' ∧ c = c' := by
  rcases a with ⟨a1, a2⟩ | ⟨a1, a2, a3⟩ <;> rcases b with ⟨b1, b2⟩ | ⟨b1, b2, b3⟩
  · exact ⟨a1.uniq b1, by omega⟩
  · exact absurd a1 (b1 _)
  · exact absurd b1 (a1 _)
  · exact ⟨by rw [a2, b2], by omega⟩
/-! ### Lines -/
def spL (n : Nat) : List UInt8 := List.replicate n 32
/-- The text of a magnitude. -/
def magB (m : Int) : List UInt8 := (if m < 0 then [45] else []) ++ Lib.itoa ((m.natAbs / 100 : Nat) : Int) ++ [46] ++ At.decL m.natAbs 2
def magL (m : Int) : List UInt8 := spL (5 - (magB m).length) ++ magB m
def nameF (s : ByteArray) : List UInt8 := if numbP s then s.data.toList ++ spL 9 else spL 5 ++ s.data.toList ++ spL (9 - s.size)
def magF (m b : Int) : List UInt8 := if m = 9999 then spL 6 else magL m ++ [UInt8.ofNat b.toNat]
end Op
end Go.Proofs.YtjgcbeihgeaimaaGreatDoor
/-
  Reading hours or degrees: the walk of package angle's read.
-/
namespace Go.Proofs.YtjgcbeihgeaimaaGreatDoor
namespace Gp
open Go.RowKit Lw

theorem below_iter (w : World) (s : ByteArray) (k : Nat) : Below w.heap.size w (w.iter s k) := by
  exact (Below.refl _ _).alloc (Nat.le_refl _) _
end Gp
end Go.Proofs.YtjgcbeihgeaimaaGreatDoor
/-
  The walks of isDigit, isLetter, isWord of package obs, and of digit, letter, word, digits of the reference.
-/
namespace Go.Proofs.YtjgcbeihgeaimaaGreatDoor
namespace Ow
open Go.RowKit Lw Go.Proofs.YtjgcbeihgeaimaaGreatDoor.Ap Go.Proofs.YtjgcbeihgeaimaaGreatDoor.Op

theorem dgB_cases (r : Int) : (48 ≤ r ∧ r ≤ 57 ∧ dgB r = true) ∨ (r < 48 ∧ dgB r = false) ∨ (48 ≤ r ∧ 57 < r ∧ dgB r = false) := by
  by_cases h : 48 ≤ r
  · by_cases g : r ≤ 57
    · exact Or.inl ⟨h, g, decide_eq_true ⟨h, g⟩⟩
    · exact Or.inr (Or.inr ⟨h, by omega, decide_eq_false fun x => g x.2⟩)
  · exact Or.inr (Or.inl ⟨by omega, decide_eq_false fun x => h x.1⟩)
theorem ltB_cases (r : Int) : (65 ≤ r ∧ r ≤ 90 ∧ ltB r = true) ∨ (97 ≤ r ∧ r ≤ 122 ∧ ltB r = true) ∨ (r < 65 ∧ ltB r = false) ∨ (90 < r ∧ r < 97 ∧ ltB r = false) ∨ (122 < r ∧ ltB r = false) := by
  by_cases h : 65 ≤ r ∧ r ≤ 90
  · exact Or.inl ⟨h.1, h.2, decide_eq_true (Or.inl h)⟩
  · by_cases g : 97 ≤ r ∧ r ≤ 122
    · exact Or.inr (Or.inl ⟨g.1, g.2, decide_eq_true (Or.inr g)⟩)
    · have n : ltB r = false := decide_eq_false fun x => by rcases x with x | x <;> omega
      by_cases a : r < 65
      · exact Or.inr (Or.inr (Or.inl ⟨a, n⟩))
      · by_cases b : r < 97
        · exact Or.inr (Or.inr (Or.inr (Or.inl ⟨by omega, b, n⟩)))
        · exact Or.inr (Or.inr (Or.inr (Or.inr ⟨by omega, n⟩)))
set_option maxHeartbeats 400000 in
theorem isDigit_any (r : Int) (w : World) : Calls Tryz.prog 102 #[.int .i32 r] w fun e w' => e = .returned (.bool (dgB r)) ∧ w = w' := by
  rcases dgB_cases r with ⟨h, g, e⟩ | ⟨h, e⟩ | ⟨h, g, e⟩
  all_goals
    rw [e]
    clear e
    go_enter Tryz.func102, Tryz.ntmps102
    go_wp2
    go_ret
    first
      | exact ⟨rfl, rfl⟩
      | exact ⟨ret_b (by simp; omega), rfl⟩
set_option maxHeartbeats 400000 in
theorem isLetter_any (r : Int) (w : World) : Calls Tryz.prog 79 #[.int .i32 r] w fun e w' => e = .returned (.bool (ltB r)) ∧ w = w' := by
  rcases ltB_cases r with ⟨h, g, e⟩ | ⟨h, g, e⟩ | ⟨h, e⟩ | ⟨h, g, e⟩ | ⟨h, e⟩
  all_goals
    rw [e]
    clear e
    go_enter Tryz.func79, Tryz.ntmps79
    go_wp2
    go_ret
    first
      | exact ⟨rfl, rfl⟩
      | exact ⟨ret_b (by simp; omega), rfl⟩
set_option maxHeartbeats 400000 in
theorem rdigit_any (r : Int) (w : World) : Calls Tryz.prog 105 #[.int .u8 r] w fun e w' => e = .returned (.bool (dgB r)) ∧ w = w' := by
  rcases dgB_cases r with ⟨h, g, e⟩ | ⟨h, e⟩ | ⟨h, g, e⟩
  all_goals
    rw [e]
    clear e
    go_enter Tryz.func105, Tryz.ntmps105
    go_wp2
    go_ret
    first
      | exact ⟨rfl, rfl⟩
      | exact ⟨ret_b (by simp; omega), rfl⟩
set_option maxHeartbeats 400000 in
theorem rletter_any (r : Int) (w : World) : Calls Tryz.prog 83 #[.int .u8 r] w fun e w' => e = .returned (.bool (ltB r)) ∧ w = w' := by
  rcases ltB_cases r with ⟨h, g, e⟩ | ⟨h, g, e⟩ | ⟨h, e⟩ | ⟨h, g, e⟩ | ⟨h, e⟩
  all_goals
    rw [e]
    clear e
    go_enter Tryz.func83, Tryz.ntmps83
    go_wp2
    go_ret
    first
      | exact ⟨rfl, rfl⟩
      | exact ⟨ret_b (by simp; omega), rfl⟩
/-- A byte that is no letter and no digit, or the byte itself, as the range over a string gives it. -/
theorem rune_word {s : ByteArray} {k : Nat} (hlt : k < s.size) : (Utf8.decode s k = ((s[k]'hlt).toNat, 1)) ∨ (¬ (dgP (s[k].toNat : Int) ∨ ltP (s[k].toNat : Int)) ∧ 128 ≤ ((Utf8.decode s k).1 : Int) ∧ ((Utf8.decode s k).1 : Int) ≤ 2147483647) := by
  by_cases ha : (s[k]'hlt).toNat < 128
  · exact Or.inl (decode_ascii s k hlt ha)
  · have := (decode_high s k hlt (by omega)).1
    have := decode_le s k
    refine Or.inr ⟨fun h => ?_, by omega, by omega⟩
    unfold dgP ltP at h
    omega
theorem dg_cases (c : Int) : (dgP c ∧ dgB c = true) ∨ (¬ dgP c ∧ dgB c = false) := by
  by_cases h : dgP c
  · exact Or.inl ⟨h, decide_eq_true h⟩
  · exact Or.inr ⟨h, decide_eq_false h⟩
theorem lt_cases (c : Int) : (ltP c ∧ ltB c = true) ∨ (¬ ltP c ∧ ltB c = false) := by
  by_cases h : ltP c
  · exact Or.inl ⟨h, decide_eq_true h⟩
  · exact Or.inr ⟨h, decide_eq_false h⟩
set_option maxHeartbeats 1000000 in
theorem isWord_it (s : ByteArray) (w : World) (hs : s.size ≤ maxLen) :
    Calls Tryz.prog 78 #[.string s] w fun e w' => e = .returned (.bool (wordB s.data.toList)) ∧ ∃ k, w' = w.iter s k := by
  unfold maxLen at hs
  go_enter Tryz.func78, Tryz.ntmps78
  go_wp2
  go_loopw [4] (fun n w' => ∃ k : Nat, k ≤ s.size ∧ w' = w.iter s k ∧ Hid (wordP (s.data.toList.take k))) (fun _ w' => s.size - w'.iterPos w.heap.size)
  case atStart => exact ⟨0, Nat.zero_le _, rfl, Lib.hid (by intro c hc; simp at hc)⟩
  case round =>
    obtain ⟨k, hk, rfl, D⟩ := hrel
    by_cases hlt : k < s.size
    · have hnx : ∀ ty, (Instr.next (.pointer (some ⟨w.heap.size, 0, none⟩)) true ty).run Tryz.prog (w.iter s k) = _ := fun ty => run_next_any w s k ty hlt
      have bb := byte_bd s[k]
      rcases rune_word hlt with hr | ⟨d, r1, r2⟩
      · rw [hr] at hnx
        rcases dg_cases (s[k].toNat : Int) with ⟨d1, e1⟩ | ⟨d1, e1⟩
        · have D2 := Lib.hid (show wordP (s.data.toList.take (k + 1)) by rw [take_snoc s k hlt]; exact wordP_snoc D.out (Or.inl d1))
          clear d1
          go_wp2_with (first | (go_at_call 102; refine (isDigit_any _ _).mono ?_; rintro e w' ⟨rfl, rfl⟩) | (go_at_call 79; refine (isLetter_any _ _).mono ?_; rintro e w' ⟨rfl, rfl⟩))
          go_roundw
          case rel => exact ⟨k + 1, by omega, rfl, D2⟩
          case measure => simp; omega
        · rcases lt_cases (s[k].toNat : Int) with ⟨d2, e2⟩ | ⟨d2, e2⟩
          · have D2 := Lib.hid (show wordP (s.data.toList.take (k + 1)) by rw [take_snoc s k hlt]; exact wordP_snoc D.out (Or.inr d2))
            clear d1 d2
            go_wp2_with (first | (go_at_call 102; refine (isDigit_any _ _).mono ?_; rintro e w' ⟨rfl, rfl⟩) | (go_at_call 79; refine (isLetter_any _ _).mono ?_; rintro e w' ⟨rfl, rfl⟩))
            go_roundw
            case rel => exact ⟨k + 1, by omega, rfl, D2⟩
            case measure => simp; omega
          · have N := Lib.hid (word_not s k hlt (fun h => h.elim d1 d2))
            clear d1 d2
            go_wp2_with (first | (go_at_call 102; refine (isDigit_any _ _).mono ?_; rintro e w' ⟨rfl, rfl⟩) | (go_at_call 79; refine (isLetter_any _ _).mono ?_; rintro e w' ⟨rfl, rfl⟩))
            go_ret
            exact ⟨ret_b N.out.symm, _, rfl⟩
      · have N := Lib.hid (word_not s k hlt d)
        clear d
        generalize (Utf8.decode s k).1 = r at *
        have e1 : dgB (r : Int) = false := decide_eq_false fun h => by unfold dgP at h; omega
        have e2 : ltB (r : Int) = false := decide_eq_false fun h => by unfold ltP at h; omega
        go_wp2_with (first | (go_at_call 102; refine (isDigit_any _ _).mono ?_; rintro e w' ⟨rfl, rfl⟩) | (go_at_call 79; refine (isLetter_any _ _).mono ?_; rintro e w' ⟨rfl, rfl⟩))
        go_ret
        exact ⟨ret_b N.out.symm, _, rfl⟩
    · have hnx : ∀ ty, (Instr.next (.pointer (some ⟨w.heap.size, 0, none⟩)) true ty).run Tryz.prog (w.iter s k) = _ := fun ty => run_next_end w s k ty hlt
      have N := Lib.hid (word_all s k hlt D.out)
      go_wp2
      go_ret
      exact ⟨ret_b N.out.symm, _, rfl⟩
theorem isWord_any (s : ByteArray) (w : World) (hs : s.size ≤ maxLen) :
    Calls Tryz.prog 78 #[.string s] w fun e w' => e = .returned (.bool (wordB s.data.toList)) ∧ Below w.heap.size w w' :=
  (isWord_it s w hs).mono fun _ _ ⟨he, k, hk⟩ => ⟨he, hk ▸ Gp.below_iter w s k⟩
set_option maxHeartbeats 1000000 in
theorem rword_any (s : ByteArray) (w : World) (hs : s.size ≤ maxLen) :
    Calls Tryz.prog 82 #[.string s] w fun e w' => e = .returned (.bool (wordB s.data.toList)) ∧ w = w' := by
  unfold maxLen at hs
  go_enter Tryz.func82, Tryz.ntmps82
  go_wp2
  go_loop [3] (fun i => ∃ k : Nat, k ≤ s.size ∧ i = .int .i64 k ∧ Hid (wordP (s.data.toList.take k))) (fun i => s.size - (intOf i).toNat)
  case atStart => exact ⟨0, Nat.zero_le _, rfl, Lib.hid (by intro c hc; simp at hc)⟩
  case round =>
    obtain ⟨k, hk, rfl, D⟩ := hrel
    by_cases hlt : k < s.size
    · have bb := byte_bd s[k]
      rcases dg_cases (s[k].toNat : Int) with ⟨d1, e1⟩ | ⟨d1, e1⟩
      · have D2 := Lib.hid (show wordP (s.data.toList.take (k + 1)) by rw [take_snoc s k hlt]; exact wordP_snoc D.out (Or.inl d1))
        clear d1
        go_wp2_with (first | (go_at_call 105; refine (rdigit_any _ _).mono ?_; rintro e w' ⟨rfl, rfl⟩) | (go_at_call 83; refine (rletter_any _ _).mono ?_; rintro e w' ⟨rfl, rfl⟩))
        go_round
        case rel => exact ⟨k + 1, by omega, by go_num, D2⟩
        case measure => simp [intOf]; omega
      · rcases lt_cases (s[k].toNat : Int) with ⟨d2, e2⟩ | ⟨d2, e2⟩
        · have D2 := Lib.hid (show wordP (s.data.toList.take (k + 1)) by rw [take_snoc s k hlt]; exact wordP_snoc D.out (Or.inr d2))
          clear d1 d2
          go_wp2_with (first | (go_at_call 105; refine (rdigit_any _ _).mono ?_; rintro e w' ⟨rfl, rfl⟩) | (go_at_call 83; refine (rletter_any _ _).mono ?_; rintro e w' ⟨rfl, rfl⟩))
          go_round
          case rel => exact ⟨k + 1, by omega, by go_num, D2⟩
          case measure => simp [intOf]; omega
        · have N := Lib.hid (word_not s k hlt (fun h => h.elim d1 d2))
          clear d1 d2
          go_wp2_with (first | (go_at_call 105; refine (rdigit_any _ _).mono ?_; rintro e w' ⟨rfl, rfl⟩) | (go_at_call 83; refine (rletter_any _ _).mono ?_; rintro e w' ⟨rfl, rfl⟩))
          go_ret
          exact ⟨ret_b N.out.symm, rfl⟩
    · have N := Lib.hid (word_all s k hlt D.out)
      go_wp2
      go_ret
      exact ⟨ret_b N.out.symm, rfl⟩
theorem digs_not (s : ByteArray) (k : Nat) (hk : k < s.size) (h : ¬ dgP (s[k].toNat : Int)) : digsB s.data.toList = false := by
  refine decide_eq_false fun g => h (g.2 _ ?_)
  have : s[k] = s.data.toList[k]'(by simpa using hk) := rfl
  rw [this]; exact List.getElem_mem _
theorem digs_all (s : ByteArray) (k : Nat) (hk : ¬ k < s.size) (h : allD (s.data.toList.take k)) : digsB s.data.toList = decide (0 < s.size) := by
  rw [take_all s k hk] at h
  refine decide_eq_decide.2 ⟨fun g => by simpa using g.1, fun g => ⟨by simpa using g, h⟩⟩
set_option maxHeartbeats 1000000 in
theorem rdigits_any (s : ByteArray) (w : World) (hs : s.size ≤ maxLen) :
    Calls Tryz.prog 122 #[.string s] w fun e w' => e = .returned (.bool (digsB s.data.toList)) ∧ w = w' := by
  unfold maxLen at hs
  go_enter Tryz.func122, Tryz.ntmps122
  go_wp2
  go_loop [3] (fun i => ∃ k : Nat, k ≤ s.size ∧ i = .int .i64 k ∧ Hid (allD (s.data.toList.take k))) (fun i => s.size - (intOf i).toNat)
  case atStart => exact ⟨0, Nat.zero_le _, rfl, Lib.hid (by intro c hc; simp at hc)⟩
  case round =>
    obtain ⟨k, hk, rfl, D⟩ := hrel
    by_cases hlt : k < s.size
    · have bb := byte_bd s[k]
      rcases dg_cases (s[k].toNat : Int) with ⟨d1, e1⟩ | ⟨d1, e1⟩
      · have D2 := Lib.hid (show allD (s.data.toList.take (k + 1)) by rw [take_snoc s k hlt]; exact allD_snoc D.out d1.1 d1.2)
        clear d1
        go_wp2_with (go_at_call 105; refine (rdigit_any _ _).mono ?_; rintro e w' ⟨rfl, rfl⟩)
        go_round
        case rel => exact ⟨k + 1, by omega, by go_num, D2⟩
        case measure => simp [intOf]; omega
      · have N := Lib.hid (digs_not s k hlt d1)
        clear d1
        go_wp2_with (go_at_call 105; refine (rdigit_any _ _).mono ?_; rintro e w' ⟨rfl, rfl⟩)
        go_ret
        exact ⟨ret_b N.out.symm, rfl⟩
    · have N := Lib.hid (digs_all s k hlt D.out)
      by_cases z : 0 < s.size
      · have z2 : (0 : Int) < s.size := by omega
        go_wp2
        go_ret
        exact ⟨ret_b (by rw [N.out, decide_eq_true z]), rfl⟩
      · have z2 : s.size = 0 := by omega
        have Z := Lib.hid z2
        clear z2
        have z3 : ¬ (0 : Int) < s.size := by omega
        go_wp2
        go_ret
        exact ⟨ret_b (by rw [N.out]; simp [z]), rfl⟩
end Ow
end Go.Proofs.YtjgcbeihgeaimaaGreatDoor
/-
  The walks of isNumbered, isName of package obs, and of Numbered, Name of the reference.
-/
namespace Go.Proofs.YtjgcbeihgeaimaaGreatDoor
namespace Ow
open Go.RowKit Lw Go.Proofs.YtjgcbeihgeaimaaGreatDoor.Ap Go.Proofs.YtjgcbeihgeaimaaGreatDoor.Op

/-- The variable ErrSyntax reads as an error. -/
def ES (w : World) : Prop := 1 < w.heap.size ∧ ∃ ev, w.cell? ⟨1, 0, none⟩ = some ev ∧ (ev = .nilIface ∨ ∃ te pe, ev = .iface te pe)
theorem ES.below {w w' : World} (h : ES w) (hb : Below w.heap.size w w') : ES w' := by
  obtain ⟨lt, ev, h1, h2⟩ := h
  exact ⟨Nat.lt_of_lt_of_le lt hb.size, ev, (hb.cell (p := ⟨1, 0, none⟩) lt).trans h1, h2⟩
theorem pu_step {M acc : Nat} {c : UInt8} {r : List UInt8} (h : 48 ≤ c.toNat ∧ c.toNat ≤ 57) (ha : acc ≤ 1000) (hM : 65535 ≤ M) : Lib.parseUintM M acc (c :: r) = Lib.parseUintM M (acc * 10 + (c.toNat - 48)) r := by
  rw [Lib.parseUintM, if_pos h, if_neg (by omega), if_neg (by omega)]
/-- What is answered for no number. -/
def noNum : Lib.NumEnd Nat := Lib.parseUintB 16 []
theorem pu_stop {M acc : Nat} {c : UInt8} {r : List UInt8} (h : ¬ (48 ≤ c.toNat ∧ c.toNat ≤ 57)) : Lib.parseUintM M acc (c :: r) = noNum := by
  rw [Lib.parseUintM, if_neg h]
  rfl
/-- Four bytes are digits, or no number. -/
theorem pu_cases {l : List UInt8} (h : l.length = 4) : (digsB l = true ∧ ∃ u, Lib.parseUintB 16 l = .ok u) ∨ (digsB l = false ∧ Lib.parseUintB 16 l = noNum) := by
  match l, h with
  | [a, b, c, d], _ =>
    unfold Lib.parseUintB
    rw [if_neg (by simp)]
    have nd : ∀ x ∈ [a, b, c, d], ¬ (48 ≤ x.toNat ∧ x.toNat ≤ 57) → digsB [a, b, c, d] = false := fun x hx hn => decide_eq_false fun g => hn (by have := g.2 x hx; omega)
    by_cases ha : 48 ≤ a.toNat ∧ a.toNat ≤ 57
    · rw [pu_step ha (by omega) (by omega)]
      by_cases hb : 48 ≤ b.toNat ∧ b.toNat ≤ 57
      · rw [pu_step hb (by omega) (by omega)]
        by_cases hc : 48 ≤ c.toNat ∧ c.toNat ≤ 57
        · rw [pu_step hc (by omega) (by omega)]
          by_cases hd : 48 ≤ d.toNat ∧ d.toNat ≤ 57
          · rw [pu_step hd (by omega) (by omega)]
            refine Or.inl ⟨decide_eq_true ⟨by simp, fun x hx => ?_⟩, _, rfl⟩
            simp only [List.mem_cons, List.not_mem_nil, or_false] at hx
            rcases hx with rfl | rfl | rfl | rfl <;> omega
          · rw [pu_stop hd]; exact Or.inr ⟨nd d (by simp) hd, rfl⟩
        · rw [pu_stop hc]; exact Or.inr ⟨nd c (by simp) hc, rfl⟩
      · rw [pu_stop hb]; exact Or.inr ⟨nd b (by simp) hb, rfl⟩
    · rw [pu_stop ha]; exact Or.inr ⟨nd a (by simp) ha, rfl⟩
theorem numb_of {s : ByteArray} (hs : s.size = 5) : numbB s = ((decide (bt s 0 = 126) && wordB (s.extract 1 5).data.toList) || (wordB (s.extract 0 1).data.toList && digsB (s.extract 1 5).data.toList)) := by
  unfold numbB numbP wordB digsB
  simp only [hs, true_and, Bool.decide_or, Bool.decide_and]
theorem dig_word {l : List UInt8} (h : digsB l = true) : wordB l = true := by
  have := of_decide_eq_true h
  exact decide_eq_true fun c hc => Or.inl (this.2 c hc)
/-- What ParseUint returns of four bytes. -/
theorem pu_any (l : ByteArray) (w : World) (hE : ES w) (h : l.size = 4) :
    Calls Tryz.prog 119 #[.string l, .int .i64 10, .int .i64 16] w fun e w' => ∃ u V, e = .returned (.tuple #[.int .u64 u, V]) ∧ ((digsB l.data.toList = true ∧ V = .nilIface) ∨ (digsB l.data.toList = false ∧ ∃ t p, V = .iface t (.pointer (some p)))) ∧ Below w.heap.size w w' := by
  rcases pu_cases (l := l.data.toList) (by simpa using h) with ⟨d, u, hu⟩ | ⟨d, hu⟩
  · refine (Tryz.strconv_ParseUint_10_at16_ok l (by omega) u hu w).mono ?_
    rintro e w' ⟨rfl, hw⟩
    refine ⟨_, _, rfl, Or.inl ⟨d, rfl⟩, ?_⟩
    rcases hw with rfl | rfl
    · exact Below.refl _ _
    · exact Lib.bytesWorld_below _ _ _
  · obtain ⟨lt, ev, h1, h2⟩ := hE
    refine (Tryz.strconv_ParseUint_10_at16_syntax l (by omega) hu ev w h1 h2).mono ?_
    rintro e w' ⟨N, rfl, -, -, hb⟩
    exact ⟨_, _, rfl, Or.inr ⟨d, _, _, rfl⟩, hb⟩
set_option maxRecDepth 100000 in
set_option maxHeartbeats 4000000 in
theorem isNumb_any (s : ByteArray) (w : World) (hE : ES w) (hs : s.size ≤ maxLen) :
    Calls Tryz.prog 101 #[.string s] w fun e w' => e = .returned (.bool (numbB s)) ∧ Below w.heap.size w w' := by
  by_cases h5 : s.size = 5
  · have N := numb_of h5
    have z1 : (s.extract 1 5).size = 4 := by simp; omega
    have z0 : (s.extract 0 1).size ≤ maxLen := by simp; unfold maxLen; omega
    have PU := Lib.hid (pu_any (s.extract 1 5) w hE z1)
    have W1 := Lib.hid (fun w' => isWord_any (s.extract 1 5) w' (by unfold maxLen; omega))
    have W0 := Lib.hid (fun w' => isWord_any (s.extract 0 1) w' z0)
    have DW := Lib.hid (fun (h : digsB (s.extract 1 5).data.toList = true) => dig_word h)
    obtain ⟨c, hc⟩ : ∃ c : UInt8, s[0]'(by omega) = c := ⟨_, rfl⟩
    have b0 : bt s 0 = (c.toNat : Int) := by rw [bt_of s 0 (by omega), hc]
    rw [b0] at N
    have N := Lib.hid N
    generalize wordB (s.extract 1 5).data.toList = q1 at *
    generalize wordB (s.extract 0 1).data.toList = q0 at *
    generalize digsB (s.extract 1 5).data.toList = dd at *
    have i0 : 0 < s.size := by omega
    clear z1 z0 hE hs b0
    go_enter Tryz.func101, Tryz.ntmps101
    go_wp2_with fail
    refine PU.out.mono ?_
    rintro e w1 ⟨u, V, rfl, hV, hb⟩
    have B1 := Lib.hid hb
    clear hb PU
    by_cases h126 : (c.toNat : Int) = 126
    · have N2 := Lib.hid (N.out.trans (by rw [decide_eq_true h126]; rfl : _ = (q1 || (q0 && dd))))
      clear N
      cases q1
      · have d0 : dd = false := by
          cases dd
          · rfl
          · exact absurd (DW.out rfl) (by simp)
        subst d0
        cases q0
        all_goals
          rcases hV with ⟨hd, rfl⟩ | ⟨hd, t, p, rfl⟩
          · cases hd
          go_wp2_with (first | ((with_reducible refine (W1.out _).mono ?_); rintro e w2 ⟨rfl, hb2⟩) | ((with_reducible refine (W0.out _).mono ?_); rintro e w3 ⟨rfl, hb3⟩))
          go_ret
          refine ⟨?_, ?_⟩
          · rw [N2.out]; rfl
          · first | exact below_then (below_then B1.out hb2) hb3 | exact below_then B1.out hb2
      · clear hV
        go_wp2_with (first | ((with_reducible refine (W1.out _).mono ?_); rintro e w2 ⟨rfl, hb2⟩) | ((with_reducible refine (W0.out _).mono ?_); rintro e w3 ⟨rfl, hb3⟩))
        go_ret
        refine ⟨?_, ?_⟩
        · rw [N2.out]; rfl
        · exact below_then B1.out hb2
    · have N2 := Lib.hid (N.out.trans (by rw [decide_eq_false h126]; rfl : _ = (q0 && dd)))
      clear N
      cases q0
      · clear hV
        go_wp2_with (first | ((with_reducible refine (W1.out _).mono ?_); rintro e w2 ⟨rfl, hb2⟩) | ((with_reducible refine (W0.out _).mono ?_); rintro e w3 ⟨rfl, hb3⟩))
        go_ret
        refine ⟨?_, ?_⟩
        · rw [N2.out]; rfl
        · exact below_then B1.out hb3
      · rcases hV with ⟨rfl, rfl⟩ | ⟨rfl, t, p, rfl⟩
        · obtain rfl := DW.out rfl
          go_wp2_with fail
          refine (W0.out _).mono ?_
          rintro e w3 ⟨rfl, hb3⟩
          have B3 := Lib.hid (below_then B1.out hb3)
          clear hb3
          go_wp2_with fail
          refine (W1.out _).mono ?_
          rintro e w4 ⟨rfl, hb4⟩
          have B4 := Lib.hid (below_then B3.out hb4)
          clear hb4
          go_wp2_with fail
          go_ret
          exact ⟨by rw [N2.out]; rfl, B4.out⟩
        · go_wp2_with fail
          refine (W0.out _).mono ?_
          rintro e w3 ⟨rfl, hb3⟩
          have B3 := Lib.hid (below_then B1.out hb3)
          clear hb3
          go_wp2_with fail
          go_ret
          exact ⟨by rw [N2.out]; rfl, B3.out⟩
  · have N := Lib.hid (show numbB s = false from decide_eq_false fun g => h5 g.1)
    have h5' : ¬ (s.size : Int) = 5 := by omega
    have h6 : ((s.size : Int) == 5) = false := by simpa using h5'
    have h7 : ((s.size : Int) != 5) = true := by simpa using h5'
    go_enter Tryz.func101, Tryz.ntmps101
    go_wp2_with fail
    go_ret
    exact ⟨by rw [N.out]; rfl, Below.refl _ _⟩
set_option maxRecDepth 100000 in
set_option maxHeartbeats 4000000 in
theorem rnumb_any (s : ByteArray) (w : World) (hs : s.size ≤ maxLen) :
    Calls Tryz.prog 104 #[.string s] w fun e w' => e = .returned (.bool (numbB s)) ∧ w = w' := by
  by_cases h5 : s.size = 5
  · have N := numb_of h5
    have z1 : (s.extract 1 5).size = 4 := by simp; omega
    have z0 : (s.extract 0 1).size ≤ maxLen := by simp; unfold maxLen; omega
    have W1 := Lib.hid (fun w' => rword_any (s.extract 1 5) w' (by unfold maxLen; omega))
    have W0 := Lib.hid (fun w' => rword_any (s.extract 0 1) w' z0)
    have DG := Lib.hid (fun w' => rdigits_any (s.extract 1 5) w' (by unfold maxLen; omega))
    obtain ⟨c, hc⟩ : ∃ c : UInt8, s[0]'(by omega) = c := ⟨_, rfl⟩
    have b0 : bt s 0 = (c.toNat : Int) := by rw [bt_of s 0 (by omega), hc]
    rw [b0] at N
    have N := Lib.hid N
    generalize wordB (s.extract 1 5).data.toList = q1 at *
    generalize wordB (s.extract 0 1).data.toList = q0 at *
    generalize digsB (s.extract 1 5).data.toList = dd at *
    have i0 : 0 < s.size := by omega
    clear z1 z0 hs b0
    by_cases h126 : (c.toNat : Int) = 126
    · have N2 := Lib.hid (N.out.trans (by rw [decide_eq_true h126]; rfl : _ = (q1 || (q0 && dd))))
      clear N
      cases q1 <;> cases q0 <;> cases dd
      all_goals
        go_enter Tryz.func104, Tryz.ntmps104
        go_wp2_with (first | ((with_reducible refine (W1.out _).mono ?_); rintro e w2 ⟨rfl, rfl⟩) | ((with_reducible refine (W0.out _).mono ?_); rintro e w3 ⟨rfl, rfl⟩) | ((with_reducible refine (DG.out _).mono ?_); rintro e w4 ⟨rfl, rfl⟩))
        go_ret
        exact ⟨by rw [N2.out]; rfl, rfl⟩
    · have N2 := Lib.hid (N.out.trans (by rw [decide_eq_false h126]; rfl : _ = (q0 && dd)))
      clear N
      cases q0 <;> cases dd
      all_goals
        go_enter Tryz.func104, Tryz.ntmps104
        go_wp2_with (first | ((with_reducible refine (W0.out _).mono ?_); rintro e w3 ⟨rfl, rfl⟩) | ((with_reducible refine (DG.out _).mono ?_); rintro e w4 ⟨rfl, rfl⟩))
        go_ret
        exact ⟨by rw [N2.out]; rfl, rfl⟩
  · have N := Lib.hid (show numbB s = false from decide_eq_false fun g => h5 g.1)
    have h5' : ¬ (s.size : Int) = 5 := by omega
    have h6 : ((s.size : Int) == 5) = false := by simpa using h5'
    have h7 : ((s.size : Int) != 5) = true := by simpa using h5'
    go_enter Tryz.func104, Tryz.ntmps104
    go_wp2_with fail
    go_ret
    exact ⟨by rw [N.out]; rfl, rfl⟩
theorem name_cases (s : ByteArray) : (numbB s = true ∧ nameB s = true) ∨ (numbB s = false ∧ ((s.size < 1 ∧ nameB s = false) ∨ (1 ≤ s.size ∧ 7 < s.size ∧ nameB s = false) ∨ (1 ≤ s.size ∧ s.size ≤ 7 ∧ nameB s = wordB s.data.toList))) := by
  by_cases h : numbP s
  · exact Or.inl ⟨decide_eq_true h, decide_eq_true (Or.inl h)⟩
  · refine Or.inr ⟨decide_eq_false h, ?_⟩
    by_cases a : s.size < 1
    · exact Or.inl ⟨a, decide_eq_false fun g => g.elim h (fun x => by omega)⟩
    · by_cases b : 7 < s.size
      · exact Or.inr (Or.inl ⟨by omega, b, decide_eq_false fun g => g.elim h (fun x => by omega)⟩)
      · refine Or.inr (Or.inr ⟨by omega, by omega, decide_eq_decide.2 ⟨fun g => g.elim (fun x => absurd x h) (fun x => x.2.2), fun g => Or.inr ⟨by omega, by omega, g⟩⟩⟩)
set_option maxRecDepth 100000 in
set_option maxHeartbeats 4000000 in
theorem isName_any (s : ByteArray) (w : World) (hE : ES w) (hs : s.size ≤ maxLen) :
    Calls Tryz.prog 77 #[.string s] w fun e w' => e = .returned (.bool (nameB s)) ∧ Below w.heap.size w w' := by
  have C1 := Lib.hid (isNumb_any s w hE hs)
  have C2 := Lib.hid (fun w' => isWord_any s w' hs)
  have NC := name_cases s
  generalize nameB s = nb at *
  generalize numbB s = ub at *
  generalize wordB s.data.toList = wb at *
  clear hE
  unfold maxLen at hs
  rcases NC with ⟨rfl, rfl⟩ | ⟨rfl, ⟨h, rfl⟩ | ⟨h, g, rfl⟩ | ⟨h, g, rfl⟩⟩
  · go_enter Tryz.func77, Tryz.ntmps77
    go_wp2_with fail
    refine C1.out.mono ?_
    rintro e w1 ⟨rfl, hb⟩
    go_wp2_with fail
    go_ret
    exact ⟨rfl, hb⟩
  · have h' : (s.size : Int) < 1 := by omega
    go_enter Tryz.func77, Tryz.ntmps77
    go_wp2_with fail
    refine C1.out.mono ?_
    rintro e w1 ⟨rfl, hb⟩
    go_wp2_with fail
    go_ret
    exact ⟨rfl, hb⟩
  · have h' : (1 : Int) ≤ s.size := by omega
    have g' : (7 : Int) < s.size := by omega
    go_enter Tryz.func77, Tryz.ntmps77
    go_wp2_with fail
    refine C1.out.mono ?_
    rintro e w1 ⟨rfl, hb⟩
    go_wp2_with fail
    go_ret
    exact ⟨rfl, hb⟩
  · have h' : (1 : Int) ≤ s.size := by omega
    have g' : (s.size : Int) ≤ 7 := by omega
    go_enter Tryz.func77, Tryz.ntmps77
    go_wp2_with fail
    refine C1.out.mono ?_
    rintro e w1 ⟨rfl, hb⟩
    have B1 := Lib.hid hb
    clear hb
    go_wp2_with fail
    refine (C2.out _).mono ?_
    rintro e w2 ⟨rfl, hb⟩
    have B2 := Lib.hid (below_then B1.out hb)
    clear hb
    go_wp2_with fail
    go_ret
    exact ⟨rfl, B2.out⟩
set_option maxRecDepth 100000 in
set_option maxHeartbeats 4000000 in
theorem rname_any (s : ByteArray) (w : World) (hs : s.size ≤ maxLen) :
    Calls Tryz.prog 81 #[.string s] w fun e w' => e = .returned (.bool (nameB s)) ∧ w = w' := by
  have C1 := Lib.hid (fun w' => rnumb_any s w' hs)
  have C2 := Lib.hid (fun w' => rword_any s w' hs)
  have NC := name_cases s
  generalize nameB s = nb at *
  generalize numbB s = ub at *
  generalize wordB s.data.toList = wb at *
  unfold maxLen at hs
  rcases NC with ⟨rfl, rfl⟩ | ⟨rfl, ⟨h, rfl⟩ | ⟨h, g, rfl⟩ | ⟨h, g, rfl⟩⟩
  · go_enter Tryz.func81, Tryz.ntmps81
    go_wp2_with (refine (C1.out _).mono ?_; rintro e w1 ⟨rfl, rfl⟩)
    go_ret
    exact ⟨rfl, rfl⟩
  · have h' : (s.size : Int) < 1 := by omega
    go_enter Tryz.func81, Tryz.ntmps81
    go_wp2_with (refine (C1.out _).mono ?_; rintro e w1 ⟨rfl, rfl⟩)
    go_ret
    exact ⟨rfl, rfl⟩
  · have h' : (1 : Int) ≤ s.size := by omega
    have g' : (7 : Int) < s.size := by omega
    go_enter Tryz.func81, Tryz.ntmps81
    go_wp2_with (refine (C1.out _).mono ?_; rintro e w1 ⟨rfl, rfl⟩)
    go_ret
    exact ⟨rfl, rfl⟩
  · have h' : (1 : Int) ≤ s.size := by omega
    have g' : (s.size : Int) ≤ 7 := by omega
    go_enter Tryz.func81, Tryz.ntmps81
    go_wp2_with fail
    refine (C1.out _).mono ?_
    rintro e w1 ⟨rfl, rfl⟩
    go_wp2_with fail
    refine (C2.out _).mono ?_
    rintro e w2 ⟨rfl, rfl⟩
    go_wp2_with fail
    go_ret
    exact ⟨rfl, rfl⟩
end Ow
end Go.Proofs.YtjgcbeihgeaimaaGreatDoor
/-
  The walks of Check of package obs and of the reference.
-/
namespace Go.Proofs.YtjgcbeihgeaimaaGreatDoor
namespace Ow
open Go.RowKit Lw Go.Proofs.YtjgcbeihgeaimaaGreatDoor.Ap Go.Proofs.YtjgcbeihgeaimaaGreatDoor.Op Go.Proofs.YtjgcbeihgeaimaaGreatDoor.Mp Go.Proofs.YtjgcbeihgeaimaaGreatDoor.Mw

def TimePost (t : Int) (w : World) (e : Ending) (w' : World) : Prop := ∃ y m d h i s u c : Int, e = .returned (.tuple #[dateV y m d h i s u, .int .i64 c]) ∧ ((timeP t ∧ c = 0) ∨ (¬ timeP t ∧ c = 16)) ∧ Below w.heap.size w w'
theorem time_any (t : Int) (w : World) (h0 : -9223372036854775808 ≤ t) (h1 : t ≤ 9223372036854775807) : Calls Tryz.prog 76 #[.int .i64 t] w (TimePost t w) := by
  by_cases h : t < bgv (-10227) 1972 1 ∨ bgv 36525 2100 1 ≤ t
  · exact (toutc_out t w h0 h1 h).mono fun e w' ⟨he, hb⟩ => ⟨0, 0, 0, 0, 0, 0, 0, 16, he, Or.inr ⟨fun g => by unfold timeP at g; omega, rfl⟩, hb⟩
  · obtain ⟨n, y, m, z, k, hd⟩ := day_ex t (by omega) (by omega)
    exact (toutc_in t n y m z k w hd (by omega) (by omega)).mono fun e w' ⟨he, hb⟩ => ⟨_, _, _, _, _, _, _, _, he, Or.inl ⟨by unfold timeP; omega, rfl⟩, hb⟩
theorem rtime_any (t : Int) (w : World) (h0 : -9223372036854775808 ≤ t) (h1 : t ≤ 9223372036854775807) : Calls Tryz.prog 80 #[.int .i64 t] w (TimePost t w) := by
  by_cases h : t < bgv (-10227) 1972 1 ∨ bgv 36525 2100 1 ≤ t
  · exact (rtoutc_out t w h0 h1 h).mono fun e w' ⟨he, hb⟩ => ⟨0, 0, 0, 0, 0, 0, 0, 16, he, Or.inr ⟨fun g => by unfold timeP at g; omega, rfl⟩, hb⟩
  · obtain ⟨n, y, m, z, k, hd⟩ := day_ex t (by omega) (by omega)
    exact (rtoutc_in t n y m z k w hd (by omega) (by omega)).mono fun e w' ⟨he, hb⟩ => ⟨_, _, _, _, _, _, _, _, he, Or.inl ⟨by unfold timeP; omega, rfl⟩, hb⟩
/-- An observation in its box. -/
structure OX (w0 : World) (b : Nat) (o : Ob) (w : World) : Prop where
  below : Below w0.heap.size w0 w
  lt : b < w.heap.size
  row : w.rangeAt b 0 (obsC o)
theorem OX.call {w0 w w' : World} {b : Nat} {o : Ob} (h : OX w0 b o w) (hb : Below w.heap.size w w') : OX w0 b o w' := ⟨below_then h.below hb, Nat.lt_of_lt_of_le h.lt hb.size, rangeAt_below h.row hb h.lt⟩
theorem OX.new (w : World) (o : Ob) : OX w w.heap.size o (w.alloc (.cells (obsC o).toArray 44)) := ⟨(Below.refl _ _).alloc (Nat.le_refl _) _, by simp, rangeAt_new w _ _⟩
/-- The numbers of an observation are in their ranges. -/
def rngP (ra dec sg : Int) : Prop := 0 ≤ ra ∧ ra < 1296000000000 ∧ -324000000000 ≤ dec ∧ dec ≤ 324000000000 ∧ 1 ≤ sg ∧ sg ≤ 10000000000
instance (ra dec sg : Int) : Decidable (rngP ra dec sg) := by unfold rngP; infer_instance
theorem rng_cases (ra dec sg : Int) : rngP ra dec sg ∨ (¬ rngP ra dec sg ∧ (ra < 0 ∨ (0 ≤ ra ∧ 1296000000000 ≤ ra) ∨ (0 ≤ ra ∧ ra < 1296000000000 ∧ dec < -324000000000) ∨ (0 ≤ ra ∧ ra < 1296000000000 ∧ -324000000000 ≤ dec ∧ 324000000000 < dec) ∨ (0 ≤ ra ∧ ra < 1296000000000 ∧ -324000000000 ≤ dec ∧ dec ≤ 324000000000 ∧ sg < 1) ∨ (0 ≤ ra ∧ ra < 1296000000000 ∧ -324000000000 ≤ dec ∧ dec ≤ 324000000000 ∧ 1 ≤ sg ∧ 10000000000 < sg))) := by
  unfold rngP; omega
theorem mag_cases (m b : Int) : (m = 9999 ∧ b = 32 ∧ magP m b) ∨ (m ≠ 9999 ∧ b = 32 ∧ m < -500 ∧ ¬ magP m b) ∨ (m ≠ 9999 ∧ b = 32 ∧ -500 ≤ m ∧ 3000 < m ∧ ¬ magP m b) ∨ (m ≠ 9999 ∧ b = 32 ∧ -500 ≤ m ∧ m ≤ 3000 ∧ magP m b) ∨
    (b ≠ 32 ∧ m < -500 ∧ ¬ magP m b) ∨ (b ≠ 32 ∧ -500 ≤ m ∧ 3000 < m ∧ m ≠ 9999 ∧ ¬ magP m b) ∨ (b ≠ 32 ∧ m = 9999 ∧ ¬ magP m b) ∨ (b ≠ 32 ∧ -500 ≤ m ∧ m ≤ 3000 ∧ m ≠ 9999 ∧ (magP m b ↔ ltP b)) := by
  by_cases hb : b = 32
  · by_cases h9 : m = 9999
    · exact Or.inl ⟨h9, hb, Or.inl ⟨h9, hb⟩⟩
    · by_cases h1 : m < -500
      · exact Or.inr (Or.inl ⟨h9, hb, h1, fun g => by unfold magP at g; omega⟩)
      · by_cases h2 : 3000 < m
        · exact Or.inr (Or.inr (Or.inl ⟨h9, hb, by omega, h2, fun g => by unfold magP at g; omega⟩))
        · exact Or.inr (Or.inr (Or.inr (Or.inl ⟨h9, hb, by omega, by omega, Or.inr ⟨by omega, by omega, Or.inl hb⟩⟩)))
  · refine Or.inr (Or.inr (Or.inr (Or.inr ?_)))
    by_cases h1 : m < -500
    · exact Or.inl ⟨hb, h1, fun g => by unfold magP at g; omega⟩
    · by_cases h9 : m = 9999
      · exact Or.inr (Or.inr (Or.inl ⟨hb, h9, fun g => by unfold magP at g; omega⟩))
      · by_cases h2 : 3000 < m
        · exact Or.inr (Or.inl ⟨hb, by omega, h2, h9, fun g => by unfold magP at g; omega⟩)
        · refine Or.inr (Or.inr (Or.inr ⟨hb, by omega, by omega, h9, fun g => ?_, fun g => Or.inr ⟨by omega, by omega, Or.inr g⟩⟩))
          rcases g with ⟨_, g⟩ | ⟨_, _, g | g⟩
          · exact absurd g hb
          · exact absurd g hb
          · exact g
/-- What is asked of an observation, but for its magnitude. -/
def preB (o : Ob) : Bool := decide (timeP o.t ∧ nameP o.name ∧ o.site.size = 3 ∧ wordP o.site.data.toList ∧ rngP o.ra o.dec o.sg)
/-- The first four of these. -/
def preA (o : Ob) : Bool := decide (timeP o.t ∧ nameP o.name ∧ o.site.size = 3 ∧ wordP o.site.data.toList)
theorem preB_of (o : Ob) : preB o = (preA o && decide (rngP o.ra o.dec o.sg)) := by
  unfold preB preA
  rw [← Bool.decide_and]
  exact decide_eq_decide.2 ⟨fun ⟨a, b, c, d, e⟩ => ⟨⟨a, b, c, d⟩, e⟩, fun ⟨⟨a, b, c, d⟩, e⟩ => ⟨a, b, c, d, e⟩⟩
theorem okO_pre (o : Ob) : okO o ↔ preB o = true ∧ magP o.mag o.band := by
  unfold okO preB rngP
  rw [decide_eq_true_eq]
  constructor
  · rintro ⟨a, b, c, d, e, f, g, h, i, j, k⟩; exact ⟨⟨a, b, c, d, e, f, g, h, i, j⟩, k⟩
  · rintro ⟨⟨a, b, c, d, e, f, g, h, i, j⟩, k⟩; exact ⟨a, b, c, d, e, f, g, h, i, j, k⟩
theorem check_ok {o : Ob} (h : preB o = true) (g : magP o.mag o.band) : checkC o = 0 := if_pos ((okO_pre o).2 ⟨h, g⟩)
theorem check_m {o : Ob} (g : ¬ magP o.mag o.band) : checkC o = 8 := if_neg fun x => g ((okO_pre o).1 x).2
theorem check_p {o : Ob} (h : preB o = false) : checkC o = 8 := if_neg fun x => by rw [((okO_pre o).1 x).1] at h; cases h
set_option maxRecDepth 100000 in
set_option maxHeartbeats 16000000 in
theorem check_any (o : Ob) (w : World) (hE : ES w) (h0 : -9223372036854775808 ≤ o.t) (h1 : o.t ≤ 9223372036854775807) (b0 : 0 ≤ o.band) (b1 : o.band ≤ 255) (n1 : o.name.size ≤ maxLen) (n2 : o.site.size ≤ maxLen) :
    Calls Tryz.prog 50 #[obsV o] w fun e w' => e = .returned (.int .i64 (checkC o)) ∧ Below w.heap.size w w' := by
  have K1 := Lib.hid (fun (a : preB o = true) (b : magP o.mag o.band) => check_ok a b)
  have K2 := Lib.hid (fun (b : ¬ magP o.mag o.band) => check_m b)
  have K3 := Lib.hid (fun (b : preB o = false) => check_p b)
  have PD := Lib.hid (show preA o = decide (timeP o.t ∧ nameP o.name ∧ o.site.size = 3 ∧ wordP o.site.data.toList) from rfl)
  have PB := Lib.hid (preB_of o)
  have X0 := OX.new w o
  obtain ⟨nm, st, tt, ra, dec, sg, mg, bd⟩ := o
  simp only at h0 h1 b0 b1 n1 n2 K1 K2 PD PB
  generalize checkC ⟨nm, st, tt, ra, dec, sg, mg, bd⟩ = cc at *
  generalize preB ⟨nm, st, tt, ra, dec, sg, mg, bd⟩ = pb at *
  generalize preA ⟨nm, st, tt, ra, dec, sg, mg, bd⟩ = pa at *
  have C1 := Lib.hid (fun w' => time_any tt w' h0 h1)
  have C2 := Lib.hid (fun w' (h : ES w') => isName_any nm w' h n1)
  have C3 := Lib.hid (fun w' => isWord_any st w' n2)
  have HE := Lib.hid (hE.below X0.below)
  have q0 := X0.row 0 _ rfl
  have q1 := X0.row 1 _ rfl
  have q2 := X0.row 2 _ rfl
  have q3 := X0.row 3 _ rfl
  have q4 := X0.row 4 _ rfl
  have q5 := X0.row 5 _ rfl
  have q6 := X0.row 6 _ rfl
  have q7 := X0.row 7 _ rfl
  simp only [Nat.zero_add] at q0 q1 q2 q3 q4 q5 q6 q7
  have XX := Lib.hid X0
  have NB := Lib.hid (show nameB nm = true ↔ nameP nm from decide_eq_true_iff)
  have WB := Lib.hid (show wordB st.data.toList = true ↔ wordP st.data.toList from decide_eq_true_iff)
  clear hE X0 h0 h1 n1
  unfold maxLen at n2
  generalize nameB nm = nb at *
  generalize wordB st.data.toList = wb at *
  go_enter Tryz.func50, Tryz.ntmps50
  go_wp2_with fail
  refine (C1.out _).mono ?_
  rintro e w1 ⟨y, m, d, h, i, s, u, c, rfl, hc, hb⟩
  have bb := below_then hb ((Below.refl _ w1).alloc (Nat.le_refl _) (.cells (dateC y m d h i s u).toArray 126))
  have X1 := XX.out.call bb
  have lt1 : w.heap.size < w1.heap.size := by have := hb.size; simp at this; omega
  have HE1 := Lib.hid (HE.out.below bb)
  clear q0 q1 q2 q3 q4 q5 q6 q7
  have q0 := (XX.out.call hb).row 0 _ rfl
  have q1 := (XX.out.call hb).row 1 _ rfl
  have q2 := (XX.out.call hb).row 2 _ rfl
  have q3 := (XX.out.call hb).row 3 _ rfl
  have q4 := (XX.out.call hb).row 4 _ rfl
  have q5 := (XX.out.call hb).row 5 _ rfl
  have q6 := (XX.out.call hb).row 6 _ rfl
  have q7 := (XX.out.call hb).row 7 _ rfl
  simp only [Nat.zero_add] at q0 q1 q2 q3 q4 q5 q6 q7
  have XX1 := Lib.hid X1
  have HC := Lib.hid hc
  clear hb bb X1 XX HE C1 hc
  go_upto_region 2 with (refine wpList_store_new rfl _ (.tmp 3) (.tmp 12) rfl _ _ rfl rfl info7 rfl ?_ ?_; simp [Value.oneCell'])
  go_cut [5] (fun q wx => q = .bool pa ∧ OX w w.heap.size ⟨nm, st, tt, ra, dec, sg, mg, bd⟩ wx)
  case first =>
    rcases HC.out with ⟨ht, rfl⟩ | ⟨ht, rfl⟩
    · have HT := Lib.hid ht
      clear ht HC
      go_wp2_with (refine wpList_store_new rfl _ (.tmp 3) (.tmp 12) rfl _ _ rfl rfl info7 rfl ?_ ?_; simp [Value.oneCell'])
      refine (C2.out _ HE1.out).mono ?_
      rintro e w2 ⟨rfl, hb⟩
      have X2 := XX1.out.call hb
      clear q0 q1 q2 q3 q4 q5 q6 q7
      have q0 := X2.row 0 _ rfl
      have q1 := X2.row 1 _ rfl
      have q2 := X2.row 2 _ rfl
      have q3 := X2.row 3 _ rfl
      have q4 := X2.row 4 _ rfl
      have q5 := X2.row 5 _ rfl
      have q6 := X2.row 6 _ rfl
      have q7 := X2.row 7 _ rfl
      simp only [Nat.zero_add] at q0 q1 q2 q3 q4 q5 q6 q7
      have XX2 := Lib.hid X2
      clear hb X2 XX1 HE1 C2 lt1
      cases nb
      · have P := Lib.hid (PD.out.trans (decide_eq_false fun g => by have := NB.out.2 g.2.1; cases this))
        clear PD
        go_wp2_with fail
        go_meet
        exact ⟨by rw [P.out], XX2.out⟩
      · by_cases h3 : st.size = 3
        · have k3 : (st.size : Int) = 3 := by omega
          go_wp2_with fail
          refine (C3.out _).mono ?_
          rintro e w3 ⟨rfl, hb⟩
          have X3 := XX2.out.call hb
          clear q0 q1 q2 q3 q4 q5 q6 q7
          have q0 := X3.row 0 _ rfl
          have q1 := X3.row 1 _ rfl
          have q2 := X3.row 2 _ rfl
          have q3 := X3.row 3 _ rfl
          have q4 := X3.row 4 _ rfl
          have q5 := X3.row 5 _ rfl
          have q6 := X3.row 6 _ rfl
          have q7 := X3.row 7 _ rfl
          simp only [Nat.zero_add] at q0 q1 q2 q3 q4 q5 q6 q7
          have XX3 := Lib.hid X3
          clear hb X3 XX2 C3
          cases wb
          · have P := Lib.hid (PD.out.trans (decide_eq_false fun g => by have := WB.out.2 g.2.2.2; cases this))
            clear PD
            go_wp2_with fail
            go_meet
            exact ⟨by rw [P.out], XX3.out⟩
          · have P := Lib.hid (PD.out.trans (decide_eq_true ⟨HT.out, NB.out.1 (by first | rfl | trivial), h3, WB.out.1 (by first | rfl | trivial)⟩))
            clear PD h3 k3
            go_wp2_with fail
            go_meet
            exact ⟨by rw [P.out], XX3.out⟩
        · have P := Lib.hid (PD.out.trans (decide_eq_false fun g => h3 g.2.2.1))
          have k3 : ¬ (st.size : Int) = 3 := by omega
          clear PD
          go_wp2_with fail
          go_meet
          exact ⟨by rw [P.out], XX2.out⟩
    · have P := Lib.hid (PD.out.trans (decide_eq_false fun g => ht g.1))
      clear PD HC ht
      go_wp2_with (refine wpList_store_new rfl _ (.tmp 3) (.tmp 12) rfl _ _ rfl rfl info7 rfl ?_ ?_; simp [Value.oneCell'])
      go_meet
      exact ⟨by rw [P.out], XX1.out⟩
  case rest =>
    obtain ⟨rfl, X4⟩ := hcut
    clear q0 q1 q2 q3 q4 q5 q6 q7
    have q0 := X4.row 0 _ rfl
    have q1 := X4.row 1 _ rfl
    have q2 := X4.row 2 _ rfl
    have q3 := X4.row 3 _ rfl
    have q4 := X4.row 4 _ rfl
    have q5 := X4.row 5 _ rfl
    have q6 := X4.row 6 _ rfl
    have q7 := X4.row 7 _ rfl
    simp only [Nat.zero_add] at q0 q1 q2 q3 q4 q5 q6 q7
    have XX4 := Lib.hid X4
    clear X4 XX1 HE1 HC PD C2 C3 NB WB lt1
    go_upto_region 3 with (fail)
    go_cut [5] (fun q wx => q = .bool pb ∧ OX w w.heap.size ⟨nm, st, tt, ra, dec, sg, mg, bd⟩ wx)
    case first =>
      cases pa
      · have P2 := Lib.hid PB.out
        clear PB
        go_wp2_with fail
        go_meet
        exact ⟨by rw [P2.out]; rfl, XX4.out⟩
      · rcases rng_cases ra dec sg with g | ⟨g, g'⟩
        · have P2 := Lib.hid (PB.out.trans (by rw [decide_eq_true g]; rfl : _ = true))
          obtain ⟨r1, r2, r3, r4, r5, r6⟩ := g
          clear PB
          go_wp2_with fail
          go_meet
          exact ⟨by rw [P2.out], XX4.out⟩
        · have P2 := Lib.hid (PB.out.trans (by rw [decide_eq_false g]; rfl : _ = false))
          clear PB g
          rcases g' with r1 | ⟨r1, r2⟩ | ⟨r1, r2, r3⟩ | ⟨r1, r2, r3, r4⟩ | ⟨r1, r2, r3, r4, r5⟩ | ⟨r1, r2, r3, r4, r5, r6⟩
          all_goals
            go_wp2_with fail
            go_meet
            first
              | exact ⟨by rw [P2.out]; congr 1; exact decide_eq_false (by omega), XX4.out⟩
              | exact ⟨by rw [P2.out], XX4.out⟩
    case rest =>
      obtain ⟨rfl, X4⟩ := hcut
      clear q0 q1 q2 q3 q4 q5 q6 q7
      have q0 := X4.row 0 _ rfl
      have q1 := X4.row 1 _ rfl
      have q2 := X4.row 2 _ rfl
      have q3 := X4.row 3 _ rfl
      have q4 := X4.row 4 _ rfl
      have q5 := X4.row 5 _ rfl
      have q6 := X4.row 6 _ rfl
      have q7 := X4.row 7 _ rfl
      simp only [Nat.zero_add] at q0 q1 q2 q3 q4 q5 q6 q7
      clear XX4
      have XX4 := Lib.hid X4
      clear X4 PB
      cases pb
      · have E := Lib.hid (K3.out rfl)
        clear K1 K2 K3
        rcases (show bd = 32 ∨ bd ≠ 32 by omega) with hb | hb <;> rcases (show mg = 9999 ∨ mg ≠ 9999 by omega) with hm | hm
        all_goals
          go_wp2_with fail
          go_ret
          exact ⟨by rw [E.out]; rfl, XX4.out.below⟩
      · have L1 := Lib.hid (fun w' => isLetter_any bd w')
        rcases mag_cases mg bd with ⟨rfl, rfl, g⟩ | ⟨h9, rfl, h1, g⟩ | ⟨h9, rfl, h1, h2, g⟩ | ⟨h9, rfl, h1, h2, g⟩ | ⟨hb, h1, g⟩ | ⟨hb, h1, h2, h9, g⟩ | ⟨hb, rfl, g⟩ | ⟨hb, h1, h2, h9, g⟩
        · have E := Lib.hid (K1.out rfl g)
          clear K1 K2 K3 g
          go_wp2_with fail
          go_ret
          exact ⟨by rw [E.out]; rfl, XX4.out.below⟩
        · have E := Lib.hid (K2.out g)
          clear K1 K2 K3 g
          go_wp2_with fail
          go_ret
          exact ⟨by rw [E.out]; rfl, XX4.out.below⟩
        · have E := Lib.hid (K2.out g)
          clear K1 K2 K3 g
          go_wp2_with fail
          go_ret
          exact ⟨by rw [E.out]; rfl, XX4.out.below⟩
        · have E := Lib.hid (K1.out rfl g)
          clear K1 K2 K3 g
          go_wp2_with fail
          go_ret
          exact ⟨by rw [E.out]; rfl, XX4.out.below⟩
        · have E := Lib.hid (K2.out g)
          clear K1 K2 K3 g
          have h9 : mg ≠ 9999 := by omega
          have hb2 : (bd == 32) = false := beq_eq_false_iff_ne.2 hb
          have hm2 : (mg == 9999) = false := beq_eq_false_iff_ne.2 h9
          go_wp2_with fail
          go_ret
          exact ⟨by rw [E.out]; rfl, XX4.out.below⟩
        · have E := Lib.hid (K2.out g)
          clear K1 K2 K3 g
          have hb2 : (bd == 32) = false := beq_eq_false_iff_ne.2 hb
          have hm2 : (mg == 9999) = false := beq_eq_false_iff_ne.2 h9
          go_wp2_with fail
          go_ret
          exact ⟨by rw [E.out]; rfl, XX4.out.below⟩
        · have E := Lib.hid (K2.out g)
          clear K1 K2 K3 g
          have hb2 : (bd == 32) = false := beq_eq_false_iff_ne.2 hb
          go_wp2_with fail
          go_ret
          exact ⟨by rw [E.out]; rfl, XX4.out.below⟩
        · have hb2 : (bd == 32) = false := beq_eq_false_iff_ne.2 hb
          have hm2 : (mg == 9999) = false := beq_eq_false_iff_ne.2 h9
          rcases lt_cases bd with ⟨hl, el⟩ | ⟨hl, el⟩
          · have E := Lib.hid (K1.out rfl (g.2 hl))
            rw [el] at L1
            clear K1 K2 K3 g hl el
            go_wp2_with (refine (L1.out _).mono ?_; rintro e w5 ⟨rfl, rfl⟩)
            go_ret
            exact ⟨by rw [E.out]; rfl, XX4.out.below⟩
          · have E := Lib.hid (K2.out (fun x => hl (g.1 x)))
            rw [el] at L1
            clear K1 K2 K3 g hl el
            go_wp2_with (refine (L1.out _).mono ?_; rintro e w5 ⟨rfl, rfl⟩)
            go_ret
            exact ⟨by rw [E.out]; rfl, XX4.out.below⟩
end Ow
end Go.Proofs.YtjgcbeihgeaimaaGreatDoor
/-
  Texts of numbers: pad, glue and clock of package angle.
-/
namespace Go.Proofs.YtjgcbeihgeaimaaGreatDoor
namespace Gt
open Go.RowKit Lw Gp

theorem gPow : Tryz.prog.globalNamed "internal/strconv.uint64pow10" = some 3 := by kernel_rfl
/-- The library's table of powers of ten holds what its initialiser lays. -/
def Tab (w : World) : Prop := Lib.TabIs Tryz.prog w "internal/strconv.uint64pow10" .u64 Lib.pow10Tab
theorem Tab.below {w w' : World} (h : Tab w) (hb : Below w.heap.size w w') : Tab w' := Joins.tab_stays gPow h hb (Nat.le_refl _)

/-- A number with at least so many digits. -/
def padL (n : Int) (d : Nat) : List UInt8 := Lib.repeatL [48] (d - (Lib.itoa n).length) ++ Lib.itoa n
theorem rep_len (k : Nat) : (Lib.repeatL [48] k).length = k := by
  induction k with
  | zero => rfl
  | succ k ih => simp_all [Lib.repeatL]
/-- Numbers of two digits, put together. -/
def glueL (x y z : Int) : List UInt8 := padL x 2 ++ [32] ++ padL y 2 ++ [32] ++ padL z 2
abbrev i3 (x y z : Int) : List Value := [.int .i64 x, .int .i64 y, .int .i64 z]
abbrev s3 (a b c : List UInt8) : List Value := [.string ⟨a.toArray⟩, .string ⟨b.toArray⟩, .string ⟨c.toArray⟩]

theorem range_set {w : World} {b : Nat} {cs : List Value} (h : w.rangeAt b 0 cs) (j : Nat) (hj : j < cs.length) (v : Value) : (w.setCell ⟨b, j, none⟩ v).rangeAt b 0 (cs.set j v) := fun i x hx => by
  have hu : w.cell? ⟨b, j, none⟩ = some cs[j] := by have := h j cs[j] (List.getElem?_eq_getElem hj); simpa using this
  have hi : i < cs.length := by have := (List.getElem?_eq_some_iff.1 hx).1; simpa using this
  rw [Nat.zero_add]
  by_cases e : j = i
  · subst e
    rw [World.cell?_setCell_same _ _ _ hu]
    rw [List.getElem?_set_self hj] at hx
    exact hx
  · rw [World.cell?_setCell_other _ _ _ _ (by intro g; injection g with _ g2 _; exact e g2)]
    rw [List.getElem?_set_ne e] at hx
    have := h i x hx
    rwa [Nat.zero_add] at this
theorem range_set_other {w : World} {b b' : Nat} {cs : List Value} (h : w.rangeAt b 0 cs) (j : Nat) (hne : b ≠ b') (v : Value) : (w.setCell ⟨b', j, none⟩ v).rangeAt b 0 cs := fun i x hx => by
  rw [World.cell?_setCell_other _ _ _ _ (by intro g; injection g with g1 _ _; exact hne g1.symm)]
  exact h i x hx
theorem there_set {w : World} {b n : Nat} (h : w.there b 0 n) (a : Addr) (v : Value) : (w.setCell a v).there b 0 n := fun j hj => by
  refine ⟨?_, by rw [World.frozen?_setCell]; exact (h j hj).2⟩
  obtain ⟨u, hu⟩ := Option.isSome_iff_exists.1 (h j hj).1
  obtain ⟨v', hv'⟩ := cell?_setCell_some (w := w) (p := a) (x := v) (q := ⟨b, 0 + j, none⟩) (v := u) hu
  rw [hv']; rfl
/-- What the loop keeps: the numbers, the texts so far. -/
structure GK (w : World) (b : Nat) (ns ts : List Value) (wr : World) : Prop where
  nums : wr.rangeAt b 0 ns
  texts : wr.rangeAt w.heap.size 0 ts
  there : wr.there w.heap.size 0 3
  lt : w.heap.size < wr.heap.size
  below : Below w.heap.size w wr
theorem GK.start {w : World} {b : Nat} {ns : List Value} (hb : b < w.heap.size) (h : w.rangeAt b 0 ns) (C : Array Value) (hC : C = (s3 [] [] []).toArray) (t : TypeId) : GK w b ns (s3 [] [] []) (w.alloc (.cells C t)) := by
  subst hC
  exact ⟨rangeAt_below h ((Below.refl _ _).alloc (Nat.le_refl _) _) hb, rangeAt_new w _ t, there_new w _ t 3 (by simp), by simp, (Below.refl _ _).alloc (Nat.le_refl _) _⟩
theorem GK.call {w : World} {b : Nat} {ns ts : List Value} {a c : World} (hb : b < w.heap.size) (h : GK w b ns ts a) (hc : Below a.heap.size a c) : GK w b ns ts c :=
  ⟨rangeAt_below h.nums hc (Nat.lt_trans hb h.lt), rangeAt_below h.texts hc h.lt, there_below h.there hc h.lt, Nat.lt_of_lt_of_le h.lt hc.size, h.below.trans (hc.mono (Nat.le_of_lt h.lt))⟩
theorem GK.set {w : World} {b : Nat} {ns ts ts' : List Value} {a : World} (hb : b < w.heap.size) (h : GK w b ns ts a) (j : Nat) (v : Value) (hj : j < ts.length) (he : ts.set j v = ts') : GK w b ns ts' (a.setCell ⟨w.heap.size, j, none⟩ v) :=
  ⟨range_set_other h.nums j (Nat.ne_of_lt hb) v, he ▸ range_set h.texts j hj v, there_set h.there _ _, by simpa using h.lt, h.below.setCell (Nat.le_refl _) v⟩
end Gt
end Go.Proofs.YtjgcbeihgeaimaaGreatDoor
/-
  Texts of parts of a second: clock of package angle.
-/
namespace Go.Proofs.YtjgcbeihgeaimaaGreatDoor
namespace Gt
open Go.RowKit Lw Gp

/-- Hours, minutes, seconds and parts. -/
def clockL (n d : Nat) : List UInt8 :=
  glueL ((n / 10 ^ d / 3600 : Nat) : Int) ((n / 10 ^ d / 60 % 60 : Nat) : Int) ((n / 10 ^ d % 60 : Nat) : Int) ++ (if 0 < d then 46 :: padL ((n % 10 ^ d : Nat) : Int) d else [])

end Gt
end Go.Proofs.YtjgcbeihgeaimaaGreatDoor
/-
  What the angle of a text of degrees is.
-/
namespace Go.Proofs.YtjgcbeihgeaimaaGreatDoor
namespace Gp
open Go.RowKit Lw

def negP (s : ByteArray) : Prop := 0 < s.size ∧ (((s.get! 0).toNat : Nat) : Int) = 45
instance (s : ByteArray) : Decidable (negP s) := by unfold negP; infer_instance
def formP (t : ByteArray) (p : Nat) : Prop := p + 1 < t.size ∧ 1 ≤ p ∧ p ≤ 3 ∧ t.size ≤ p + 10 ∧ (p ≤ 1 ∨ ¬ (((t.get! 0).toNat : Nat) : Int) = 48)
def numP (neg : Bool) (D F : Int) : Prop := 0 ≤ D ∧ 0 ≤ F ∧ D ≤ 360 ∧ (D ≠ 360 ∨ F = 0) ∧ (neg = false ∨ D ≠ 0 ∨ F ≠ 0)
def fracI (F : Int) (n : Nat) : Int := rndI (F * (3600000000 / Nat.gcd (10 ^ n) 3600000000 : Nat)) (10 ^ n / Nat.gcd (10 ^ n) 3600000000 : Nat)
def sgnI (neg : Bool) (x : Int) : Int := if neg then -x else x
def degD (t : ByteArray) (p : Nat) : Int := numV (t.extract 0 p).data.toList
def degF (t : ByteArray) (p : Nat) : Int := numV (t.extract (p + 1) t.size).data.toList
def DegT (neg : Bool) (t : ByteArray) (p : Nat) (v e : Int) : Prop :=
  (formP t p ∧ numP neg (degD t p) (degF t p) ∧ v = sgnI neg (degD t p * 3600000000 + fracI (degF t p) (t.size - (p + 1))) ∧ e = 0) ∨ (¬ (formP t p ∧ numP neg (degD t p) (degF t p)) ∧ v = 0 ∧ e = 12)
theorem DegT.det {neg : Bool} {t : ByteArray} {p : Nat} {v e v' e' : Int} (h : DegT neg t p v e) (g : DegT neg t p v' e') : v = v' ∧ e = e' := by
  rcases h with ⟨h1, h2, h3, h4⟩ | ⟨h1, h2, h3⟩ <;> rcases g with ⟨g1, g2, g3, g4⟩ | ⟨g1, g2, g3⟩
  · exact ⟨by rw [h3, g3], by rw [h4, g4]⟩
  · exact absurd ⟨h1, h2⟩ g1
  · exact absurd ⟨g1, g2⟩ h1
  · exact ⟨by rw [h2, g2], by rw [h3, g3]⟩
end Gp
end Go.Proofs.YtjgcbeihgeaimaaGreatDoor
/-
  Plain facts on Go's quotient and remainder of integers, for any integers; no program in sight.
-/
namespace Go.Proofs.YtjgcbeihgeaimaaGreatDoor
namespace Pl
open Go.RowKit

theorem ret_int {k : IntKind} {a b : Int} (h : a = b) : Ending.returned (.int k a) = .returned (.int k b) := by rw [h]

theorem quiet_add_left {P : Program} {f : FuncId} {args : Array Value} {w : World} {a n : Nat} {v : Value}
    (h : Calls P f args (w.drewN (a + n)) fun e w' => e = .returned v ∧ w.drewN (a + n) = w') :
    Calls P f args (w.drewN (a + n)) fun e w'' => e = .returned v ∧ ∃ m, w'' = w.drewN (a + m) :=
  h.mono fun _ _ ⟨he, hm⟩ => ⟨he, n, hm.symm⟩
theorem quiet_left {P : Program} {f : FuncId} {args : Array Value} {w : World} {n : Nat} {v : Value}
    (h : Calls P f args (w.drewN n) fun e w' => e = .returned v ∧ w.drewN n = w') : Calls P f args (w.drewN n) fun e w'' => e = .returned v ∧ ∃ m, w'' = w.drewN m :=
  h.mono fun _ _ ⟨he, hm⟩ => ⟨he, n, hm.symm⟩

theorem tmod_fix (a n : Int) (hn : 0 < n) : (if a.tmod n < 0 then a.tmod n + n else a.tmod n) = a % n := by
  have h1 := Int.tmod_eq_emod (a := a) (b := n)
  have h2 := Int.emod_nonneg a (show n ≠ 0 by omega)
  have h3 := Int.emod_lt_of_pos a hn
  by_cases h : 0 ≤ a ∨ n ∣ a
  · rw [if_pos h] at h1
    rw [if_neg (by omega)]; omega
  · rw [if_neg h] at h1
    have : (n.natAbs : Int) = n := by omega
    rw [if_pos (by omega)]; omega

theorem tmod_bd (a n : Int) (hn : 0 < n) : -n < a.tmod n ∧ a.tmod n < n := ⟨Int.lt_tmod_of_pos a hn, Int.tmod_lt_of_pos a hn⟩

/-- A difference of two angles, at most half a turn. -/
def dif (a b : Int) : Int := if 1296000000000 < 2 * ((a - b) % 1296000000000) then (a - b) % 1296000000000 - 1296000000000 else (a - b) % 1296000000000
theorem dif_bd (a b : Int) : -648000000000 ≤ dif a b ∧ dif a b ≤ 648000000000 := by unfold dif; split <;> omega
theorem sub_nrm (a b : Int) : (a % 1296000000000 - b % 1296000000000) % 1296000000000 = (a - b) % 1296000000000 := by omega
end Pl
end Go.Proofs.YtjgcbeihgeaimaaGreatDoor
