/-
  Lemmas and walks, texts joined: Frame, MBPl, MNum, MTen, Shelf, MPad, MLike, MGrp, MForm, MCut, MForm2, MText, MDiv, MDivW, MPart, MDay.
-/
import Derived.Lib.SmallJoins
import Derived.ProofKit
import Derived.Lib.Hide
import Derived.Laws.RangeAny
import Derived.LoopTactic
import Derived.Deep.QuietTactic
import Derived.BigQuiet
import Derived.WalkLawsBesides
import Derived.WalkSpells
import Derived.Shelf.Bits.Mul64
import Derived.Shelf.LaysM
import Derived.Shelf.Pu.ParseUintPublic10
import Derived.Shelf.SlicesE.Clone
import Derived.Shelf.Small.Bits
import Derived.Shelf.Small.Strs
import Derived.Shelf.Small.Utf8
import Derived.Shelf.Small.Wraps
import Derived.Shelf.Strconv.Itoa0
import Derived.Shelf.Strconv.Itoa1
import Derived.Shelf.Strconv.Itoa2
import Derived.Shelf.Strconv.Itoa3
import Derived.Shelf.Strconv.Itoa4
import Derived.Shelf.Strings.Builder1
import Derived.Shelf.Strings.Builder2
import Derived.Shelf.Strings.BuilderF
import Derived.Shelf.Strings.Cut
import Derived.Shelf.Strings.OnBuilder
import Derived.Shelf.Strings.Prefix
import Derived.Shelf.Strings.Repeat
import Derived.Shelf.Strings.Runes
import Derived.Shelf.Strings.Search1
import Derived.Shelf.Strings.Search2
import Derived.Shelf.Strings.Shaped
import Derived.Shelf.Strings.SlTrimAscii
import Derived.Shelf.Strings.Trim
import Derived.Lib.LaidTab
import Derived.Laws.Concat
import Derived.Lib.Repeat
import Derived.Lib.ItoaLen
import Derived.Sort.Grow
import Derived.Deep.RegionHeld3
import Derived.StillTailTactics
import Derived.WalkKit
import Derived.Lib.BitFns
import Derived.Laws.Bits64b
import Derived.Test.YtaghilgfldaaiaaGreatDoorVa01
import Derived.Test.YtaghilgfldaaiaaGreatDoorRows
import Derived.Test.YtaghilgfldaaiaaGreatDoorProg
set_option linter.unusedSimpArgs false
set_option linter.unusedVariables false
/-
  Opening an argument that is a struct by value, whatever the number of its one-cell fields; for any program.
-/
namespace Go.Proofs.YtaghilgfldaaiaaGreatDoor
namespace Fr
open Go.Joins Go.ChangeShapes Go.WideShapes Go.RowKit Go.Deep

section
variable {H : Type} {enc : TypeId × Value → H} {P : Program} {w : World} {base : Nat} {spare : Nat → Bool} {held : Bool}
end
end Fr
end Go.Proofs.YtaghilgfldaaiaaGreatDoor
/-
  Plain laws: ToUtc and FromUtc are inverse, and later times have later dates.
-/
namespace Go.Proofs.YtaghilgfldaaiaaGreatDoor
namespace Mp

/-- The date of a time is a date, and its time is the time. -/
theorem to_from {t n y m z k : Int} (hd : DayOf t n y m z k) :
    fromOk y m (n - mo y m + 1) (mins (t - bgv n y m) / 60) (mins (t - bgv n y m) % 60) ((t - bgv n y m) / 1000000 - 60 * mins (t - bgv n y m)) ((t - bgv n y m) % 1000000) ∧
    timeOf y m (n - mo y m + 1) (mins (t - bgv n y m) / 60) (mins (t - bgv n y m) % 60) ((t - bgv n y m) / 1000000 - 60 * mins (t - bgv n y m)) ((t - bgv n y m) % 1000000) = t := by
  have hw : wholeP y m (n - mo y m + 1) := ⟨hd.y1, by have := hd.y2; omega, hd.ym.m1, hd.ym.m12, by have := hd.ym.lo; omega, by have := hd.ym.hi; omega⟩
  have e : dn y m (n - mo y m + 1) = n := by rw [dn_mo]; omega
  have dl := day_len (z := z) (k := k) hw (by rw [e]; exact hd.zk)
  rw [e] at dl
  obtain ⟨p0, p1⟩ := hd.pass
  have hi := hd.hi
  obtain ⟨p, hp⟩ : ∃ p, t - bgv n y m = p := ⟨_, rfl⟩
  rw [hp] at p0 p1 ⊢
  have mb : 0 ≤ mins p ∧ mins p ≤ 1439 := by unfold mins; split <;> omega
  constructor
  · refine ⟨hw, by omega, by omega, by omega, by omega, ?_, by omega, by omega, ?_⟩
    · unfold mins; split <;> omega
    · by_cases c : p / 1000000 / 60 ≤ 1439
      · left
        have em : mins p = p / 1000000 / 60 := if_pos c
        rw [em]; omega
      · right
        have em : mins p = 1439 := if_neg c
        rw [em]
        refine ⟨by omega, by omega, by omega, ?_⟩
        rcases dl with ⟨a, _⟩ | ⟨_, b⟩
        · omega
        · exact b
  · unfold timeOf
    rw [e]
    omega
/-- The time of a date has the date. -/
theorem from_to {y m d h i s u : Int} (ok : fromOk y m d h i s u) : ∃ z k, DayOf (timeOf y m d h i s u) (dn y m d) y m z k ∧
    d = dn y m d - mo y m + 1 ∧ h = mins (timeOf y m d h i s u - bgv (dn y m d) y m) / 60 ∧ i = mins (timeOf y m d h i s u - bgv (dn y m d) y m) % 60 ∧
    s = (timeOf y m d h i s u - bgv (dn y m d) y m) / 1000000 - 60 * mins (timeOf y m d h i s u - bgv (dn y m d) y m) ∧ u = (timeOf y m d h i s u - bgv (dn y m d) y m) % 1000000 := by
  obtain ⟨hw, h1, h2, h3, h4, h5, h6, h7, h8⟩ := ok
  have wr := wholeP_range hw
  obtain ⟨z, k, z1, z2, zk⟩ := ym_ex (dn y m d + 1) (by omega) (by omega)
  have dl := day_len hw zk
  have ep : timeOf y m d h i s u - bgv (dn y m d) y m = (3600 * h + 60 * i + s) * 1000000 + u := by unfold timeOf; omega
  refine ⟨z, k, ⟨wholeP_ym hw, zk, by omega, ?_, by omega, by omega, hw.1, by have := hw.2.1; omega⟩, by rw [dn_mo]; omega, ?_⟩
  · rcases h8 with c | ⟨c1, c2, c3, c4⟩
    · rcases dl with ⟨a, _⟩ | ⟨a, _⟩ <;> omega
    · rcases dl with ⟨_, b⟩ | ⟨a, _⟩
      · exact absurd c4 b
      · omega
  · rw [ep]
    rcases h8 with c | ⟨c1, c2, c3, c4⟩
    · have em : mins ((3600 * h + 60 * i + s) * 1000000 + u) = 60 * h + i := by
        unfold mins
        rw [if_pos (by omega)]
        omega
      rw [em]; omega
    · subst c1 c2 c3
      have em : mins ((3600 * 23 + 60 * 59 + 60) * 1000000 + u) = 1439 := by
        unfold mins
        rw [if_neg (by omega)]
      rw [em]; omega
theorem ToIs.back {t y m d h i s u : Int} (a : ToIs t y m d h i s u 0) : FromIs y m d h i s u t 0 := by
  rcases a with ⟨_, _, _, _, _, _, _, _, c⟩ | ⟨a1, a2, n, z, k, hd, rfl, rfl, rfl, rfl, rfl, _⟩
  · omega
  · obtain ⟨b1, b2⟩ := to_from hd
    exact Or.inl ⟨b1, b2.symm, rfl⟩
theorem FromIs.back {t y m d h i s u : Int} (a : FromIs y m d h i s u t 0) : ToIs t y m d h i s u 0 := by
  rcases a with ⟨ok, rfl, _⟩ | ⟨_, _, c⟩
  · obtain ⟨z, k, hd, e1, e2, e3, e4, e5⟩ := from_to ok
    refine Or.inr ⟨?_, ?_, dn y m d, z, k, hd, e1, e2, e3, e4, e5, rfl⟩
    · have := bgv_mono hd.ym ym_72 hd.n1; have := hd.lo; omega
    · have := bgv_mono ym_00 hd.zk (by have := hd.n2; omega); have := hd.hi; omega
  · omega
theorem DayOf.bd {t n y m z k : Int} (h : DayOf t n y m z k) : -1000000000000000 ≤ t ∧ t ≤ 4000000000000000 := by
  have a := bgv_bd n y m (by have := h.n1; omega) (by have := h.n2; omega)
  have b := bgv_bd (n + 1) z k (by have := h.n1; omega) (by have := h.n2; omega)
  have := h.lo
  have := h.hi
  omega
theorem FromIs.bd {t y m d h i s u c : Int} (a : FromIs y m d h i s u t c) : -1000000000000000 ≤ t ∧ t ≤ 4000000000000000 := by
  rcases a with ⟨ok, rfl, _⟩ | ⟨_, rfl, c⟩
  · obtain ⟨z, k, hd, _⟩ := from_to ok
    exact hd.bd
  · omega
theorem ToIs.bd {t y m d h i s u : Int} (a : ToIs t y m d h i s u 0) : -1000000000000000 ≤ t ∧ t ≤ 4000000000000000 := a.back.bd
/-! ### The order of dates -/
/-! ### Months -/
end Mp
end Go.Proofs.YtaghilgfldaaiaaGreatDoor
/-
  Reading digits: number of the reference.
-/
namespace Go.Proofs.YtaghilgfldaaiaaGreatDoor
namespace Ap
open Go.RowKit Lw

def numL (l : List UInt8) : Int := l.foldl (fun n c => 10 * n + ((c.toNat : Int) - 48)) 0
def allD (l : List UInt8) : Prop := ∀ c ∈ l, 48 ≤ (c.toNat : Int) ∧ (c.toNat : Int) ≤ 57
instance (l : List UInt8) : Decidable (allD l) := by unfold allD; infer_instance
/-- The number that a string of digits is, or -1. -/
def numV (l : List UInt8) : Int := if allD l then numL l else -1
theorem numL_snoc (l : List UInt8) (c : UInt8) : numL (l ++ [c]) = 10 * numL l + ((c.toNat : Int) - 48) := by simp [numL]
theorem allD_snoc {l : List UInt8} {c : UInt8} (h : allD l) (h1 : 48 ≤ (c.toNat : Int)) (h2 : (c.toNat : Int) ≤ 57) : allD (l ++ [c]) := fun x hx => by
  rcases List.mem_append.1 hx with g | g
  · exact h x g
  · have := List.mem_singleton.1 g; subst this; exact ⟨h1, h2⟩
theorem take_snoc (s : ByteArray) (k : Nat) (h : k < s.size) : s.data.toList.take (k + 1) = s.data.toList.take k ++ [s[k]] := by
  rw [List.take_succ_eq_append_getElem (by simpa using h)]; rfl
theorem take_all (s : ByteArray) (k : Nat) (h : ¬ k < s.size) : s.data.toList.take k = s.data.toList := List.take_of_length_le (by simp; omega)
theorem numL_bd (l : List UInt8) : ∀ k, k ≤ l.length → allD (l.take k) → 0 ≤ numL (l.take k) ∧ numL (l.take k) < 10 ^ k
  | 0, _, _ => by simp [numL]
  | k + 1, hk, h => by
    have e : l.take (k + 1) = l.take k ++ [l[k]] := List.take_succ_eq_append_getElem (by omega)
    rw [e] at h ⊢
    have ih := numL_bd l k (by omega) (fun x hx => h x (List.mem_append_left _ hx))
    have hc := h l[k] (List.mem_append_right _ (List.mem_singleton.2 rfl))
    rw [numL_snoc, Int.pow_succ]
    omega
theorem pow_17 : ∀ k : Nat, k < 18 → (10 : Int) ^ k ≤ 100000000000000000 := by decide
theorem numL_17 (s : ByteArray) (k : Nat) (hk : k ≤ s.size) (h18 : k < 18) (h : allD (s.data.toList.take k)) : 0 ≤ numL (s.data.toList.take k) ∧ numL (s.data.toList.take k) < 100000000000000000 := by
  have := numL_bd s.data.toList k (by simpa using hk) h
  have := pow_17 k h18
  omega
theorem numV_not (s : ByteArray) (k : Nat) (hk : k < s.size) (h : ¬ (48 ≤ (s[k].toNat : Int) ∧ (s[k].toNat : Int) ≤ 57)) : numV s.data.toList = -1 := by
  unfold numV
  rw [if_neg]
  intro g
  exact h (g s[k] (by
    have : s[k] = s.data.toList[k]'(by simpa using hk) := rfl
    rw [this]; exact List.getElem_mem _))
theorem numV_all (s : ByteArray) (k : Nat) (hk : ¬ k < s.size) (h : allD (s.data.toList.take k)) : numL (s.data.toList.take k) = numV s.data.toList := by
  rw [take_all s k hk] at h ⊢
  unfold numV
  rw [if_pos h]
theorem byte_bd (b : UInt8) : 0 ≤ (b.toNat : Int) ∧ (b.toNat : Int) < 256 := by have := b.toNat_lt; omega
theorem ret_i {a b : Int} (h : a = b) : Ending.returned (.int .i64 a) = .returned (.int .i64 b) := by rw [h]
theorem val_i {a b : Int} (h : a = b) : Value.int .i64 a = .int .i64 b := by rw [h]
end Ap
end Go.Proofs.YtaghilgfldaaiaaGreatDoor
/-
  Powers of ten: package moment and the reference.
-/
namespace Go.Proofs.YtaghilgfldaaiaaGreatDoor
namespace Ap
open Go.RowKit Lw

/-- A power of ten. -/
def tenI (k : Nat) : Int := (10 ^ k : Nat)
theorem tenI_s (k : Nat) : tenI (k + 1) = tenI k * 10 := by unfold tenI; rw [Nat.pow_succ]; omega
theorem tenI_bd : ∀ k : Nat, k ≤ 18 → 1 ≤ tenI k ∧ tenI k ≤ 1000000000000000000 := by decide
theorem tenI_17 : ∀ k : Nat, k < 18 → 1 ≤ tenI k ∧ tenI k ≤ 100000000000000000 := by decide

set_option maxHeartbeats 400000 in
theorem rten_any (n : Nat) (w : World) (hn : n ≤ 18) :
    Calls Tryz.prog 135 #[.int .i64 n] w fun e w' => e = .returned (.int .i64 (tenI n)) ∧ w = w' := by
  go_enter Tryz.func135, Tryz.ntmps135
  go_wp2
  go_loop [3, 4] (fun p i => ∃ k : Nat, k ≤ n ∧ i = .int .i64 k ∧ p = .int .i64 (tenI k)) (fun _ i => n - (intOf i).toNat)
  case atStart => exact ⟨0, Nat.zero_le _, rfl, rfl⟩
  case round =>
    obtain ⟨k, hk, rfl, rfl⟩ := hrel
    by_cases hlt : k < n
    · have nb := tenI_17 k (by omega)
      have HS := Lib.hid (show tenI (k + 1) = 10 * tenI k by rw [tenI_s]; omega)
      go_wp2
      go_round
      case rel => exact ⟨k + 1, by omega, by go_num, val_i HS.out.symm⟩
      case measure => simp [intOf]; omega
    · obtain rfl : k = n := by omega
      go_wp2
      go_ret
      exact ⟨rfl, rfl⟩
end Ap
end Go.Proofs.YtaghilgfldaaiaaGreatDoor
/-
  The library contracts that this claim uses, laid at its program: cut out of what the shelf's own program writes.
-/
namespace Go.Proofs
open Go.Shelf
def Tryz.lays160_ren : Go.Shelf.Ren := ⟨fun | 160 => 51 | 232 => 97 | 231 => 96 | 227 => 98 | 234 => 100 | 233 => 99 | 236 => 102 | 235 => 101 | 228 => 146 | 271 => 149 | 151 => 148 | 197 => 147 | 120 => 193 | 152 => 192 | 260 => 191 | 137 => 213 | 119 => 214 | 224 => 211 | 225 => 210 | 217 => 209 | 266 => 223 | n => n, fun | 9 => 9 | 4 => 4 | 3 => 3 | 5 => 5 | 117 => 134 | 116 => 133 | 0 => 0 | 124 => 137 | 21 => 21 | 105 => 163 | 46 => 150 | 119 => 213 | 139 => 216 | 138 => 215 | n => n, fun | 3 => 2 | 4 => 3 | n => n⟩
theorem Tryz.lays160 : Go.Proofs.Lays.n160 Tryz.prog Tryz.lays160_ren := {
  mixed := by kernel_rfl
  f119 := Tryz.func214.trans (congrArg some (by kernel_rfl))
  f120 := Tryz.func193.trans (congrArg some (by kernel_rfl))
  f137 := Tryz.func213.trans (congrArg some (by kernel_rfl))
  f151 := Tryz.func148.trans (congrArg some (by kernel_rfl))
  f152 := Tryz.func192.trans (congrArg some (by kernel_rfl))
  f160 := Tryz.func51.trans (congrArg some (by kernel_rfl))
  f197 := Tryz.func147.trans (congrArg some (by kernel_rfl))
  f217 := Tryz.func209.trans (congrArg some (by kernel_rfl))
  f224 := Tryz.func211.trans (congrArg some (by kernel_rfl))
  f225 := Tryz.func210.trans (congrArg some (by kernel_rfl))
  f227 := Tryz.func98.trans (congrArg some (by kernel_rfl))
  f228 := Tryz.func146.trans (congrArg some (by kernel_rfl))
  f231 := Tryz.func96.trans (congrArg some (by kernel_rfl))
  f232 := Tryz.func97.trans (congrArg some (by kernel_rfl))
  f233 := Tryz.func99.trans (congrArg some (by kernel_rfl))
  f234 := Tryz.func100.trans (congrArg some (by kernel_rfl))
  f235 := Tryz.func101.trans (congrArg some (by kernel_rfl))
  f236 := Tryz.func102.trans (congrArg some (by kernel_rfl))
  f260 := Tryz.func191.trans (congrArg some (by kernel_rfl))
  f266 := Tryz.func223.trans (congrArg some (by kernel_rfl))
  f271 := Tryz.func149.trans (congrArg some (by kernel_rfl))
  t0 := Tryz.underlying0
  a0 := Tryz.isAgg0
  z0 := Tryz.sizeOf0
  v0 := Tryz.zeroValue0
  t3 := Tryz.underlying3
  a3 := Tryz.isAgg3
  z3 := Tryz.sizeOf3
  v3 := Tryz.zeroValue3
  t4 := Tryz.underlying4
  a4 := Tryz.isAgg4
  z4 := Tryz.sizeOf4
  v4 := Tryz.zeroValue4
  t5 := Tryz.underlying5
  a5 := Tryz.isAgg5
  z5 := Tryz.sizeOf5
  v5 := Tryz.zeroValue5
  t9 := Tryz.underlying9
  a9 := Tryz.isAgg9
  z9 := Tryz.sizeOf9
  v9 := Tryz.zeroValue9
  t21 := Tryz.underlying21
  a21 := Tryz.isAgg21
  z21 := Tryz.sizeOf21
  v21 := Tryz.zeroValue21
  t46 := Tryz.underlying150
  a46 := Tryz.isAgg150
  z46 := Tryz.sizeOf150
  v46 := Tryz.zeroValue150
  t105 := Tryz.underlying163
  a105 := Tryz.isAgg163
  z105 := Tryz.sizeOf163
  v105 := Tryz.zeroValue163
  t116 := Tryz.underlying133
  a116 := Tryz.isAgg133
  z116 := Tryz.sizeOf133
  t117 := Tryz.underlying134
  a117 := Tryz.isAgg134
  z117 := Tryz.sizeOf134
  v117 := Tryz.zeroValue134
  t119 := Tryz.underlying213
  a119 := Tryz.isAgg213
  z119 := Tryz.sizeOf213
  t124 := Tryz.underlying137
  a124 := Tryz.isAgg137
  z124 := Tryz.sizeOf137
  v124 := Tryz.zeroValue137
  t138 := Tryz.underlying215
  a138 := Tryz.isAgg215
  z138 := Tryz.sizeOf215
  v138 := Tryz.zeroValue215
  t139 := Tryz.underlying216
  a139 := Tryz.isAgg216
  z139 := Tryz.sizeOf216
  v139 := Tryz.zeroValue216
  g3 := by kernel_rfl
  g4 := by kernel_rfl }
open Go.RowKit in
/-- strings.Trim: "Trim returns a slice of the string s with all leading and trailing Unicode code points contained in cutset removed.": AT A cutset OF ONE ASCII BYTE. THE WORLD BEHIND IT: as it was, or (where s is not empty) with ONE DRAW MORE off the tape: the statement 'return trimLeftByte(trimRightByte(s, c), c)' draws its order of evaluation. (LAID: no walk: one application.) -/
theorem Tryz.strings_Trim_one (s : ByteArray) (c : UInt8) (hc : c.toNat < 128) (w : World) (hs : s.size ≤ 9223372036854775807) :
    Calls Tryz.prog 51 #[.string s, .string ⟨#[c]⟩] w fun e w' => e = .returned (.string ⟨(Lib.trimB s.data.toList c).toArray⟩) ∧ (w' = w ∨ w' = w.drew) := Any.strings_Trim_one Tryz.lays160 s c hc w hs
def Tryz.laysM171_ren : Go.Shelf.Ren := ⟨fun | 171 => 128 | 243 => 181 | 246 => 127 | 283 => 177 | 284 => 178 | 285 => 179 | 286 => 180 | 129 => 167 | 317 => 204 | 318 => 205 | 319 => 206 | 320 => 207 | 337 => 221 | 338 => 222 | n => n, fun | 3 => 3 | 9 => 9 | 2 => 2 | 4 => 4 | 171 => 187 | 0 => 0 | 53 => 181 | 37 => 82 | 5 => 5 | 173 => 189 | 212 => 209 | 51 => 179 | 20 => 20 | 213 => 210 | 46 => 150 | 232 => 233 | 233 => 234 | n => n, fun | 17 => 0 | 18 => 4 | 19 => 5 | n => n⟩
theorem Tryz.laysM171 : Go.Proofs.LaysM.n171 Tryz.prog Tryz.laysM171_ren := {
  mixed := by kernel_rfl
  f129 := Tryz.func167.trans (congrArg some (by kernel_rfl))
  f171 := Tryz.func128.trans (congrArg some (by kernel_rfl))
  f243 := Tryz.func181.trans (congrArg some (by kernel_rfl))
  f246 := Tryz.func127.trans (congrArg some (by kernel_rfl))
  f283 := Tryz.func177.trans (congrArg some (by kernel_rfl))
  f284 := Tryz.func178.trans (congrArg some (by kernel_rfl))
  f285 := Tryz.func179.trans (congrArg some (by kernel_rfl))
  f286 := Tryz.func180.trans (congrArg some (by kernel_rfl))
  f317 := Tryz.func204.trans (congrArg some (by kernel_rfl))
  f318 := Tryz.func205.trans (congrArg some (by kernel_rfl))
  f319 := Tryz.func206.trans (congrArg some (by kernel_rfl))
  f320 := Tryz.func207.trans (congrArg some (by kernel_rfl))
  f337 := Tryz.func221.trans (congrArg some (by kernel_rfl))
  f338 := Tryz.func222.trans (congrArg some (by kernel_rfl))
  t0 := Tryz.underlying0
  a0 := Tryz.isAgg0
  z0 := Tryz.sizeOf0
  v0 := Tryz.zeroValue0
  t2 := Tryz.underlying2
  a2 := Tryz.isAgg2
  z2 := Tryz.sizeOf2
  v2 := Tryz.zeroValue2
  t3 := Tryz.underlying3
  a3 := Tryz.isAgg3
  z3 := Tryz.sizeOf3
  v3 := Tryz.zeroValue3
  t4 := Tryz.underlying4
  a4 := Tryz.isAgg4
  z4 := Tryz.sizeOf4
  v4 := Tryz.zeroValue4
  t5 := Tryz.underlying5
  a5 := Tryz.isAgg5
  z5 := Tryz.sizeOf5
  v5 := Tryz.zeroValue5
  t9 := Tryz.underlying9
  a9 := Tryz.isAgg9
  z9 := Tryz.sizeOf9
  v9 := Tryz.zeroValue9
  t20 := Tryz.underlying20
  a20 := Tryz.isAgg20
  z20 := Tryz.sizeOf20
  v20 := Tryz.zeroValue20
  t37 := Tryz.underlying82
  a37 := Tryz.isAgg82
  z37 := Tryz.sizeOf82
  v37 := Tryz.zeroValue82
  t46 := Tryz.underlying150
  a46 := Tryz.isAgg150
  z46 := Tryz.sizeOf150
  v46 := Tryz.zeroValue150
  t51 := Tryz.underlying179
  a51 := Tryz.isAgg179
  z51 := Tryz.sizeOf179
  v51 := Tryz.zeroValue179
  t53 := Tryz.underlying181
  a53 := Tryz.isAgg181
  z53 := Tryz.sizeOf181
  v53 := Tryz.zeroValue181
  t171 := Tryz.underlying187
  a171 := Tryz.isAgg187
  z171 := Tryz.sizeOf187
  v171 := Tryz.zeroValue187
  t173 := Tryz.underlying189
  a173 := Tryz.isAgg189
  z173 := Tryz.sizeOf189
  v173 := Tryz.zeroValue189
  t212 := Tryz.underlying209
  a212 := Tryz.isAgg209
  z212 := Tryz.sizeOf209
  v212 := Tryz.zeroValue209
  t213 := Tryz.underlying210
  a213 := Tryz.isAgg210
  z213 := Tryz.sizeOf210
  t232 := Tryz.underlying233
  a232 := Tryz.isAgg233
  z232 := Tryz.sizeOf233
  v232 := Tryz.zeroValue233
  t233 := Tryz.underlying234
  a233 := Tryz.isAgg234
  z233 := Tryz.sizeOf234
  v233 := Tryz.zeroValue234
  g17 := by kernel_rfl
  g18 := by kernel_rfl
  g19 := by kernel_rfl
  i0 := by kernel_rfl
  i2 := by kernel_rfl
  i3 := by kernel_rfl
  i4 := by kernel_rfl
  i5 := by kernel_rfl
  i9 := by kernel_rfl
  i20 := by kernel_rfl
  i37 := by kernel_rfl
  i46 := by kernel_rfl
  i51 := by kernel_rfl
  i53 := by kernel_rfl
  i171 := by kernel_rfl
  i173 := by kernel_rfl
  i212 := by kernel_rfl
  i232 := by kernel_rfl
  i233 := by kernel_rfl
  m17 := by kernel_rfl
  m18 := by kernel_rfl
  m19 := by kernel_rfl }
open Go.RowKit Go.Sort Go.Lib in
/-- strconv.Itoa: "Itoa is equivalent to FormatInt(int64(i), 10).": i's DECIMAL NUMERAL ('Lib.itoa': a '-' where i is negative, then the digits), FOR EVERY int. The world behind the call: the world before it, new blocks behind the heap (the library's 'var a [24]byte'), draws. (LAID: no walk: one application.) -/
theorem Tryz.strconv_Itoa (n : Int) (h0 : -9223372036854775808 ≤ n) (h1 : n ≤ 9223372036854775807) (w : World) (htab : Lib.TabIs Tryz.prog w "internal/strconv.uint64pow10" .u64 Lib.pow10Tab) :
    Calls Tryz.prog 128 #[.int .i64 n] w fun e w' => e = .returned (.string ⟨(Lib.itoa n).toArray⟩) ∧ ∃ k os, w' = grow (w.drewN k) os := Any.strconv_Itoa Tryz.laysM171 n h0 h1 w htab
def Tryz.laysM173_ren : Go.Shelf.Ren := ⟨fun | 173 => 71 | 246 => 127 | 283 => 177 | 284 => 178 | 285 => 179 | 286 => 180 | 129 => 167 | 317 => 204 | 318 => 205 | 319 => 206 | 320 => 207 | 337 => 221 | 338 => 222 | n => n, fun | 2 => 2 | 3 => 3 | 9 => 9 | 4 => 4 | 171 => 187 | 0 => 0 | 53 => 181 | 37 => 82 | 5 => 5 | 173 => 189 | 212 => 209 | 51 => 179 | 20 => 20 | 213 => 210 | 46 => 150 | 232 => 233 | 233 => 234 | n => n, fun | 17 => 0 | 18 => 4 | 19 => 5 | n => n⟩
theorem Tryz.laysM173 : Go.Proofs.LaysM.n173 Tryz.prog Tryz.laysM173_ren := {
  mixed := by kernel_rfl
  f129 := Tryz.func167.trans (congrArg some (by kernel_rfl))
  f173 := Tryz.func71.trans (congrArg some (by kernel_rfl))
  f246 := Tryz.func127.trans (congrArg some (by kernel_rfl))
  f283 := Tryz.func177.trans (congrArg some (by kernel_rfl))
  f284 := Tryz.func178.trans (congrArg some (by kernel_rfl))
  f285 := Tryz.func179.trans (congrArg some (by kernel_rfl))
  f286 := Tryz.func180.trans (congrArg some (by kernel_rfl))
  f317 := Tryz.func204.trans (congrArg some (by kernel_rfl))
  f318 := Tryz.func205.trans (congrArg some (by kernel_rfl))
  f319 := Tryz.func206.trans (congrArg some (by kernel_rfl))
  f320 := Tryz.func207.trans (congrArg some (by kernel_rfl))
  f337 := Tryz.func221.trans (congrArg some (by kernel_rfl))
  f338 := Tryz.func222.trans (congrArg some (by kernel_rfl))
  t0 := Tryz.underlying0
  a0 := Tryz.isAgg0
  z0 := Tryz.sizeOf0
  v0 := Tryz.zeroValue0
  t2 := Tryz.underlying2
  a2 := Tryz.isAgg2
  z2 := Tryz.sizeOf2
  v2 := Tryz.zeroValue2
  t3 := Tryz.underlying3
  a3 := Tryz.isAgg3
  z3 := Tryz.sizeOf3
  v3 := Tryz.zeroValue3
  t4 := Tryz.underlying4
  a4 := Tryz.isAgg4
  z4 := Tryz.sizeOf4
  v4 := Tryz.zeroValue4
  t5 := Tryz.underlying5
  a5 := Tryz.isAgg5
  z5 := Tryz.sizeOf5
  v5 := Tryz.zeroValue5
  t9 := Tryz.underlying9
  a9 := Tryz.isAgg9
  z9 := Tryz.sizeOf9
  v9 := Tryz.zeroValue9
  t20 := Tryz.underlying20
  a20 := Tryz.isAgg20
  z20 := Tryz.sizeOf20
  v20 := Tryz.zeroValue20
  t37 := Tryz.underlying82
  a37 := Tryz.isAgg82
  z37 := Tryz.sizeOf82
  v37 := Tryz.zeroValue82
  t46 := Tryz.underlying150
  a46 := Tryz.isAgg150
  z46 := Tryz.sizeOf150
  v46 := Tryz.zeroValue150
  t51 := Tryz.underlying179
  a51 := Tryz.isAgg179
  z51 := Tryz.sizeOf179
  v51 := Tryz.zeroValue179
  t53 := Tryz.underlying181
  a53 := Tryz.isAgg181
  z53 := Tryz.sizeOf181
  v53 := Tryz.zeroValue181
  t171 := Tryz.underlying187
  a171 := Tryz.isAgg187
  z171 := Tryz.sizeOf187
  v171 := Tryz.zeroValue187
  t173 := Tryz.underlying189
  a173 := Tryz.isAgg189
  z173 := Tryz.sizeOf189
  v173 := Tryz.zeroValue189
  t212 := Tryz.underlying209
  a212 := Tryz.isAgg209
  z212 := Tryz.sizeOf209
  v212 := Tryz.zeroValue209
  t213 := Tryz.underlying210
  a213 := Tryz.isAgg210
  z213 := Tryz.sizeOf210
  t232 := Tryz.underlying233
  a232 := Tryz.isAgg233
  z232 := Tryz.sizeOf233
  v232 := Tryz.zeroValue233
  t233 := Tryz.underlying234
  a233 := Tryz.isAgg234
  z233 := Tryz.sizeOf234
  v233 := Tryz.zeroValue234
  g17 := by kernel_rfl
  g18 := by kernel_rfl
  g19 := by kernel_rfl
  i0 := by kernel_rfl
  i2 := by kernel_rfl
  i3 := by kernel_rfl
  i4 := by kernel_rfl
  i5 := by kernel_rfl
  i9 := by kernel_rfl
  i20 := by kernel_rfl
  i37 := by kernel_rfl
  i46 := by kernel_rfl
  i51 := by kernel_rfl
  i53 := by kernel_rfl
  i171 := by kernel_rfl
  i173 := by kernel_rfl
  i212 := by kernel_rfl
  i232 := by kernel_rfl
  i233 := by kernel_rfl
  m17 := by kernel_rfl
  m18 := by kernel_rfl
  m19 := by kernel_rfl }
open Go.RowKit Go.Sort Go.Lib in
/-- strconv.FormatInt: "FormatInt returns the string representation of i in the given base": AT BASE 10: i's decimal numeral, for every int64. (LAID: no walk: one application.) -/
theorem Tryz.strconv_FormatInt_10 (n : Int) (h0 : -9223372036854775808 ≤ n) (h1 : n ≤ 9223372036854775807) (w : World) (htab : Lib.TabIs Tryz.prog w "internal/strconv.uint64pow10" .u64 Lib.pow10Tab) :
    Calls Tryz.prog 71 #[.int .i64 n, .int .i64 10] w fun e w' => e = .returned (.string ⟨(Lib.itoa n).toArray⟩) ∧ ∃ k os, w' = grow (w.drewN k) os := Any.strconv_FormatInt_10 Tryz.laysM173 n h0 h1 w htab
def Tryz.laysPu14_ren : Go.Shelf.Ren := ⟨fun | 14 => 201 | 16 => 217 | 17 => 218 | 19 => 225 | 20 => 226 | 21 => 227 | 22 => 228 | 23 => 229 | 24 => 230 | 25 => 231 | 27 => 128 | 26 => 232 | 28 => 181 | 29 => 127 | 30 => 177 | 31 => 178 | 32 => 179 | 33 => 180 | 35 => 167 | 34 => 204 | 36 => 205 | 37 => 206 | 38 => 207 | 39 => 221 | 40 => 222 | n => n, fun | 9 => 9 | 3 => 3 | 22 => 181 | 24 => 97 | 25 => 203 | 4 => 4 | 34 => 228 | 5 => 5 | 36 => 150 | 37 => 82 | 0 => 0 | 39 => 230 | 21 => 21 | 44 => 236 | 47 => 141 | 50 => 240 | 48 => 238 | 2 => 2 | 52 => 187 | 55 => 189 | 59 => 209 | 60 => 179 | 20 => 20 | 61 => 210 | 65 => 233 | 66 => 234 | 67 => 102 | n => n, fun | 0 => 6 | 1 => 7 | 2 => 0 | 3 => 4 | 4 => 5 | n => n⟩
theorem Tryz.laysPu14 : Go.Proofs.LaysPu.n14 Tryz.prog Tryz.laysPu14_ren := {
  mixed := by kernel_rfl
  f14 := Tryz.func201.trans (congrArg some (by kernel_rfl))
  f16 := Tryz.func217.trans (congrArg some (by kernel_rfl))
  f17 := Tryz.func218.trans (congrArg some (by kernel_rfl))
  f19 := Tryz.func225.trans (congrArg some (by kernel_rfl))
  f20 := Tryz.func226.trans (congrArg some (by kernel_rfl))
  f21 := Tryz.func227.trans (congrArg some (by kernel_rfl))
  f22 := Tryz.func228.trans (congrArg some (by kernel_rfl))
  f23 := Tryz.func229.trans (congrArg some (by kernel_rfl))
  f24 := Tryz.func230.trans (congrArg some (by kernel_rfl))
  f25 := Tryz.func231.trans (congrArg some (by kernel_rfl))
  f26 := Tryz.func232.trans (congrArg some (by kernel_rfl))
  f27 := Tryz.func128.trans (congrArg some (by kernel_rfl))
  f28 := Tryz.func181.trans (congrArg some (by kernel_rfl))
  f29 := Tryz.func127.trans (congrArg some (by kernel_rfl))
  f30 := Tryz.func177.trans (congrArg some (by kernel_rfl))
  f31 := Tryz.func178.trans (congrArg some (by kernel_rfl))
  f32 := Tryz.func179.trans (congrArg some (by kernel_rfl))
  f33 := Tryz.func180.trans (congrArg some (by kernel_rfl))
  f34 := Tryz.func204.trans (congrArg some (by kernel_rfl))
  f35 := Tryz.func167.trans (congrArg some (by kernel_rfl))
  f36 := Tryz.func205.trans (congrArg some (by kernel_rfl))
  f37 := Tryz.func206.trans (congrArg some (by kernel_rfl))
  f38 := Tryz.func207.trans (congrArg some (by kernel_rfl))
  f39 := Tryz.func221.trans (congrArg some (by kernel_rfl))
  f40 := Tryz.func222.trans (congrArg some (by kernel_rfl))
  t0 := Tryz.underlying0
  a0 := Tryz.isAgg0
  z0 := Tryz.sizeOf0
  v0 := Tryz.zeroValue0
  i0 := by kernel_rfl
  t2 := Tryz.underlying2
  a2 := Tryz.isAgg2
  z2 := Tryz.sizeOf2
  v2 := Tryz.zeroValue2
  i2 := by kernel_rfl
  t3 := Tryz.underlying3
  a3 := Tryz.isAgg3
  z3 := Tryz.sizeOf3
  v3 := Tryz.zeroValue3
  i3 := by kernel_rfl
  t4 := Tryz.underlying4
  a4 := Tryz.isAgg4
  z4 := Tryz.sizeOf4
  v4 := Tryz.zeroValue4
  i4 := by kernel_rfl
  t5 := Tryz.underlying5
  a5 := Tryz.isAgg5
  z5 := Tryz.sizeOf5
  v5 := Tryz.zeroValue5
  i5 := by kernel_rfl
  t9 := Tryz.underlying9
  a9 := Tryz.isAgg9
  z9 := Tryz.sizeOf9
  v9 := Tryz.zeroValue9
  i9 := by kernel_rfl
  t20 := Tryz.underlying20
  a20 := Tryz.isAgg20
  z20 := Tryz.sizeOf20
  v20 := Tryz.zeroValue20
  i20 := by kernel_rfl
  t21 := Tryz.underlying21
  a21 := Tryz.isAgg21
  z21 := Tryz.sizeOf21
  v21 := Tryz.zeroValue21
  i21 := by kernel_rfl
  t22 := Tryz.underlying181
  a22 := Tryz.isAgg181
  z22 := Tryz.sizeOf181
  v22 := Tryz.zeroValue181
  i22 := by kernel_rfl
  t24 := Tryz.underlying97
  a24 := Tryz.isAgg97
  z24 := Tryz.sizeOf97
  v24 := Tryz.zeroValue97
  i24 := by kernel_rfl
  t25 := Tryz.underlying203
  a25 := Tryz.isAgg203
  z25 := Tryz.sizeOf203
  v25 := Tryz.zeroValue203
  i25 := by kernel_rfl
  t34 := Tryz.underlying228
  a34 := Tryz.isAgg228
  z34 := Tryz.sizeOf228
  v34 := Tryz.zeroValue228
  i34 := by kernel_rfl
  c34 := by kernel_rfl
  t36 := Tryz.underlying150
  a36 := Tryz.isAgg150
  z36 := Tryz.sizeOf150
  v36 := Tryz.zeroValue150
  i36 := by kernel_rfl
  t37 := Tryz.underlying82
  a37 := Tryz.isAgg82
  z37 := Tryz.sizeOf82
  v37 := Tryz.zeroValue82
  i37 := by kernel_rfl
  t39 := Tryz.underlying230
  a39 := Tryz.isAgg230
  z39 := Tryz.sizeOf230
  v39 := Tryz.zeroValue230
  i39 := by kernel_rfl
  t44 := Tryz.underlying236
  a44 := Tryz.isAgg236
  z44 := Tryz.sizeOf236
  v44 := Tryz.zeroValue236
  i44 := by kernel_rfl
  t47 := Tryz.underlying141
  a47 := Tryz.isAgg141
  z47 := Tryz.sizeOf141
  v47 := Tryz.zeroValue141
  i47 := by kernel_rfl
  t48 := Tryz.underlying238
  a48 := Tryz.isAgg238
  z48 := Tryz.sizeOf238
  v48 := Tryz.zeroValue238
  i48 := by kernel_rfl
  t50 := Tryz.underlying240
  a50 := Tryz.isAgg240
  z50 := Tryz.sizeOf240
  v50 := Tryz.zeroValue240
  i50 := by kernel_rfl
  t52 := Tryz.underlying187
  a52 := Tryz.isAgg187
  z52 := Tryz.sizeOf187
  v52 := Tryz.zeroValue187
  i52 := by kernel_rfl
  t55 := Tryz.underlying189
  a55 := Tryz.isAgg189
  z55 := Tryz.sizeOf189
  v55 := Tryz.zeroValue189
  i55 := by kernel_rfl
  t59 := Tryz.underlying209
  a59 := Tryz.isAgg209
  z59 := Tryz.sizeOf209
  v59 := Tryz.zeroValue209
  i59 := by kernel_rfl
  t60 := Tryz.underlying179
  a60 := Tryz.isAgg179
  z60 := Tryz.sizeOf179
  v60 := Tryz.zeroValue179
  i60 := by kernel_rfl
  t61 := Tryz.underlying210
  a61 := Tryz.isAgg210
  z61 := Tryz.sizeOf210
  t65 := Tryz.underlying233
  a65 := Tryz.isAgg233
  z65 := Tryz.sizeOf233
  v65 := Tryz.zeroValue233
  i65 := by kernel_rfl
  t66 := Tryz.underlying234
  a66 := Tryz.isAgg234
  z66 := Tryz.sizeOf234
  v66 := Tryz.zeroValue234
  i66 := by kernel_rfl
  t67 := Tryz.underlying102
  a67 := Tryz.isAgg102
  z67 := Tryz.sizeOf102
  v67 := Tryz.zeroValue102
  i67 := by kernel_rfl
  g0 := by kernel_rfl
  m0 := by kernel_rfl
  g1 := by kernel_rfl
  m1 := by kernel_rfl
  g2 := by kernel_rfl
  m2 := by kernel_rfl
  g3 := by kernel_rfl
  m3 := by kernel_rfl
  g4 := by kernel_rfl
  m4 := by kernel_rfl }
open Go.RowKit in
/-- strconv.ParseUint(s, 10, 16), AT EVERY STRING THAT SPELLS A uint16 ('Lib.parseUintB 16 s.data.toList = .ok u'): u, AND NO ERROR. (LAID: no walk: one application.) -/
theorem Tryz.strconv_ParseUint_10_at16_ok (s : ByteArray) (hmax : s.size ≤ 9223372036854775806) (u : Nat) (h : Lib.parseUintB 16 s.data.toList = .ok u) (w : World) :
    Calls Tryz.prog 201 #[.string s, .int .i64 10, .int .i64 16] w fun e w' => e = .returned (.tuple #[.int .u64 u, .nilIface]) ∧ (w' = w ∨ w' = Lib.bytesWorld w 5 s) := Any.strconv_ParseUint_10_at16_ok Tryz.laysPu14 s hmax u h w
open Go.RowKit in
/-- strconv.ParseUint(s, 10, 16), AT EVERY STRING THAT IS NO ROW OF DECIMAL DIGITS (a sign is a fault): 0, AND AN ERROR THAT IS NOT nil: a *NumError in a new block N: {Func: "ParseUint", Num: s's bytes, Err: what the variable ErrSyntax holds}. Of what was there nothing has turned. (LAID: no walk: one application.) -/
theorem Tryz.strconv_ParseUint_10_at16_syntax (s : ByteArray) (hlim : s.size ≤ 281474976710656) (h : Lib.parseUintB 16 s.data.toList = Lib.parseUintB 16 []) (ev : Value) (w : World) (hv : w.cell? ⟨6, 0, none⟩ = some ev) (hev : ev = .nilIface ∨ ∃ te pe, ev = .iface te pe) :
    Calls Tryz.prog 201 #[.string s, .int .i64 10, .int .i64 16] w fun e w' => ∃ N, e = .returned (.tuple #[.int .u64 0, .iface 230 (.pointer (some ⟨N, 0, none⟩))]) ∧ w.heap.size ≤ N ∧ w'.heap[N]? = some (.cells #[.string ⟨#[80, 97, 114, 115, 101, 85, 105, 110, 116]⟩, .string s, ev] 236 (0, 0)) ∧ Below w.heap.size w w' := Any.strconv_ParseUint_10_at16_syntax Tryz.laysPu14 s hlim h ev w hv hev
def Tryz.lays219_ren : Go.Shelf.Ren := ⟨fun | 219 => 190 | 217 => 209 | 225 => 210 | 224 => 211 | 267 => 212 | 266 => 223 | 314 => 224 | n => n, fun | 9 => 9 | 3 => 3 | 4 => 4 | 5 => 5 | 46 => 150 | 146 => 223 | 51 => 179 | n => n, fun | 1 => 1 | n => n⟩
theorem Tryz.lays219 : Go.Proofs.Lays.n219 Tryz.prog Tryz.lays219_ren := {
  mixed := by kernel_rfl
  f217 := Tryz.func209.trans (congrArg some (by kernel_rfl))
  f219 := Tryz.func190.trans (congrArg some (by kernel_rfl))
  f224 := Tryz.func211.trans (congrArg some (by kernel_rfl))
  f225 := Tryz.func210.trans (congrArg some (by kernel_rfl))
  f266 := Tryz.func223.trans (congrArg some (by kernel_rfl))
  f267 := Tryz.func212.trans (congrArg some (by kernel_rfl))
  f314 := Tryz.func224.trans (congrArg some (by kernel_rfl))
  t3 := Tryz.underlying3
  a3 := Tryz.isAgg3
  z3 := Tryz.sizeOf3
  v3 := Tryz.zeroValue3
  t4 := Tryz.underlying4
  a4 := Tryz.isAgg4
  z4 := Tryz.sizeOf4
  v4 := Tryz.zeroValue4
  t5 := Tryz.underlying5
  a5 := Tryz.isAgg5
  z5 := Tryz.sizeOf5
  v5 := Tryz.zeroValue5
  t9 := Tryz.underlying9
  a9 := Tryz.isAgg9
  z9 := Tryz.sizeOf9
  v9 := Tryz.zeroValue9
  t46 := Tryz.underlying150
  a46 := Tryz.isAgg150
  z46 := Tryz.sizeOf150
  v46 := Tryz.zeroValue150
  t51 := Tryz.underlying179
  a51 := Tryz.isAgg179
  z51 := Tryz.sizeOf179
  v51 := Tryz.zeroValue179
  t146 := Tryz.underlying223
  a146 := Tryz.isAgg223
  z146 := Tryz.sizeOf223
  v146 := Tryz.zeroValue223
  g1 := by kernel_rfl }
open Go.RowKit Go.Lib in
/-- internal/stringslite.Index (what strings.Index calls) AT A substr OF ONE BYTE c: IT RETURNS 'Lib.indexByte s c'; the world is as it was. (LAID: no walk: one application.) -/
theorem Tryz.stringslite_Index_one (s : ByteArray) (c : UInt8) (w : World) :
    Calls Tryz.prog 190 #[.string s, .string ⟨#[c]⟩] w fun e w' => e = .returned (.int .i64 (Lib.indexByte s.data.toList c)) ∧ w' = w := Any.stringslite_Index_one Tryz.lays219 s c w
open Go.RowKit Go.Lib in
def Tryz.lays145_ren : Go.Shelf.Ren := ⟨fun | 145 => 108 | 220 => 153 | 219 => 190 | 217 => 209 | 225 => 210 | 224 => 211 | 267 => 212 | 266 => 223 | 314 => 224 | n => n, fun | 9 => 9 | 4 => 4 | 59 => 143 | 3 => 3 | 5 => 5 | 46 => 150 | 146 => 223 | 51 => 179 | n => n, fun | 1 => 1 | n => n⟩
theorem Tryz.lays145 : Go.Proofs.Lays.n145 Tryz.prog Tryz.lays145_ren := {
  mixed := by kernel_rfl
  f145 := Tryz.func108.trans (congrArg some (by kernel_rfl))
  f217 := Tryz.func209.trans (congrArg some (by kernel_rfl))
  f219 := Tryz.func190.trans (congrArg some (by kernel_rfl))
  f220 := Tryz.func153.trans (congrArg some (by kernel_rfl))
  f224 := Tryz.func211.trans (congrArg some (by kernel_rfl))
  f225 := Tryz.func210.trans (congrArg some (by kernel_rfl))
  f266 := Tryz.func223.trans (congrArg some (by kernel_rfl))
  f267 := Tryz.func212.trans (congrArg some (by kernel_rfl))
  f314 := Tryz.func224.trans (congrArg some (by kernel_rfl))
  t3 := Tryz.underlying3
  a3 := Tryz.isAgg3
  z3 := Tryz.sizeOf3
  v3 := Tryz.zeroValue3
  t4 := Tryz.underlying4
  a4 := Tryz.isAgg4
  z4 := Tryz.sizeOf4
  v4 := Tryz.zeroValue4
  t5 := Tryz.underlying5
  a5 := Tryz.isAgg5
  z5 := Tryz.sizeOf5
  v5 := Tryz.zeroValue5
  t9 := Tryz.underlying9
  a9 := Tryz.isAgg9
  z9 := Tryz.sizeOf9
  v9 := Tryz.zeroValue9
  t46 := Tryz.underlying150
  a46 := Tryz.isAgg150
  z46 := Tryz.sizeOf150
  v46 := Tryz.zeroValue150
  t51 := Tryz.underlying179
  a51 := Tryz.isAgg179
  z51 := Tryz.sizeOf179
  v51 := Tryz.zeroValue179
  t59 := Tryz.underlying143
  a59 := Tryz.isAgg143
  z59 := Tryz.sizeOf143
  v59 := Tryz.zeroValue143
  t146 := Tryz.underlying223
  a146 := Tryz.isAgg223
  z146 := Tryz.sizeOf223
  v146 := Tryz.zeroValue223
  g1 := by kernel_rfl }
open Go.RowKit Go.Lib in
/-- strings.Cut: "Cut slices s around the first instance of sep, returning the text before and after sep. The found result reports whether sep appears in s. If sep does not appear in s, cut returns s, "", false.": IT RETURNS 'Lib.cut s sep'; the world is as it was but for the count of draws. (LAID: no walk: one application.) -/
theorem Tryz.strings_Cut (s sep : ByteArray) (m : Int) (w : World) (hs : s.size < 4294967281) (hm : w.cell? ⟨1, 0, none⟩ = some (.int .i64 m)) :
    Calls Tryz.prog 108 #[.string s, .string sep] w fun e w' => e = .returned (.tuple #[.string ⟨(Lib.cut s.data.toList sep.data.toList).1.toArray⟩, .string ⟨(Lib.cut s.data.toList sep.data.toList).2.1.toArray⟩, .bool (Lib.cut s.data.toList sep.data.toList).2.2]) ∧ ∃ n, w' = w.drewN n := Any.strings_Cut Tryz.lays145 s sep m w hs hm
def Tryz.lays207_ren : Go.Shelf.Ren := ⟨fun | 207 => 142 | n => n, fun | 9 => 9 | 4 => 4 | 3 => 3 | n => n, fun | n => n⟩
theorem Tryz.lays207 : Go.Proofs.Lays.n207 Tryz.prog Tryz.lays207_ren := {
  mixed := by kernel_rfl
  f207 := Tryz.func142.trans (congrArg some (by kernel_rfl))
  t3 := Tryz.underlying3
  a3 := Tryz.isAgg3
  z3 := Tryz.sizeOf3
  v3 := Tryz.zeroValue3
  t4 := Tryz.underlying4
  a4 := Tryz.isAgg4
  z4 := Tryz.sizeOf4
  v4 := Tryz.zeroValue4
  t9 := Tryz.underlying9
  a9 := Tryz.isAgg9
  z9 := Tryz.sizeOf9
  v9 := Tryz.zeroValue9 }
open Go.RowKit Go.Lib in
/-- internal/stringslite.HasSuffix (what strings.HasSuffix calls). (LAID: no walk: one application.) -/
theorem Tryz.stringslite_HasSuffix (s p : ByteArray) (w : World) (hs : s.size ≤ 9223372036854775807) :
    Calls Tryz.prog 142 #[.string s, .string p] w fun e w' => e = .returned (.bool (Lib.hasSuffix s.data.toList p.data.toList)) ∧ w' = w := Any.stringslite_HasSuffix Tryz.lays207 s p w hs
def Tryz.lays105_ren : Go.Shelf.Ren := ⟨fun | 105 => 176 | 212 => 202 | 99 => 50 | 165 => 106 | 166 => 56 | 170 => 203 | 169 => 60 | 263 => 219 | 264 => 220 | 206 => 95 | 240 => 105 | 241 => 152 | 276 => 151 | 277 => 194 | n => n, fun | 9 => 9 | 3 => 3 | 4 => 4 | 20 => 20 | 0 => 0 | 46 => 150 | 109 => 205 | 5 => 5 | 72 => 95 | 76 => 98 | 51 => 179 | 146 => 223 | 53 => 181 | 148 => 225 | 70 => 93 | 37 => 82 | 75 => 97 | 127 => 141 | 164 => 167 | 80 => 102 | n => n, fun | n => n⟩
theorem Tryz.lays105 : Go.Proofs.Lays.n105 Tryz.prog Tryz.lays105_ren := {
  mixed := by kernel_rfl
  f99 := Tryz.func50.trans (congrArg some (by kernel_rfl))
  f105 := Tryz.func176.trans (congrArg some (by kernel_rfl))
  f165 := Tryz.func106.trans (congrArg some (by kernel_rfl))
  f166 := Tryz.func56.trans (congrArg some (by kernel_rfl))
  f169 := Tryz.func60.trans (congrArg some (by kernel_rfl))
  f170 := Tryz.func203.trans (congrArg some (by kernel_rfl))
  f206 := Tryz.func95.trans (congrArg some (by kernel_rfl))
  f212 := Tryz.func202.trans (congrArg some (by kernel_rfl))
  f240 := Tryz.func105.trans (congrArg some (by kernel_rfl))
  f241 := Tryz.func152.trans (congrArg some (by kernel_rfl))
  f263 := Tryz.func219.trans (congrArg some (by kernel_rfl))
  f264 := Tryz.func220.trans (congrArg some (by kernel_rfl))
  f276 := Tryz.func151.trans (congrArg some (by kernel_rfl))
  f277 := Tryz.func194.trans (congrArg some (by kernel_rfl))
  t0 := Tryz.underlying0
  a0 := Tryz.isAgg0
  z0 := Tryz.sizeOf0
  v0 := Tryz.zeroValue0
  t3 := Tryz.underlying3
  a3 := Tryz.isAgg3
  z3 := Tryz.sizeOf3
  v3 := Tryz.zeroValue3
  t4 := Tryz.underlying4
  a4 := Tryz.isAgg4
  z4 := Tryz.sizeOf4
  v4 := Tryz.zeroValue4
  t5 := Tryz.underlying5
  a5 := Tryz.isAgg5
  z5 := Tryz.sizeOf5
  v5 := Tryz.zeroValue5
  t9 := Tryz.underlying9
  a9 := Tryz.isAgg9
  z9 := Tryz.sizeOf9
  v9 := Tryz.zeroValue9
  t20 := Tryz.underlying20
  a20 := Tryz.isAgg20
  z20 := Tryz.sizeOf20
  v20 := Tryz.zeroValue20
  t37 := Tryz.underlying82
  a37 := Tryz.isAgg82
  z37 := Tryz.sizeOf82
  v37 := Tryz.zeroValue82
  t46 := Tryz.underlying150
  a46 := Tryz.isAgg150
  z46 := Tryz.sizeOf150
  v46 := Tryz.zeroValue150
  t51 := Tryz.underlying179
  a51 := Tryz.isAgg179
  z51 := Tryz.sizeOf179
  v51 := Tryz.zeroValue179
  t53 := Tryz.underlying181
  a53 := Tryz.isAgg181
  z53 := Tryz.sizeOf181
  v53 := Tryz.zeroValue181
  t70 := Tryz.underlying93
  a70 := Tryz.isAgg93
  z70 := Tryz.sizeOf93
  v70 := Tryz.zeroValue93
  t72 := Tryz.underlying95
  a72 := Tryz.isAgg95
  z72 := Tryz.sizeOf95
  v72 := Tryz.zeroValue95
  t75 := Tryz.underlying97
  a75 := Tryz.isAgg97
  z75 := Tryz.sizeOf97
  v75 := Tryz.zeroValue97
  t76 := Tryz.underlying98
  a76 := Tryz.isAgg98
  z76 := Tryz.sizeOf98
  v76 := Tryz.zeroValue98
  t109 := Tryz.underlying205
  a109 := Tryz.isAgg205
  z109 := Tryz.sizeOf205
  v109 := Tryz.zeroValue205
  t127 := Tryz.underlying141
  a127 := Tryz.isAgg141
  z127 := Tryz.sizeOf141
  v127 := Tryz.zeroValue141
  t146 := Tryz.underlying223
  a146 := Tryz.isAgg223
  z146 := Tryz.sizeOf223
  v146 := Tryz.zeroValue223
  t148 := Tryz.underlying225
  a148 := Tryz.isAgg225
  z148 := Tryz.sizeOf225
  v148 := Tryz.zeroValue225
  t164 := Tryz.underlying167
  a164 := Tryz.isAgg167
  z164 := Tryz.sizeOf167
  v164 := Tryz.zeroValue167 }
theorem Tryz.Builder_Extra_105 : Builder.Extra Tryz.prog Tryz.lays105_ren := {
  sizeBuilder := by kernel_rfl
  liesBuilder := by kernel_rfl
  t5 := Tryz.underlying5
  a5 := Tryz.isAgg5
  z5 := Tryz.sizeOf5
  v5 := Tryz.zeroValue5
  infoByte := by kernel_rfl
  cellsByte := by kernel_rfl
  sizeByte := by kernel_rfl
  neB5 := by decide }
open Go.RowKit Go.Lib in
/-- **strings.Repeat: count ≥ 0, the result within one allocation: count copies of s.** (LAID: no walk: one application.) -/
theorem Tryz.strings_Repeat (s : ByteArray) (c : Nat) (w : World) (hc : c ≤ 9223372036854775807) (hlen : s.size * c ≤ 140737488355328) :
    Calls Tryz.prog 176 #[.string s, .int .i64 c] w fun e w' => e = .returned (.string ⟨(Lib.repeatL s.data.toList c).toArray⟩) ∧ Below w.heap.size w w' := Any.strings_Repeat Tryz.lays105 Tryz.Builder_Extra_105 s c w hc hlen
end Go.Proofs
/-
  Texts of numbers: pad of package moment, digitsOf of the reference, and the digits that both write.
-/
namespace Go.Proofs.YtaghilgfldaaiaaGreatDoor
namespace At
open Go.RowKit Lw Ap

theorem gPow : Tryz.prog.globalNamed "internal/strconv.uint64pow10" = some 0 := by kernel_rfl
/-- The library's table of powers of ten holds what its initialiser lays. -/
def Tab (w : World) : Prop := Lib.TabIs Tryz.prog w "internal/strconv.uint64pow10" .u64 Lib.pow10Tab
theorem Tab.below {w w' : World} (h : Tab w) (hb : Below w.heap.size w w') : Tab w' := Joins.tab_stays gPow h hb (Nat.le_refl _)

/-- A number with at least so many digits. -/
def padL (n : Int) (d : Nat) : List UInt8 := Lib.repeatL [48] (d - (Lib.itoa n).length) ++ Lib.itoa n
theorem below_grow (w : World) (k : Nat) (os : Array Obj) : Below w.heap.size w (Go.Sort.grow (w.drewN k) os) :=
  ⟨rfl, rfl, rfl, by simp [Go.Sort.grow, World.drewN], fun j hj => by
    show (w.heap ++ os)[j]? = w.heap[j]?
    rw [Array.getElem?_append_left hj]⟩
theorem rep_len (k : Nat) : (Lib.repeatL [48] k).length = k := by
  induction k with
  | zero => rfl
  | succ k ih => simp_all [Lib.repeatL]
theorem str_app (a b : List UInt8) : ((⟨a.toArray⟩ : ByteArray) ++ ⟨b.toArray⟩) = ⟨(a ++ b).toArray⟩ := by
  apply ByteArray.ext
  simp [ByteArray.data_append]

set_option maxRecDepth 100000 in
theorem pad_any (n : Int) (d : Nat) (w : World) (hT : Tab w) (h0 : 0 ≤ n) (h1 : n ≤ 1000000000000000000) (hd : d ≤ 20) :
    Calls Tryz.prog 123 #[.int .i64 n, .int .i64 d] w fun e w' => e = .returned (.string ⟨(padL n d).toArray⟩) ∧ Below w.heap.size w w' := by
  have hl := Lib.itoa_length_le n (by omega) (by omega)
  have F := Lib.hid (Tryz.strconv_FormatInt_10 n (by omega) (by omega) w hT)
  have hp : padL n d = Lib.repeatL [48] (d - (Lib.itoa n).length) ++ Lib.itoa n := rfl
  have hp := Lib.hid hp
  have sz : (⟨(Lib.itoa n).toArray⟩ : ByteArray).size = (Lib.itoa n).length := by simp [ByteArray.size]
  generalize Lib.itoa n = L at *
  go_enter Tryz.func123, Tryz.ntmps123
  go_wp2_with fail
  go_at_call 71
  refine F.out.mono ?_
  rintro e w1 ⟨rfl, k, os, hw⟩
  have hB1 : Below w.heap.size w w1 := by rw [hw]; exact below_grow w k os
  clear F hw hT
  have em : max (0 : Int) (↑d - ↑L.length) = ((d - L.length : Nat) : Int) := by omega
  have R := Lib.hid (Tryz.strings_Repeat ⟨#[48]⟩ (d - L.length) w1 (by omega) (by show 1 * _ ≤ _; omega))
  have rl := rep_len (d - L.length)
  have ls : (⟨#[48]⟩ : ByteArray).data.toList = [48] := rfl
  rw [ls] at R
  go_wp2_with fail
  go_at_call 176
  refine R.out.mono ?_
  rintro e w2 ⟨rfl, hB2⟩
  have hB := below_then hB1 hB2
  have sa := str_app (Lib.repeatL [48] (d - L.length)) L
  generalize Lib.repeatL [48] (d - L.length) = Q at *
  clear R em ls hB1 hB2
  go_wp2_with fail
  go_ret
  exact ⟨by rw [hp.out]; rfl, hB⟩
theorem u8_of (n : Nat) (h : n < 10) : (((UInt8.ofNat (48 + n)).toNat : Nat) : Int) = 48 + n := by
  rw [UInt8.toNat_ofNat']
  omega
theorem dd_num (u : Nat) : numL (Lib.decDigits u) = u ∧ allD (Lib.decDigits u) := by
  induction u using Nat.strongRecOn with
  | _ u ih =>
    by_cases h : u < 10
    · rw [Lib.decDigits_one h]
      have e := u8_of u h
      refine ⟨by unfold numL; simp only [List.foldl_cons, List.foldl_nil]; omega, fun c hc => ?_⟩
      rw [List.mem_singleton.1 hc]
      omega
    · rw [Lib.decDigits, dif_neg h]
      obtain ⟨h1, h2⟩ := ih (u / 10) (by omega)
      have e := u8_of (u % 10) (Nat.mod_lt _ (by omega))
      exact ⟨by rw [numL_snoc, h1]; omega, allD_snoc h2 (by omega) (by omega)⟩
theorem itoa_num (r : Nat) : numL (Lib.itoa (r : Int)) = r ∧ allD (Lib.itoa (r : Int)) := by
  unfold Lib.itoa
  rw [if_neg (by omega), Int.toNat_natCast]
  exact dd_num r
theorem rep_num (k : Nat) : numL (Lib.repeatL [48] k) = 0 ∧ allD (Lib.repeatL [48] k) := by
  induction k with
  | zero => exact ⟨rfl, fun c hc => by simp [Lib.repeatL] at hc⟩
  | succ k ih =>
    have e : Lib.repeatL [48] (k + 1) = 48 :: Lib.repeatL [48] k := rfl
    rw [e]
    refine ⟨?_, fun c hc => ?_⟩
    · have := ih.1
      unfold numL at this ⊢
      rw [List.foldl_cons]
      exact this
    · rcases List.mem_cons.1 hc with rfl | g
      · decide
      · exact ih.2 c g
theorem pad_num (r d : Nat) : numV (padL (r : Int) d) = r := by
  have h1 := itoa_num r
  have h2 := rep_num (d - (Lib.itoa (r : Int)).length)
  have hA : allD (padL (r : Int) d) := fun c hc => by
    rcases List.mem_append.1 hc with g | g
    · exact h2.2 c g
    · exact h1.2 c g
  unfold numV
  rw [if_pos hA]
  unfold padL numL
  rw [List.foldl_append]
  have e2 := h2.1
  have e1 := h1.1
  unfold numL at e1 e2
  rw [e2, e1]
theorem nd_le : ∀ (d r : Nat), r < 10 ^ (d + 1) → Lib.nDigits r ≤ d + 1
  | 0, r, h => by rw [Lib.nDigits_small (by simpa using h)]; exact Nat.le_refl _
  | d + 1, r, h => by
    by_cases g : r < 10
    · rw [Lib.nDigits_small g]; omega
    · rw [Lib.nDigits_big g]
      have := nd_le d (r / 10) (by rw [Nat.pow_succ] at h; omega)
      omega
theorem pad_size (r d : Nat) (hd : 1 ≤ d) (h : r < 10 ^ d) : (padL (r : Int) d).length = d := by
  obtain ⟨k, rfl⟩ : ∃ k, d = k + 1 := ⟨d - 1, by omega⟩
  have h1 := nd_le k r h
  have hl : (Lib.itoa (r : Int)).length = Lib.nDigits r := by
    unfold Lib.itoa
    rw [if_neg (by omega), Int.toNat_natCast, Lib.decDigits_length]
  unfold padL
  rw [List.length_append, rep_len, hl]
  omega
/-- The digit of a number below ten. -/
def dg (m : Nat) : UInt8 := UInt8.ofNat (48 + m)
theorem dg_of (n : Nat) (h : n < 10) : (((dg n).toNat : Nat) : Int) = 48 + n := u8_of n h
/-- The last digits of a number. -/
def decL : Nat → Nat → List UInt8
  | _, 0 => []
  | n, k + 1 => decL (n / 10) k ++ [dg (n % 10)]
theorem decL_len : ∀ k n, (decL n k).length = k
  | 0, _ => rfl
  | k + 1, n => by rw [decL, List.length_append, decL_len k]; rfl
theorem decL_num : ∀ k n, numL (decL n k) = ((n % 10 ^ k : Nat) : Int) ∧ allD (decL n k)
  | 0, n => ⟨by simp [decL, numL, Nat.mod_one], fun c hc => by simp [decL] at hc⟩
  | k + 1, n => by
    obtain ⟨h1, h2⟩ := decL_num k (n / 10)
    have e := dg_of (n % 10) (Nat.mod_lt _ (by omega))
    refine ⟨?_, allD_snoc h2 (by omega) (by omega)⟩
    rw [decL, numL_snoc, h1, Nat.pow_succ, Nat.mul_comm (10 ^ k) 10, Nat.mod_mul]
    omega
theorem dec_cons : ∀ k n, decL n (k + 1) = dg (n / 10 ^ k % 10) :: decL n k
  | 0, n => by simp [decL]
  | k + 1, n => by
    have ih := dec_cons k (n / 10)
    rw [decL, ih, decL, List.cons_append, Nat.div_div_eq_div_mul, Nat.pow_succ, Nat.mul_comm (10 ^ k) 10]
theorem num_inj : ∀ (k : Nat) (a b : List UInt8), a.length = k → b.length = k → allD a → allD b → numL a = numL b → a = b
  | 0, a, b, ha, hb, _, _, _ => by rw [List.length_eq_zero_iff.1 ha, List.length_eq_zero_iff.1 hb]
  | k + 1, a, b, ha, hb, da, db, hn => by
    obtain ⟨a', x, rfl⟩ : ∃ a' x, a = a' ++ [x] := ⟨a.dropLast, a.getLast (by intro h; rw [h] at ha; simp at ha), (List.dropLast_concat_getLast _).symm⟩
    obtain ⟨b', y, rfl⟩ : ∃ b' y, b = b' ++ [y] := ⟨b.dropLast, b.getLast (by intro h; rw [h] at hb; simp at hb), (List.dropLast_concat_getLast _).symm⟩
    rw [numL_snoc, numL_snoc] at hn
    have hx := da x (List.mem_append_right _ (List.mem_singleton.2 rfl))
    have hy := db y (List.mem_append_right _ (List.mem_singleton.2 rfl))
    have e : numL a' = numL b' := by omega
    have e2 : x = y := by
      apply UInt8.toNat_inj.1
      omega
    rw [num_inj k a' b' (by simpa using ha) (by simpa using hb) (fun c hc => da c (List.mem_append_left _ hc)) (fun c hc => db c (List.mem_append_left _ hc)) e, e2]
theorem pad_all (r d : Nat) : allD (padL (r : Int) d) := fun c hc => by
  rcases List.mem_append.1 hc with g | g
  · exact (rep_num (d - (Lib.itoa (r : Int)).length)).2 c g
  · exact (itoa_num r).2 c g
theorem pad_dec (r d : Nat) (hd : 1 ≤ d) (h : r < 10 ^ d) : padL (r : Int) d = decL r d := by
  obtain ⟨h1, h2⟩ := decL_num d r
  refine num_inj d _ _ (pad_size r d hd h) (decL_len d r) (pad_all r d) h2 ?_
  have := pad_num r d
  unfold numV at this
  rw [if_pos (pad_all r d)] at this
  rw [this, h1, Nat.mod_eq_of_lt h]
/-- pad writes the digits of a number that has not too many of them. -/
theorem padd_any (r d : Nat) (w : World) (hT : Tab w) (hd : 1 ≤ d) (hd2 : d ≤ 18) (h : r < 10 ^ d) :
    Calls Tryz.prog 123 #[.int .i64 r, .int .i64 d] w fun e w' => e = .returned (.string ⟨(decL r d).toArray⟩) ∧ Below w.heap.size w w' := by
  have hr : r ≤ 1000000000000000000 := by
    have h9 : ∀ d : Nat, d ≤ 18 → 10 ^ d ≤ 1000000000000000000 := by decide
    have := h9 d hd2
    omega
  rw [← pad_dec r d hd h]
  exact pad_any r d w hT (by omega) (by omega) (by omega)
theorem dig_ext : ∀ m, m < 10 → (⟨#[48, 49, 50, 51, 52, 53, 54, 55, 56, 57]⟩ : ByteArray).extract m (m + 1) = ⟨#[dg m]⟩ := by decide
theorem str_cons (c : UInt8) (l : List UInt8) : ((⟨#[c]⟩ : ByteArray) ++ ⟨l.toArray⟩) = ⟨(c :: l).toArray⟩ := str_app [c] l
set_option maxRecDepth 100000 in
set_option maxHeartbeats 2000000 in
theorem rdigs_any (n k : Nat) (w : World) (hn : n ≤ 1000000000000000000) (hk : k ≤ 20) :
    Calls Tryz.prog 88 #[.int .i64 n, .int .i64 k] w fun e w' => e = .returned (.string ⟨(decL n k).toArray⟩) ∧ w = w' := by
  go_enter Tryz.func88, Tryz.ntmps88
  go_wp2
  go_loop [0, 6, 7] (fun v s i => ∃ j u : Nat, ∃ S : ByteArray, j ≤ k ∧ i = .int .i64 j ∧ s = .string S ∧ v = .int .i64 u ∧ u ≤ 1000000000000000000 ∧ Hid (u = n / 10 ^ j ∧ S = ⟨(decL n j).toArray⟩) ∧ S.size ≤ 20) (fun _ _ i => k - (intOf i).toNat)
  case atStart => exact ⟨0, n, ⟨#[]⟩, Nat.zero_le _, rfl, rfl, rfl, hn, Lib.hid ⟨by simp, rfl⟩, by decide⟩
  case round =>
    obtain ⟨j, u, S, hj, rfl, rfl, rfl, hu, D, hS⟩ := hrel
    by_cases hlt : j < k
    · obtain ⟨m, hm⟩ : ∃ m, m = u % 10 := ⟨_, rfl⟩
      obtain ⟨u', hu'⟩ : ∃ u', u' = u / 10 := ⟨_, rfl⟩
      have r1 : (u : Int) % 10 = (m : Int) := by omega
      have r2 : (u : Int) / 10 = (u' : Int) := by omega
      have m0 : m < 10 := by omega
      have de := dig_ext m m0
      have D2 := Lib.hid (show u' = n / 10 ^ (j + 1) ∧ (⟨#[dg m]⟩ ++ S : ByteArray) = ⟨(decL n (j + 1)).toArray⟩ from ⟨by rw [hu', D.out.1, Nat.div_div_eq_div_mul, Nat.pow_succ], by rw [D.out.2, str_cons, dec_cons, hm, D.out.1]⟩)
      have sz : (⟨#[dg m]⟩ ++ S : ByteArray).size ≤ 20 := by
        rw [D2.out.2]
        have : (⟨(decL n (j + 1)).toArray⟩ : ByteArray).size = (decL n (j + 1)).length := by simp [ByteArray.size]
        rw [this, decL_len]; omega
      have u0 : u' ≤ 1000000000000000000 := by omega
      have i1 : (m : Int) ≤ 9 := by omega
      have i0 : 0 ≤ (m : Int) := by omega
      clear hm hu' m0
      go_wp2
      go_round
      case rel => exact ⟨j + 1, u', _, by omega, by go_num, rfl, rfl, u0, D2, sz⟩
      case measure => simp [intOf]; omega
    · obtain rfl : j = k := by omega
      have E := Lib.hid D.out.2
      go_wp2
      go_ret
      exact ⟨by rw [E.out]; rfl, rfl⟩
end At
end Go.Proofs.YtaghilgfldaaiaaGreatDoor
/-
  Texts that follow a pattern: like of the reference.
-/
namespace Go.Proofs.YtaghilgfldaaiaaGreatDoor
namespace Ap
open Go.RowKit Lw

abbrev bt (s : ByteArray) (k : Nat) : Int := ((s.get! k).toNat : Int)
/-- A byte that follows a pattern: a digit where the pattern has one, and the pattern's byte elsewhere. -/
def okAt (s p : ByteArray) (k : Nat) : Prop := (bt p k = 48 → 48 ≤ bt s k ∧ bt s k ≤ 57) ∧ (¬ bt p k = 48 → bt s k = bt p k)
instance (s p : ByteArray) (k : Nat) : Decidable (okAt s p k) := by unfold okAt; infer_instance
def likeTo (s p : ByteArray) (n : Nat) : Prop := ∀ k, k < n → okAt s p k
instance (s p : ByteArray) (n : Nat) : Decidable (likeTo s p n) := by unfold likeTo; infer_instance
def likeP (s p : ByteArray) : Prop := s.size = p.size ∧ likeTo s p s.size
instance (s p : ByteArray) : Decidable (likeP s p) := by unfold likeP; infer_instance
theorem bt_of (s : ByteArray) (i : Nat) (h : i < s.size) : bt s i = (s[i].toNat : Int) := by simp [bt, ByteArray.get!, getElem!_pos, h]; rfl
theorem like_no {s p : ByteArray} {k : Nat} (hk : k < s.size) (h : ¬ okAt s p k) : decide (likeP s p) = false := decide_eq_false fun g => h (g.2 k hk)
theorem like_yes {s p : ByteArray} {k : Nat} (hn : s.size = p.size) (hk : ¬ k < s.size) (h : likeTo s p k) : decide (likeP s p) = true := decide_eq_true ⟨hn, fun j hj => h j (by omega)⟩
theorem likeTo_s {s p : ByteArray} {k : Nat} (h : likeTo s p k) (g : okAt s p k) : likeTo s p (k + 1) := fun j hj => by
  by_cases e : j = k
  · subst e; exact g
  · exact h j (by omega)
theorem ret_b {a b : Bool} (h : a = b) : Ending.returned (.bool a) = .returned (.bool b) := by rw [h]
end Ap
end Go.Proofs.YtaghilgfldaaiaaGreatDoor
/-
  Plain law of the numbers between separators, for any string and any pattern; no walk here.
-/
namespace Go.Proofs.YtaghilgfldaaiaaGreatDoor
namespace Ap
open Go.RowKit Lw

/-- Is the byte before one of a number? -/
def ins (p : ByteArray) : Nat → Bool
  | 0 => false
  | k + 1 => decide (bt p k = 48)
/-- The numbers of the first bytes. -/
def grpL (s p : ByteArray) : Nat → List Int
  | 0 => []
  | k + 1 => if bt p k = 48 then (if ins p k = true then (grpL s p k).dropLast ++ [10 * (grpL s p k).getLastD 0 + (bt s k - 48)] else grpL s p k ++ [bt s k - 48]) else grpL s p k
def runAt (p : ByteArray) : Nat → Nat
  | 0 => 0
  | k + 1 => if bt p k = 48 then runAt p k + 1 else 0
theorem grp_skip {s p : ByteArray} {k : Nat} (h : ¬ bt p k = 48) : grpL s p (k + 1) = grpL s p k := by simp only [grpL]; rw [if_neg h]
theorem grp_new {s p : ByteArray} {k : Nat} (h : bt p k = 48) (g : ins p k = false) : grpL s p (k + 1) = grpL s p k ++ [bt s k - 48] := by
  simp only [grpL]; rw [if_pos h, g]; simp
theorem grp_on {s p : ByteArray} {k : Nat} {X : List Int} {v : Int} (h : bt p k = 48) (g : ins p k = true) (e : grpL s p k = X ++ [v]) : grpL s p (k + 1) = X ++ [10 * v + (bt s k - 48)] := by
  simp only [grpL]; rw [if_pos h, if_pos g, e]; simp
theorem grp_len (s p : ByteArray) : ∀ k, (grpL s p k).length ≤ k
  | 0 => by simp [grpL]
  | k + 1 => by
    have ih := grp_len s p k
    simp only [grpL]
    split
    · split
      · simp; omega
      · simp; omega
    · omega
theorem grp_last (s p : ByteArray) : ∀ k, likeTo s p k → ins p k = true → ∃ X v, grpL s p k = X ++ [v] ∧ 0 ≤ v ∧ v < 10 ^ runAt p k ∧ 1 ≤ runAt p k
  | 0, _, h => by cases h
  | k + 1, hl, h => by
    have hb : bt p k = 48 := of_decide_eq_true h
    have hd := (hl k (by omega)).1 hb
    have hr : runAt p (k + 1) = runAt p k + 1 := by simp only [runAt]; rw [if_pos hb]
    cases g : ins p k with
    | false =>
      refine ⟨_, _, grp_new hb g, by omega, ?_, by omega⟩
      have : (1 : Int) ≤ 10 ^ runAt p k := Int.pow_pos (by omega)
      rw [hr, Int.pow_succ]
      omega
    | true =>
      obtain ⟨X, v, e, h0, h1, _⟩ := grp_last s p k (fun j hj => hl j (by omega)) g
      refine ⟨_, _, grp_on hb g e, by omega, ?_, by omega⟩
      rw [hr, Int.pow_succ]
      omega
theorem ext_snoc (s : ByteArray) (i n : Nat) (h : i + n < s.size) : (s.extract i (i + (n + 1))).data.toList = (s.extract i (i + n)).data.toList ++ [s[i + n]] := by
  have e : ∀ j, (s.extract i (i + j)).data.toList = (s.data.toList.drop i).take j := fun j => by
    simp [ByteArray.data_extract, Array.toList_extract]
  rw [e, e, List.take_succ_eq_append_getElem (by simp; omega)]
  simp
  rfl
/-- A number of the pattern is the number of its bytes. -/
theorem grp_run (s p : ByteArray) (i : Nat) (h0 : ins p i = false) : ∀ n, 1 ≤ n → i + n ≤ s.size → (∀ j, i ≤ j → j < i + n → bt p j = 48) → grpL s p (i + n) = grpL s p i ++ [numL (s.extract i (i + n)).data.toList]
  | 0, h, _, _ => absurd h (by omega)
  | 1, _, hs, hp => by
    rw [show i + 1 = i + (0 + 1) by omega, ext_snoc s i 0 (by omega), grp_new (by exact hp i (by omega) (by omega)) h0]
    have := bt_of s (i + 0) (by omega)
    simp [numL]
    simpa using this
  | n + 2, _, hs, hp => by
    have ih := grp_run s p i h0 (n + 1) (by omega) (by omega) fun j a b => hp j a (by omega)
    have hi : ins p (i + (n + 1)) = true := decide_eq_true (hp (i + n) (by omega) (by omega))
    have e := grp_on (hp (i + (n + 1)) (by omega) (by omega)) hi ih
    rw [show i + (n + 2) = i + (n + 1) + 1 by omega, e, show i + (n + 1) + 1 = i + (n + 1 + 1) by omega, ext_snoc s i (n + 1) (by omega), numL_snoc, ← bt_of s (i + (n + 1)) (by omega)]
end Ap
end Go.Proofs.YtaghilgfldaaiaaGreatDoor
/-
  Plain law of the texts of times: what a text says, for any string; no walk here.
-/
namespace Go.Proofs.YtaghilgfldaaiaaGreatDoor
namespace Ap
open Go.RowKit Lw Go.Proofs.YtaghilgfldaaiaaGreatDoor.Mp

/-- 0000-00-00T00:00:00 -/
def P19 : ByteArray := ⟨#[48, 48, 48, 48, 45, 48, 48, 45, 48, 48, 84, 48, 48, 58, 48, 48, 58, 48, 48]⟩
/-- 0000 00 00 -/
def P10 : ByteArray := ⟨#[48, 48, 48, 48, 32, 48, 48, 32, 48, 48]⟩
/-- 000000 -/
def P6 : ByteArray := ⟨#[48, 48, 48, 48, 48, 48]⟩
/-- The number of some bytes. -/
def nm (s : ByteArray) (i j : Nat) : Int := numV (s.extract i j).data.toList
def textP (s : ByteArray) : Prop := 20 ≤ s.size ∧ s.size ≠ 21 ∧ s.size ≤ 27 ∧ bt s (s.size - 1) = 90 ∧ likeP (s.extract 0 19) P19 ∧ (20 < s.size → bt s 19 = 46 ∧ 0 ≤ nm s 20 (s.size - 1))
def microV (s : ByteArray) : Int := if s.size = 20 then 0 else nm s 20 (s.size - 1) * tenI (27 - s.size)
def okText (s : ByteArray) : Prop := textP s ∧ fromOk (nm s 0 4) (nm s 5 7) (nm s 8 10) (nm s 11 13) (nm s 14 16) (nm s 17 19) (microV s)
def textV (s : ByteArray) : Int := timeOf (nm s 0 4) (nm s 5 7) (nm s 8 10) (nm s 11 13) (nm s 14 16) (nm s 17 19) (microV s)
/-- What Parse returns: the time, and the error. -/
def ParseIs (s : ByteArray) (t e : Int) : Prop := (okText s ∧ t = textV s ∧ e = 0) ∨ (¬ okText s ∧ t = 0 ∧ e = 12)
theorem ParseIs.uniq {s : ByteArray} {t e t' e' : Int} (a : ParseIs s t e) (b : ParseIs s t' e') : t = t' ∧ e = e' := by
  rcases a with ⟨a1, a2, a3⟩ | ⟨a1, a2, a3⟩ <;> rcases b with ⟨b1, b2, b3⟩ | ⟨b1, b2, b3⟩
  · exact ⟨by rw [a2, b2], by omega⟩
  · exact absurd a1 b1
  · exact absurd b1 a1
  · exact ⟨by omega, by omega⟩
def dayP (s : ByteArray) : Prop := 10 ≤ s.size ∧ s.size ≠ 11 ∧ s.size ≤ 20 ∧ likeP (s.extract 0 10) P10 ∧ (10 < s.size → bt s 10 = 46 ∧ 0 ≤ nm s 11 s.size)
def okDay (s : ByteArray) : Prop := dayP s ∧ fromOk (nm s 0 4) (nm s 5 7) (nm s 8 10) 0 0 0 0
/-- A quotient, rounded up. -/
def upI (a b : Int) : Int := a / b + (if 0 < a % b then 1 else 0)
def dayLen (y m d : Int) : Int := if d = mo y (m + 1) - mo y m ∧ lps (12 * y + m) = lps (12 * y + m - 1) + 1 then 86401000000 else 86400000000
def partV (s : ByteArray) : Int := if s.size = 10 then 0 else upI (nm s 11 s.size * dayLen (nm s 0 4) (nm s 5 7) (nm s 8 10)) (tenI (s.size - 11))
def dayV (s : ByteArray) : Int := timeOf (nm s 0 4) (nm s 5 7) (nm s 8 10) 0 0 0 0 + partV s
/-- What ParseDay returns: the time, and the error. -/
def PDayIs (s : ByteArray) (t e : Int) : Prop := (okDay s ∧ t = dayV s ∧ e = 0) ∨ (¬ okDay s ∧ t = 0 ∧ e = 12)
theorem PDayIs.uniq {s : ByteArray} {t e t' e' : Int} (a : PDayIs s t e) (b : PDayIs s t' e') : t = t' ∧ e = e' := by
  rcases a with ⟨a1, a2, a3⟩ | ⟨a1, a2, a3⟩ <;> rcases b with ⟨b1, b2, b3⟩ | ⟨b1, b2, b3⟩
  · exact ⟨by rw [a2, b2], by omega⟩
  · exact absurd a1 b1
  · exact absurd b1 a1
  · exact ⟨by omega, by omega⟩
/-! ### Head and tail -/
abbrev noPt (c : UInt8) : Bool := decide (¬ ((c.toNat : Nat) : Int) = 46)
/-- The place of the first point, or the end. -/
def ptL (l : List UInt8) : Nat := (l.takeWhile noPt).length
theorem ptL_le : ∀ l : List UInt8, ptL l ≤ l.length
  | [] => by simp [ptL]
  | c :: l => by
    have := ptL_le l
    unfold ptL at *
    rw [List.takeWhile_cons]
    split
    · simp; omega
    · simp
theorem ptL_lo : ∀ (l : List UInt8) (j : Nat) (h : j < ptL l) (g : j < l.length), ¬ ((l[j].toNat : Nat) : Int) = 46
  | [], _, _, g => absurd g (by simp)
  | c :: l, j, h, g => by
    unfold ptL at h
    rw [List.takeWhile_cons] at h
    cases hb : noPt c with
    | false => rw [hb] at h; simp at h
    | true =>
      rw [hb] at h
      cases j with
      | zero => exact of_decide_eq_true hb
      | succ j =>
        simp only [List.getElem_cons_succ]
        exact ptL_lo l j (by unfold ptL; simp at h; omega) (by simpa using g)
theorem ptL_at : ∀ (l : List UInt8) (h : ptL l < l.length), ((l[ptL l].toNat : Nat) : Int) = 46
  | [], h => absurd h (by simp)
  | c :: l, h => by
    cases hb : noPt c with
    | false =>
      have e : ptL (c :: l) = 0 := by unfold ptL; rw [List.takeWhile_cons, hb]; rfl
      have : ((c :: l)[ptL (c :: l)]) = c := by simp only [e]; rfl
      rw [this]
      have := of_decide_eq_false hb
      omega
    | true =>
      have e : ptL (c :: l) = ptL l + 1 := by unfold ptL; rw [List.takeWhile_cons, hb]; simp
      have := ptL_at l (by rw [e] at h; simpa using h)
      have e2 : ((c :: l)[ptL (c :: l)]) = l[ptL l]'(by rw [e] at h; simpa using h) := by simp only [e]; rfl
      rw [e2]; exact this
theorem ptL_uniq {l : List UInt8} {q : Nat} (h : q ≤ l.length) (h1 : ∀ j (g : j < l.length), j < q → ¬ ((l[j].toNat : Nat) : Int) = 46) (h2 : ∀ g : q < l.length, ((l[q].toNat : Nat) : Int) = 46) : ptL l = q := by
  have a := ptL_le l
  rcases Nat.lt_trichotomy (ptL l) q with c | c | c
  · exact absurd (ptL_at l (by omega)) (h1 _ (by omega) c)
  · exact c
  · exact absurd (h2 (by omega)) (ptL_lo l q c (by omega))
end Ap
end Go.Proofs.YtaghilgfldaaiaaGreatDoor
/-
  Head and tail of a string: strings.Cut at a point, strings.CutSuffix of a Z.
-/
namespace Go.Proofs.YtaghilgfldaaiaaGreatDoor
namespace Ap
open Go.RowKit Lw

theorem point_iff (c : UInt8) : (c == 46) = true ↔ ((c.toNat : Nat) : Int) = 46 := by
  have e : c = 46 ↔ c.toNat = (46 : UInt8).toNat := UInt8.toNat_inj.symm
  have h46 : (46 : UInt8).toNat = 46 := rfl
  rw [beq_iff_eq, e, h46]
  omega
theorem idx_pt : ∀ l : List UInt8, Lib.indexByte l 46 = if ptL l < l.length then ((ptL l : Nat) : Int) else -1
  | [] => rfl
  | b :: l => by
    have ih := idx_pt l
    unfold ptL at ih ⊢
    unfold Lib.indexByte
    by_cases h : (b == 46) = true
    · have hb : noPt b = false := decide_eq_false (not_not_intro ((point_iff b).1 h))
      rw [if_pos h, List.takeWhile_cons, hb]
      simp
    · have hb : noPt b = true := decide_eq_true fun g => h ((point_iff b).2 g)
      rw [if_neg h, List.takeWhile_cons, if_pos hb, ih]
      simp only [List.length_cons, beq_iff_eq]
      by_cases g : (l.takeWhile noPt).length < l.length
      · rw [if_pos g, if_neg (by omega), if_pos (by omega)]
        omega
      · rw [if_neg g, if_pos rfl, if_neg (by omega)]
/-- The place of the first point of a string. -/
def ptS (s : ByteArray) : Nat := ptL s.data.toList
def hdP (s : ByteArray) : ByteArray := s.extract 0 (ptS s)
def tlP (s : ByteArray) : ByteArray := if ptS s < s.size then s.extract (ptS s + 1) s.size else ⟨#[]⟩
theorem ptS_le (s : ByteArray) : ptS s ≤ s.size := by have := ptL_le s.data.toList; unfold ptS; simpa using this
theorem extract_all (s : ByteArray) : s.extract 0 s.size = s := by simp
set_option maxRecDepth 100000 in
set_option maxHeartbeats 1000000 in
theorem icut_any (s : ByteArray) (w : World) (hs : s.size ≤ maxLen) :
    Calls Tryz.prog 153 #[.string s, .string ⟨#[46]⟩] w fun e w' => e = .returned (.tuple #[.string (hdP s), .string (tlP s), .bool (decide (ptS s < s.size))]) ∧ Below w.heap.size w w' := by
  have IX := Tryz.stringslite_Index_one s 46 w
  have ix := idx_pt s.data.toList
  have hl : s.data.toList.length = s.size := by simp
  rw [hl] at ix
  replace ix : Lib.indexByte s.data.toList 46 = if ptS s < s.size then ((ptS s : Nat) : Int) else -1 := ix
  have le := ptS_le s
  have M : maxLen = 9223372036854775807 := rfl
  by_cases h : ptS s < s.size
  · have e : Lib.indexByte s.data.toList 46 = ((ptS s : Nat) : Int) := by rw [ix, if_pos h]
    rw [e] at IX
    have T := Lib.hid (show tlP s = s.extract (ptS s + 1) s.size from if_pos h)
    have H := Lib.hid (show hdP s = s.extract 0 (ptS s) from rfl)
    rw [decide_eq_true h]
    clear ix e
    generalize ptS s = q at *
    have i0 : 0 ≤ (q : Int) := by omega
    go_enter Tryz.func153, Tryz.ntmps153
    go_wp2_with fail
    refine IX.mono ?_
    rintro e w1 ⟨rfl, rfl⟩
    go_wp2_with fail
    go_quiet (fail)
    go_wp2_with fail
    go_ret3

    exact ⟨by rw [T.out, H.out]; rfl, drewN_below2 (Below.refl _ _) _⟩
  · have e : Lib.indexByte s.data.toList 46 = -1 := by rw [ix, if_neg h]
    rw [e] at IX
    have T := Lib.hid (show tlP s = ⟨#[]⟩ from if_neg h)
    have H := Lib.hid (show hdP s = s by unfold hdP; rw [show ptS s = s.size by omega]; exact extract_all s)
    rw [decide_eq_false h]
    clear ix e
    go_enter Tryz.func153, Tryz.ntmps153
    go_wp2_with fail
    refine IX.mono ?_
    rintro e w1 ⟨rfl, rfl⟩
    go_wp2_with fail
    go_ret3
    exact ⟨by rw [T.out, H.out]; rfl, Below.refl _ _⟩
theorem cut_any (s : ByteArray) (w : World) (hs : s.size ≤ maxLen) :
    Calls Tryz.prog 108 #[.string s, .string ⟨#[46]⟩] w fun e w' => e = .returned (.tuple #[.string (hdP s), .string (tlP s), .bool (decide (ptS s < s.size))]) ∧ Below w.heap.size w w' := by
  go_enter Tryz.func108, Tryz.ntmps108
  go_wp2_with fail
  refine (icut_any s w hs).mono ?_
  rintro e w1 ⟨rfl, hb⟩
  go_wp2_with fail
  go_ret3
  exact ⟨rfl, hb⟩
/-- Does a string end in a Z? -/
def zP (s : ByteArray) : Prop := 1 ≤ s.size ∧ bt s (s.size - 1) = 90
instance (s : ByteArray) : Decidable (zP s) := by unfold zP; infer_instance
def noZ (s : ByteArray) : ByteArray := if zP s then s.extract 0 (s.size - 1) else s
theorem suf_z (s : ByteArray) : Lib.hasSuffix s.data.toList [90] = decide (zP s) := by
  unfold Lib.hasSuffix
  rw [Bool.eq_iff_iff, decide_eq_true_iff, List.isSuffixOf_iff_suffix]
  constructor
  · rintro ⟨r, h⟩
    have hl := congrArg List.length h
    simp at hl
    refine ⟨by omega, ?_⟩
    rw [bt_of s _ (by omega)]
    have e : s[s.size - 1]'(by omega) = s.data.toList[s.size - 1]'(by simp; omega) := rfl
    rw [e]
    have : s.data.toList[s.size - 1]'(by simp; omega) = (r ++ [90])[s.size - 1]'(by simp; omega) := by simp only [h]
    rw [this, List.getElem_append_right (by omega)]
    simp
  · rintro ⟨h1, h2⟩
    rw [bt_of s _ (by omega)] at h2
    refine ⟨s.data.toList.take (s.size - 1), ?_⟩
    have e := take_snoc s (s.size - 1) (by omega)
    have hz : s[s.size - 1] = 90 := by
      apply UInt8.toNat_inj.1
      have : (90 : UInt8).toNat = 90 := rfl
      omega
    rw [hz, show s.size - 1 + 1 = s.size by omega] at e
    rw [← e]
    exact List.take_of_length_le (by simp)
set_option maxRecDepth 100000 in
set_option maxHeartbeats 1000000 in
theorem suf_any (s : ByteArray) (w : World) (hs : s.size ≤ maxLen) :
    Calls Tryz.prog 47 #[.string s, .string ⟨#[90]⟩] w fun e w' => e = .returned (.tuple #[.string (noZ s), .bool (decide (zP s))]) ∧ w = w' := by
  have M : maxLen = 9223372036854775807 := rfl
  have IX := Tryz.stringslite_HasSuffix s ⟨#[90]⟩ w (by omega)
  have e : Lib.hasSuffix s.data.toList (⟨#[90]⟩ : ByteArray).data.toList = decide (zP s) := suf_z s
  rw [e] at IX
  clear e
  by_cases h : zP s
  · have T := Lib.hid (show noZ s = s.extract 0 (s.size - 1) from if_pos h)
    have h1 : 1 ≤ s.size := h.1
    rw [decide_eq_true h] at IX ⊢
    clear h
    go_enter Tryz.func47, Tryz.ntmps47
    go_wp2_with (first | (go_at_call 142; refine IX.mono ?_; rintro e w1 ⟨rfl, rfl⟩) | (go_at_call 93; go_in))

    go_ret2
    exact ⟨by rw [T.out]; rfl, rfl⟩
  · have T := Lib.hid (show noZ s = s from if_neg h)
    rw [decide_eq_false h] at IX ⊢
    clear h
    go_enter Tryz.func47, Tryz.ntmps47
    go_wp2_with (first | (go_at_call 142; refine IX.mono ?_; rintro e w1 ⟨rfl, rfl⟩) | (go_at_call 93; go_in))
    go_ret2
    exact ⟨by rw [T.out]; rfl, rfl⟩
end Ap
end Go.Proofs.YtaghilgfldaaiaaGreatDoor
/-
  Plain law: what head, tail and numbers of a text say is what the text says; no walk here.
-/
namespace Go.Proofs.YtaghilgfldaaiaaGreatDoor
namespace Ap
open Go.RowKit Lw Go.Proofs.YtaghilgfldaaiaaGreatDoor.Mp

theorem bt_ext (s : ByteArray) (i j k : Nat) (hj : j ≤ s.size) (hk : i + k < j) : bt (s.extract i j) k = bt s (i + k) := by
  have h1 : k < (s.extract i j).size := by simp; omega
  rw [bt_of _ k h1, bt_of s (i + k) (by omega)]
  simp [ByteArray.getElem_extract]
theorem size_ext (s : ByteArray) (i j : Nat) (hj : j ≤ s.size) : (s.extract i j).size = j - i := by simp; omega
theorem ext_ext (s : ByteArray) (j k : Nat) (h : k ≤ j) (hj : j ≤ s.size) : (s.extract 0 j).extract 0 k = s.extract 0 k := by
  rw [ByteArray.extract_extract]
  congr 1 <;> omega
theorem ext_ext2 (s : ByteArray) (i j : Nat) (hj : j ≤ s.size) : (s.extract 0 j).extract i j = s.extract i j := by
  rw [ByteArray.extract_extract]
  congr 1 <;> omega
theorem pt_at (s : ByteArray) (h : ptS s < s.size) : bt s (ptS s) = 46 := by
  rw [bt_of s _ h]
  exact ptL_at s.data.toList (by have g := h; unfold ptS at g; simpa using g)
theorem pt_uniq {s : ByteArray} {q : Nat} (h : q ≤ s.size) (h1 : ∀ j, j < q → ¬ bt s j = 46) (h2 : q < s.size → bt s q = 46) : ptS s = q := by
  refine ptL_uniq (by simpa using h) (fun j g hj => ?_) (fun g => ?_)
  · have hs : j < s.size := by simpa using g
    have := h1 j hj
    rw [bt_of s j hs] at this
    exact this
  · have hs : q < s.size := by simpa using g
    have := h2 hs
    rw [bt_of s q hs] at this
    exact this
theorem allD_bt (s : ByteArray) : allD s.data.toList ↔ ∀ k, k < s.size → 48 ≤ bt s k ∧ bt s k ≤ 57 := by
  constructor
  · intro h k hk
    rw [bt_of s k hk]
    exact h _ (by
      have : s[k] = s.data.toList[k]'(by simpa using hk) := rfl
      rw [this]; exact List.getElem_mem _)
  · intro h c hc
    obtain ⟨k, hk, rfl⟩ := List.mem_iff_getElem.1 hc
    have hs : k < s.size := by simpa using hk
    have := h k hs
    rw [bt_of s k hs] at this
    exact this
theorem numV_nn (l : List UInt8) : 0 ≤ numV l ↔ allD l := by
  unfold numV
  by_cases h : allD l
  · rw [if_pos h]
    have e : l.take l.length = l := List.take_length
    have := numL_bd l l.length (Nat.le_refl _) (by rw [e]; exact h)
    rw [e] at this
    exact ⟨fun _ => h, fun _ => this.1⟩
  · rw [if_neg h]
    exact ⟨fun g => absurd g (by omega), fun g => absurd g h⟩
theorem numV_yes {l : List UInt8} (h : allD l) : numV l = numL l := if_pos h
/-! ### The digits behind the point -/
def pad6 (t : ByteArray) : ByteArray := t ++ P6.extract t.size P6.size
theorem zeros6 (i : Nat) (h : i ≤ 6) : (P6.extract i P6.size).data.toList = List.replicate (6 - i) 48 := by
  have : i = 0 ∨ i = 1 ∨ i = 2 ∨ i = 3 ∨ i = 4 ∨ i = 5 ∨ i = 6 := by omega
  rcases this with rfl | rfl | rfl | rfl | rfl | rfl | rfl <;> decide
theorem pad6_list (t : ByteArray) (h : t.size ≤ 6) : (pad6 t).data.toList = t.data.toList ++ List.replicate (6 - t.size) 48 := by
  rw [← zeros6 t.size h]
  simp [pad6]
theorem pad6_size (t : ByteArray) (h : t.size ≤ 6) : (pad6 t).size = 6 := by
  have := congrArg List.length (pad6_list t h)
  simp at this
  omega
theorem numL_zeros (l : List UInt8) : ∀ k, numL (l ++ List.replicate k 48) = numL l * tenI k
  | 0 => by simp [tenI]
  | k + 1 => by
    have ih := numL_zeros l k
    have e : List.replicate (k + 1) (48 : UInt8) = List.replicate k 48 ++ [48] := List.replicate_succ'
    have h48 : ((48 : UInt8).toNat : Int) = 48 := rfl
    rw [e, ← List.append_assoc, numL_snoc, ih, tenI_s, h48, ← Int.mul_assoc (numL l) (tenI k) 10]
    generalize numL l * tenI k = Z
    omega
theorem P6_at : ∀ k, k < 6 → bt P6 k = 48 := by decide
theorem like6 (t : ByteArray) (h : t.size ≤ 6) : likeP (pad6 t) P6 ↔ allD t.data.toList := by
  have hs := pad6_size t h
  have ha := allD_bt (pad6 t)
  rw [pad6_list t h, hs] at ha
  have hb : allD (t.data.toList ++ List.replicate (6 - t.size) 48) ↔ allD t.data.toList := by
    constructor
    · exact fun g c hc => g c (List.mem_append_left _ hc)
    · intro g c hc
      rcases List.mem_append.1 hc with hc | hc
      · exact g c hc
      · have := (List.mem_replicate.1 hc).2
        subst this
        exact ⟨by decide, by decide⟩
  rw [← hb, ha]
  constructor
  · intro ⟨_, g⟩ k hk
    exact (g k (by omega)).1 (P6_at k hk)
  · intro g
    refine ⟨hs, fun k hk => ⟨fun _ => g k (by omega), fun e => absurd (P6_at k (by omega)) e⟩⟩
theorem grp6 (t : ByteArray) (h : t.size ≤ 6) : grpL (pad6 t) P6 (pad6 t).size = [numL t.data.toList * tenI (6 - t.size)] := by
  have hs := pad6_size t h
  have := grp_run (pad6 t) P6 0 rfl 6 (by omega) (by omega) (fun j _ hj => P6_at j (by omega))
  rw [hs, show (6 : Nat) = 0 + 6 by omega, this]
  have e : (pad6 t).extract 0 (0 + 6) = pad6 t := by rw [show 0 + 6 = (pad6 t).size by omega]; exact extract_all _
  rw [e, pad6_list t h, numL_zeros]
  rfl
/-! ### The numbers ahead of the point -/
theorem P19_no : ∀ j, j < 19 → ¬ bt P19 j = 46 := by decide
theorem like_no46 {h p : ByteArray} {n : Nat} (hl : likeP h p) (hn : h.size = n) (hp : ∀ j, j < n → ¬ bt p j = 46) : ∀ j, j < n → ¬ bt h j = 46 := fun j hj e => by
  obtain ⟨a, b⟩ := hl.2 j (by omega)
  by_cases g : bt p j = 48
  · have := a g; omega
  · have := b g
    exact hp j hj (by omega)
/-- What the program finds of a text. -/
def progT (s : ByteArray) : Prop := zP s ∧ likeP (hdP (noZ s)) P19 ∧ (ptS (noZ s) < (noZ s).size → 1 ≤ (tlP (noZ s)).size ∧ (tlP (noZ s)).size ≤ 6) ∧ allD (tlP (noZ s)).data.toList
theorem P19_size : P19.size = 19 := rfl
theorem prog_text {s : ByteArray} (g : progT s) : textP s ∧ hdP (noZ s) = s.extract 0 19 ∧ microV s = numL (tlP (noZ s)).data.toList * tenI (6 - (tlP (noZ s)).size) := by
  obtain ⟨z, lk, sz, ad⟩ := g
  have hr : noZ s = s.extract 0 (s.size - 1) := if_pos z
  obtain ⟨z1, z2⟩ := z
  have rs : (noZ s).size = s.size - 1 := by rw [hr, size_ext s _ _ (by omega)]; omega
  have hq : ptS (noZ s) = 19 := by
    have := lk.1
    rw [P19_size] at this
    have le := ptS_le (noZ s)
    unfold hdP at this
    rw [size_ext _ _ _ le] at this
    omega
  have hle := ptS_le (noZ s)
  have hh : hdP (noZ s) = s.extract 0 19 := by
    unfold hdP
    rw [hq, hr, ext_ext s _ _ (by omega) (by omega)]
  rw [hh] at lk
  by_cases hp : ptS (noZ s) < (noZ s).size
  · have ht : tlP (noZ s) = s.extract 20 (s.size - 1) := by
      unfold tlP
      rw [if_pos hp, hq, rs, hr, ext_ext2 s _ _ (by omega)]
    have hs := sz hp
    rw [ht, size_ext s _ _ (by omega)] at hs
    have h46 := pt_at (noZ s) hp
    rw [hq, hr, bt_ext s 0 (s.size - 1) 19 (by omega) (by omega)] at h46
    have ad' := ad
    rw [ht] at ad'
    refine ⟨⟨by omega, by omega, by omega, z2, lk, fun _ => ⟨by simpa using h46, (numV_nn _).2 ad'⟩⟩, hh, ?_⟩
    unfold microV nm
    rw [if_neg (by omega), numV_yes ad', ht, size_ext s _ _ (by omega), show 6 - (s.size - 1 - 20) = 27 - s.size by omega]
  · have ht : tlP (noZ s) = ⟨#[]⟩ := if_neg hp
    refine ⟨⟨by omega, by omega, by omega, z2, lk, fun h => absurd h (by omega)⟩, hh, ?_⟩
    unfold microV
    rw [if_pos (by omega), ht]
    rfl
theorem text_prog {s : ByteArray} (g : textP s) : progT s := by
  obtain ⟨h20, h21, h27, hz, lk, hm⟩ := g
  have z : zP s := ⟨by omega, hz⟩
  have hr : noZ s = s.extract 0 (s.size - 1) := if_pos z
  have rs : (noZ s).size = s.size - 1 := by rw [hr, size_ext s _ _ (by omega)]; omega
  have no := like_no46 lk (by rw [size_ext s _ _ (by omega)]) P19_no
  have hq : ptS (noZ s) = 19 := by
    refine pt_uniq (by omega) (fun j hj => ?_) (fun h => ?_)
    · have := no j (by omega)
      rw [bt_ext s 0 19 j (by omega) (by omega)] at this
      rw [hr, bt_ext s 0 _ j (by omega) (by omega)]
      exact this
    · rw [hr, bt_ext s 0 _ 19 (by omega) (by omega)]
      have := (hm (by omega)).1
      simpa using this
  have hh : hdP (noZ s) = s.extract 0 19 := by
    unfold hdP
    rw [hq, hr, ext_ext s _ _ (by omega) (by omega)]
  refine ⟨z, by rw [hh]; exact lk, fun hp => ?_, ?_⟩
  · have ht : tlP (noZ s) = s.extract 20 (s.size - 1) := by
      unfold tlP
      rw [if_pos hp, hq, rs, hr, ext_ext2 s _ _ (by omega)]
    rw [ht, size_ext s _ _ (by omega)]
    omega
  · by_cases hp : ptS (noZ s) < (noZ s).size
    · have ht : tlP (noZ s) = s.extract 20 (s.size - 1) := by
        unfold tlP
        rw [if_pos hp, hq, rs, hr, ext_ext2 s _ _ (by omega)]
      rw [ht]
      exact (numV_nn _).1 (hm (by omega)).2
    · have ht : tlP (noZ s) = ⟨#[]⟩ := if_neg hp
      rw [ht]
      exact fun c hc => absurd hc (by simp)
end Ap
end Go.Proofs.YtaghilgfldaaiaaGreatDoor
/-
  The texts of times: Text of package moment and of the reference.
-/
namespace Go.Proofs.YtaghilgfldaaiaaGreatDoor
namespace At
open Go.RowKit Lw Ap Go.Proofs.YtaghilgfldaaiaaGreatDoor.Mp Go.Proofs.YtaghilgfldaaiaaGreatDoor.Mw

/-- The last digits of a number, as a string. -/
def dS (n k : Nat) : ByteArray := ⟨(decL n k).toArray⟩
theorem dS_size (n k : Nat) : (dS n k).size = k := by
  have : (dS n k).size = (decL n k).length := by simp [dS, ByteArray.size]
  rw [this, decL_len]
theorem add_fact {a b c : ByteArray} (h : c = a ++ b) (hs : a.size + b.size ≤ 9223372036854775807) : ∀ w' : World, (Op.stringOp .add a b).run Tryz.prog w' = .ok (.string c) w' := fun w' => by
  rw [run_string_add_sum (P := Tryz.prog) (w := w') _ _ hs, h]
def baseS (Y M D H I S : Nat) : ByteArray := dS Y 4 ++ (⟨#[45]⟩ : ByteArray) ++ dS M 2 ++ (⟨#[45]⟩ : ByteArray) ++ dS D 2 ++ (⟨#[84]⟩ : ByteArray) ++ dS H 2 ++ (⟨#[58]⟩ : ByteArray) ++ dS I 2 ++ (⟨#[58]⟩ : ByteArray) ++ dS S 2
/-- The text of a time. -/
def textS (Y M D H I S U d : Nat) : ByteArray := (if 0 < d then baseS Y M D H I S ++ ((⟨#[46]⟩ : ByteArray) ++ (dS U 6).extract 0 d) else baseS Y M D H I S) ++ (⟨#[90]⟩ : ByteArray)
/-- What Text returns: the text, and the error. -/
def TextIs (t d : Int) (s : ByteArray) (c : Int) : Prop :=
  ((d < 0 ∨ 6 < d) ∧ s = ⟨#[]⟩ ∧ c = 2) ∨ (0 ≤ d ∧ d ≤ 6 ∧ (t < bgv (-10227) 1972 1 ∨ bgv 36525 2100 1 ≤ t) ∧ s = ⟨#[]⟩ ∧ c = 16) ∨
  (0 ≤ d ∧ d ≤ 6 ∧ bgv (-10227) 1972 1 ≤ t ∧ t < bgv 36525 2100 1 ∧ ∃ n y m z k, DayOf t n y m z k ∧ s = textS y.toNat m.toNat (n - mo y m + 1).toNat (mins (t - bgv n y m) / 60).toNat (mins (t - bgv n y m) % 60).toNat ((t - bgv n y m) / 1000000 - 60 * mins (t - bgv n y m)).toNat ((t - bgv n y m) % 1000000).toNat d.toNat ∧ c = 0)
theorem TextIs.uniq {t d : Int} {s s' : ByteArray} {c c' : Int} (a : TextIs t d s c) (b : TextIs t d s' c') : s = s' ∧ c = c' := by
  rcases a with ⟨a0, a1, a2⟩ | ⟨a0, a1, a2, a3, a4⟩ | ⟨a0, a1, a2, a3, n, y, m, z, k, a4, a5, a6⟩ <;> rcases b with ⟨b0, b1, b2⟩ | ⟨b0, b1, b2, b3, b4⟩ | ⟨b0, b1, b2, b3, n', y', m', z', k', b4, b5, b6⟩
  · exact ⟨by rw [a1, b1], by omega⟩
  · omega
  · omega
  · omega
  · exact ⟨by rw [a3, b3], by omega⟩
  · omega
  · omega
  · omega
  · obtain ⟨rfl, rfl, rfl, _, _⟩ := a4.uniq b4
    exact ⟨by rw [a5, b5], by omega⟩
def TextPost (t d : Int) (w : World) (e : Ending) (w' : World) : Prop := ∃ (s : ByteArray) (c : Int), e = .returned (.tuple #[.string s, .int .i64 c]) ∧ TextIs t d s c ∧ Below w.heap.size w w'
/-- The parts of a date, as naturals. -/
theorem date_nat {t n y m z k : Int} (h : DayOf t n y m z k) : ∃ Y M D H I S U : Nat, y = Y ∧ m = M ∧ n - mo y m + 1 = D ∧ mins (t - bgv n y m) / 60 = H ∧ mins (t - bgv n y m) % 60 = I ∧ (t - bgv n y m) / 1000000 - 60 * mins (t - bgv n y m) = S ∧ (t - bgv n y m) % 1000000 = U ∧
    Y < 10 ^ 4 ∧ M < 10 ^ 2 ∧ D < 10 ^ 2 ∧ H < 10 ^ 2 ∧ I < 10 ^ 2 ∧ S < 10 ^ 2 ∧ U < 10 ^ 6 := by
  obtain ⟨p1, p2⟩ := h.pass
  have y1 := h.y1
  have y2 := h.y2
  have m1 := h.ym.m1
  have m2 := h.ym.m12
  have ml := mo_bd2 h
  generalize t - bgv n y m = p at *
  generalize n - mo y m + 1 = dd at *
  have hm : 0 ≤ mins p ∧ mins p ≤ 1439 ∧ 60 * mins p ≤ p / 1000000 ∧ p / 1000000 - 60 * mins p ≤ 60 := by unfold mins; split <;> omega
  generalize mins p = q at *
  refine ⟨y.toNat, m.toNat, dd.toNat, (q / 60).toNat, (q % 60).toNat, (p / 1000000 - 60 * q).toNat, (p % 1000000).toNat, ?_⟩
  omega
/-- The date in its block, the table, and what was there before. -/
structure XS (w : World) (b : Nat) (w' : World) : Prop where
  lt : b < w'.heap.size
  tab : Tab w'
  below : Below w.heap.size w w'
theorem XS.call {w : World} {b : Nat} {a c : World} (h : XS w b a) (hb : Below a.heap.size a c) : XS w b c := ⟨Nat.lt_of_lt_of_le h.lt hb.size, h.tab.below hb, below_then h.below hb⟩
theorem XS.drew {w : World} {b : Nat} {a : World} (h : XS w b a) : XS w b a.drew := ⟨h.lt, h.tab, h.below.drew⟩
structure XSr (w : World) (b : Nat) (w' : World) : Prop where
  lt : b < w'.heap.size
  below : Below w.heap.size w w'
theorem XSr.drew {w : World} {b : Nat} {a : World} (h : XSr w b a) : XSr w b a.drew := ⟨h.lt, h.below.drew⟩
theorem app_left (a b c : ByteArray) : a ++ (b ++ c) ++ (⟨#[90]⟩ : ByteArray) = a ++ b ++ c ++ (⟨#[90]⟩ : ByteArray) := by rw [← ByteArray.append_assoc]
theorem pads_any (r d : Nat) (w : World) (hT : Tab w) (hd : 1 ≤ d) (hd2 : d ≤ 18) (h : r < 10 ^ d) :
    Calls Tryz.prog 123 #[.int .i64 r, .int .i64 d] w fun e w' => e = .returned (.string (dS r d)) ∧ Below w.heap.size w w' := padd_any r d w hT hd hd2 h
theorem two_any (r : Nat) (w : World) (hT : Tab w) (h : r < 10 ^ 2) :
    Calls Tryz.prog 122 #[.int .i64 r] w fun e w' => e = .returned (.string (dS r 2)) ∧ Below w.heap.size w w' := by
  have P := pads_any r 2 w hT (by omega) (by omega) h
  go_enter Tryz.func122, Tryz.ntmps122
  go_wp2_with fail
  refine P.mono ?_
  rintro e w1 ⟨rfl, hb⟩
  go_wp2_with fail
  go_ret
  exact ⟨rfl, hb⟩
theorem digs_any (n k : Nat) (w : World) (hn : n < 10 ^ 6) (hk : k ≤ 6) :
    Calls Tryz.prog 88 #[.int .i64 n, .int .i64 k] w fun e w' => e = .returned (.string (dS n k)) ∧ w = w' := rdigs_any n k w (by omega) (by omega)
theorem digs2 (n : Nat) (w : World) (hn : n < 10 ^ 6) : Calls Tryz.prog 88 #[.int .i64 n, .int .i64 2] w fun e w' => e = .returned (.string (dS n 2)) ∧ w = w' := digs_any n 2 w hn (by omega)
theorem digs4 (n : Nat) (w : World) (hn : n < 10 ^ 6) : Calls Tryz.prog 88 #[.int .i64 n, .int .i64 4] w fun e w' => e = .returned (.string (dS n 4)) ∧ w = w' := digs_any n 4 w hn (by omega)
theorem text_arg {t d : Int} (h : d < 0 ∨ 6 < d) : TextIs t d ⟨#[]⟩ 2 := Or.inl ⟨h, rfl, rfl⟩
set_option maxRecDepth 100000 in
set_option maxHeartbeats 4000000 in
theorem text_bad (t d : Int) (w : World) (h : d < 0 ∨ 6 < d) :
    Calls Tryz.prog 69 #[.int .i64 t, .int .i64 d] w (TextPost t d w) := by
  have N := Lib.hid (text_arg (t := t) h)
  rcases h with h | h
  all_goals
    go_enter Tryz.func69, Tryz.ntmps69
    go_wp2_with fail
    go_ret2
    exact ⟨⟨#[]⟩, 2, rfl, N.out, Below.refl _ _⟩
set_option maxRecDepth 100000 in
set_option maxHeartbeats 4000000 in
theorem text_out (t : Int) (d : Nat) (w : World) (hd : d ≤ 6) (h0 : -9223372036854775808 ≤ t) (h1 : t ≤ 9223372036854775807) (h : t < bgv (-10227) 1972 1 ∨ bgv 36525 2100 1 ≤ t) :
    Calls Tryz.prog 69 #[.int .i64 t, .int .i64 d] w (TextPost t d w) := by
  have N := Lib.hid (show TextIs t d ⟨#[]⟩ 16 from Or.inr (Or.inl ⟨by omega, by omega, h, rfl, rfl⟩))
  have TU := Lib.hid (fun w' => toutc_out t w' h0 h1 h)
  have i0 : ¬ (d : Int) < 0 := by omega
  have i1 : ¬ 6 < (d : Int) := by omega
  clear h
  go_enter Tryz.func69, Tryz.ntmps69
  go_wp2_with fail
  refine (TU.out _).mono ?_
  rintro e w1 ⟨rfl, hb⟩
  have B1 := Lib.hid (hb.alloc hb.size (.cells (List.toArray [.int .i64 0, .int .i64 0, .int .i64 0, .int .i64 0, .int .i64 0, .int .i64 0, .int .i64 0]) 75))
  clear hb TU
  go_wp2_with (refine wpList_store_new rfl _ (.tmp 6) (.tmp 19) rfl _ _ rfl rfl rinfo7 rfl ?_ ?_; simp [Value.oneCell'])
  go_ret2
  exact ⟨⟨#[]⟩, 16, rfl, N.out, B1.out⟩
set_option maxRecDepth 100000 in
set_option maxHeartbeats 8000000 in
theorem text_in (t n y m z k : Int) (d : Nat) (w : World) (hd : d ≤ 6) (hT : Tab w) (h : DayOf t n y m z k) (h1 : bgv (-10227) 1972 1 ≤ t) (h2 : t < bgv 36525 2100 1) :
    Calls Tryz.prog 69 #[.int .i64 t, .int .i64 d] w (TextPost t d w) := by
  have TU := fun w' => toutc_in t n y m z k w' h h1 h2
  have TI : ∀ s, s = textS y.toNat m.toNat (n - mo y m + 1).toNat (mins (t - bgv n y m) / 60).toNat (mins (t - bgv n y m) % 60).toNat ((t - bgv n y m) / 1000000 - 60 * mins (t - bgv n y m)).toNat ((t - bgv n y m) % 1000000).toNat d → TextIs t d s 0 :=
    fun s hs => Or.inr (Or.inr ⟨by omega, by omega, h1, h2, n, y, m, z, k, h, by rw [Int.toNat_natCast]; exact hs, rfl⟩)
  obtain ⟨Y, M, D, H, I, S, U, e1, e2, e3, e4, e5, e6, e7, b1, b2, b3, b4, b5, b6, b7⟩ := date_nat h
  rw [e3, e4, e5, e6, e7] at TU TI
  rw [e1, e2] at TI
  simp only [Int.toNat_natCast] at TI
  rw [e1, e2] at TU
  clear e1 e2 e3 e4 e5 e6 e7 h h1 h2
  replace TU := Lib.hid TU
  replace TI := Lib.hid TI
  have i0 : ¬ (d : Int) < 0 := by omega
  have i1 : ¬ 6 < (d : Int) := by omega
  obtain ⟨A0, e0⟩ : ∃ A, A = dS Y 4 := ⟨_, rfl⟩
  have z0 : A0.size = 4 := by rw [e0]; exact dS_size _ _
  obtain ⟨A1, e1⟩ : ∃ A, A = A0 ++ (⟨#[45]⟩ : ByteArray) := ⟨_, rfl⟩
  have z1 : A1.size = 5 := by rw [e1, ByteArray.size_append, z0, show (⟨#[45]⟩ : ByteArray).size = 1 from rfl]
  have a1 := add_fact e1 (by rw [z0, show (⟨#[45]⟩ : ByteArray).size = 1 from rfl]; omega)
  obtain ⟨A2, e2⟩ : ∃ A, A = A1 ++ ((dS M 2) : ByteArray) := ⟨_, rfl⟩
  have z2 : A2.size = 7 := by rw [e2, ByteArray.size_append, z1, show ((dS M 2) : ByteArray).size = 2 from dS_size _ _]
  have a2 := add_fact e2 (by rw [z1, show ((dS M 2) : ByteArray).size = 2 from dS_size _ _]; omega)
  obtain ⟨A3, e3⟩ : ∃ A, A = A2 ++ (⟨#[45]⟩ : ByteArray) := ⟨_, rfl⟩
  have z3 : A3.size = 8 := by rw [e3, ByteArray.size_append, z2, show (⟨#[45]⟩ : ByteArray).size = 1 from rfl]
  have a3 := add_fact e3 (by rw [z2, show (⟨#[45]⟩ : ByteArray).size = 1 from rfl]; omega)
  obtain ⟨A4, e4⟩ : ∃ A, A = A3 ++ ((dS D 2) : ByteArray) := ⟨_, rfl⟩
  have z4 : A4.size = 10 := by rw [e4, ByteArray.size_append, z3, show ((dS D 2) : ByteArray).size = 2 from dS_size _ _]
  have a4 := add_fact e4 (by rw [z3, show ((dS D 2) : ByteArray).size = 2 from dS_size _ _]; omega)
  obtain ⟨A5, e5⟩ : ∃ A, A = A4 ++ (⟨#[84]⟩ : ByteArray) := ⟨_, rfl⟩
  have z5 : A5.size = 11 := by rw [e5, ByteArray.size_append, z4, show (⟨#[84]⟩ : ByteArray).size = 1 from rfl]
  have a5 := add_fact e5 (by rw [z4, show (⟨#[84]⟩ : ByteArray).size = 1 from rfl]; omega)
  obtain ⟨A6, e6⟩ : ∃ A, A = A5 ++ ((dS H 2) : ByteArray) := ⟨_, rfl⟩
  have z6 : A6.size = 13 := by rw [e6, ByteArray.size_append, z5, show ((dS H 2) : ByteArray).size = 2 from dS_size _ _]
  have a6 := add_fact e6 (by rw [z5, show ((dS H 2) : ByteArray).size = 2 from dS_size _ _]; omega)
  obtain ⟨A7, e7⟩ : ∃ A, A = A6 ++ (⟨#[58]⟩ : ByteArray) := ⟨_, rfl⟩
  have z7 : A7.size = 14 := by rw [e7, ByteArray.size_append, z6, show (⟨#[58]⟩ : ByteArray).size = 1 from rfl]
  have a7 := add_fact e7 (by rw [z6, show (⟨#[58]⟩ : ByteArray).size = 1 from rfl]; omega)
  obtain ⟨A8, e8⟩ : ∃ A, A = A7 ++ ((dS I 2) : ByteArray) := ⟨_, rfl⟩
  have z8 : A8.size = 16 := by rw [e8, ByteArray.size_append, z7, show ((dS I 2) : ByteArray).size = 2 from dS_size _ _]
  have a8 := add_fact e8 (by rw [z7, show ((dS I 2) : ByteArray).size = 2 from dS_size _ _]; omega)
  obtain ⟨A9, e9⟩ : ∃ A, A = A8 ++ (⟨#[58]⟩ : ByteArray) := ⟨_, rfl⟩
  have z9 : A9.size = 17 := by rw [e9, ByteArray.size_append, z8, show (⟨#[58]⟩ : ByteArray).size = 1 from rfl]
  have a9 := add_fact e9 (by rw [z8, show (⟨#[58]⟩ : ByteArray).size = 1 from rfl]; omega)
  obtain ⟨A10, e10⟩ : ∃ A, A = A9 ++ ((dS S 2) : ByteArray) := ⟨_, rfl⟩
  have z10 : A10.size = 19 := by rw [e10, ByteArray.size_append, z9, show ((dS S 2) : ByteArray).size = 2 from dS_size _ _]
  have a10 := add_fact e10 (by rw [z9, show ((dS S 2) : ByteArray).size = 2 from dS_size _ _]; omega)
  have EB := Lib.hid (show baseS Y M D H I S = A10 by unfold baseS; rw [← e0, ← e1, ← e2, ← e3, ← e4, ← e5, ← e6, ← e7, ← e8, ← e9, ← e10])
  have PY := fun w' ht => pads_any Y 4 w' ht (by omega) (by omega) b1
  have PU := Lib.hid (fun w' ht => pads_any U 6 w' ht (by omega) (by omega) b7)
  rw [← e0] at PY
  replace PY := Lib.hid PY
  have xs : (dS U 6).size = 6 := dS_size _ _
  have i6 : (d : Int) ≤ 6 := by omega
  clear e0 e1 e2 e3 e4 e5 e6 e7 e8 e9 e10 z0 z1 z2 z3 z4 z5 z6 z7 z8 z9
  go_enter Tryz.func69, Tryz.ntmps69
  go_wp2_with fail
  refine (TU.out _).mono ?_
  rintro e w1 ⟨rfl, hb⟩
  have B1 := hb
  clear hb TU
  go_wp2_with (refine wpList_store_new rfl _ (.tmp 6) (.tmp 19) rfl _ _ rfl rfl rinfo7 rfl ?_ ?_; simp [Value.oneCell'])
  have r0 := rangeAt_new w1 [.int .i64 (Y : Nat), .int .i64 (M : Nat), .int .i64 (D : Nat), .int .i64 (H : Nat), .int .i64 (I : Nat), .int .i64 (S : Nat), .int .i64 (U : Nat)] 75
  have X0 : XS w w1.heap.size (w1.alloc (.cells (List.toArray [.int .i64 (Y : Nat), .int .i64 (M : Nat), .int .i64 (D : Nat), .int .i64 (H : Nat), .int .i64 (I : Nat), .int .i64 (S : Nat), .int .i64 (U : Nat)]) 75)) := ⟨by simp, (hT.below B1).below ((Below.refl _ w1).alloc (Nat.le_refl _) _), B1.alloc B1.size _⟩
  have q0 := r0 0 _ rfl
  have q1 := r0 1 _ rfl
  have q2 := r0 2 _ rfl
  have q3 := r0 3 _ rfl
  have q4 := r0 4 _ rfl
  have q5 := r0 5 _ rfl
  have q6 := r0 6 _ rfl
  rw [Nat.zero_add] at q0 q1 q2 q3 q4 q5 q6
  clear r0 B1
  generalize w1.heap.size = b at *
  generalize w1.alloc (.cells (List.toArray [.int .i64 (Y : Nat), .int .i64 (M : Nat), .int .i64 (D : Nat), .int .i64 (H : Nat), .int .i64 (I : Nat), .int .i64 (S : Nat), .int .i64 (U : Nat)]) 75) = W at *
  have X1 := X0.drew
  go_region_held3 (fun w' => XS w b w' ∧ w'.cell? ⟨b, 0, none⟩ = some (.int .i64 (Y : Nat)) ∧ w'.cell? ⟨b, 1, none⟩ = some (.int .i64 (M : Nat)) ∧ w'.cell? ⟨b, 2, none⟩ = some (.int .i64 (D : Nat)) ∧ w'.cell? ⟨b, 3, none⟩ = some (.int .i64 (H : Nat)) ∧ w'.cell? ⟨b, 4, none⟩ = some (.int .i64 (I : Nat)) ∧ w'.cell? ⟨b, 5, none⟩ = some (.int .i64 (S : Nat)) ∧ w'.cell? ⟨b, 6, none⟩ = some (.int .i64 (U : Nat))) (first | go_keep | assumption) (first | (go_at_call 123; go_split_ands; refine (PY.out _ (XS.tab (by assumption))).mono ?_; rintro e w2 ⟨rfl, hb⟩; have hk := XS.call (by assumption) hb; have q0 := (hb.cell (p := ⟨b, 0, none⟩) (XS.lt (by assumption))).trans (by assumption); have q1 := (hb.cell (p := ⟨b, 1, none⟩) (XS.lt (by assumption))).trans (by assumption); have q2 := (hb.cell (p := ⟨b, 2, none⟩) (XS.lt (by assumption))).trans (by assumption); have q3 := (hb.cell (p := ⟨b, 3, none⟩) (XS.lt (by assumption))).trans (by assumption); have q4 := (hb.cell (p := ⟨b, 4, none⟩) (XS.lt (by assumption))).trans (by assumption); have q5 := (hb.cell (p := ⟨b, 5, none⟩) (XS.lt (by assumption))).trans (by assumption); have q6 := (hb.cell (p := ⟨b, 6, none⟩) (XS.lt (by assumption))).trans (by assumption); clear hb) | (go_at_call 122; go_split_ands; refine (two_any _ _ (XS.tab (by assumption)) (by assumption)).mono ?_; rintro e w2 ⟨rfl, hb⟩; have hk := XS.call (by assumption) hb; have q0 := (hb.cell (p := ⟨b, 0, none⟩) (XS.lt (by assumption))).trans (by assumption); have q1 := (hb.cell (p := ⟨b, 1, none⟩) (XS.lt (by assumption))).trans (by assumption); have q2 := (hb.cell (p := ⟨b, 2, none⟩) (XS.lt (by assumption))).trans (by assumption); have q3 := (hb.cell (p := ⟨b, 3, none⟩) (XS.lt (by assumption))).trans (by assumption); have q4 := (hb.cell (p := ⟨b, 4, none⟩) (XS.lt (by assumption))).trans (by assumption); have q5 := (hb.cell (p := ⟨b, 5, none⟩) (XS.lt (by assumption))).trans (by assumption); have q6 := (hb.cell (p := ⟨b, 6, none⟩) (XS.lt (by assumption))).trans (by assumption); clear hb))
  go_split_ands
  by_cases hc : 0 < d
  · have hc' : (0 : Int) < (d : Int) := by omega
    have E := Lib.hid (show textS Y M D H I S U d = A10 ++ ((⟨#[46]⟩ : ByteArray) ++ (dS U 6).extract 0 d) ++ (⟨#[90]⟩ : ByteArray) by unfold textS; rw [if_pos hc, EB.out])
    go_wp2_with fail
    refine (PU.out _ (XS.tab (by assumption))).mono ?_
    rintro e w3 ⟨rfl, hb3⟩
    have X3 := XS.call (by assumption) hb3
    go_wp2_with fail
    go_ret2
    exact ⟨_, 0, rfl, TI.out _ (E.out).symm, X3.below⟩
  · have hc' : ¬ (0 : Int) < (d : Int) := by omega
    have E := Lib.hid (show textS Y M D H I S U d = A10 ++ (⟨#[90]⟩ : ByteArray) by unfold textS; rw [if_neg hc, EB.out])
    go_wp2_with fail
    go_ret2
    exact ⟨_, 0, rfl, TI.out _ E.out.symm, XS.below (by assumption)⟩
set_option maxRecDepth 100000 in
set_option maxHeartbeats 4000000 in
theorem rtext_bad (t d : Int) (w : World) (h : d < 0 ∨ 6 < d) :
    Calls Tryz.prog 43 #[.int .i64 t, .int .i64 d] w (TextPost t d w) := by
  have N := Lib.hid (text_arg (t := t) h)
  rcases h with h | h
  all_goals
    go_enter Tryz.func43, Tryz.ntmps43
    go_wp2_with fail
    go_ret2
    exact ⟨⟨#[]⟩, 2, rfl, N.out, Below.refl _ _⟩
set_option maxRecDepth 100000 in
set_option maxHeartbeats 4000000 in
theorem rtext_out (t : Int) (d : Nat) (w : World) (hd : d ≤ 6) (h0 : -9223372036854775808 ≤ t) (h1 : t ≤ 9223372036854775807) (h : t < bgv (-10227) 1972 1 ∨ bgv 36525 2100 1 ≤ t) :
    Calls Tryz.prog 43 #[.int .i64 t, .int .i64 d] w (TextPost t d w) := by
  have N := Lib.hid (show TextIs t d ⟨#[]⟩ 16 from Or.inr (Or.inl ⟨by omega, by omega, h, rfl, rfl⟩))
  have TU := Lib.hid (fun w' => rtoutc_out t w' h0 h1 h)
  have i0 : ¬ (d : Int) < 0 := by omega
  have i1 : ¬ 6 < (d : Int) := by omega
  clear h
  go_enter Tryz.func43, Tryz.ntmps43
  go_wp2_with fail
  refine (TU.out _).mono ?_
  rintro e w1 ⟨rfl, hb⟩
  have B1 := Lib.hid (hb.alloc hb.size (.cells (List.toArray [.int .i64 0, .int .i64 0, .int .i64 0, .int .i64 0, .int .i64 0, .int .i64 0, .int .i64 0]) 75))
  clear hb TU
  go_wp2_with (refine wpList_store_new rfl _ (.tmp 6) (.tmp 18) rfl _ _ rfl rfl rinfo7 rfl ?_ ?_; simp [Value.oneCell'])
  go_ret2
  exact ⟨⟨#[]⟩, 16, rfl, N.out, B1.out⟩
set_option maxRecDepth 100000 in
set_option maxHeartbeats 8000000 in
theorem rtext_in (t n y m z k : Int) (d : Nat) (w : World) (hd : d ≤ 6) (h : DayOf t n y m z k) (h1 : bgv (-10227) 1972 1 ≤ t) (h2 : t < bgv 36525 2100 1) :
    Calls Tryz.prog 43 #[.int .i64 t, .int .i64 d] w (TextPost t d w) := by
  have TU := fun w' => rtoutc_in t n y m z k w' h h1 h2
  have TI : ∀ s, s = textS y.toNat m.toNat (n - mo y m + 1).toNat (mins (t - bgv n y m) / 60).toNat (mins (t - bgv n y m) % 60).toNat ((t - bgv n y m) / 1000000 - 60 * mins (t - bgv n y m)).toNat ((t - bgv n y m) % 1000000).toNat d → TextIs t d s 0 :=
    fun s hs => Or.inr (Or.inr ⟨by omega, by omega, h1, h2, n, y, m, z, k, h, by rw [Int.toNat_natCast]; exact hs, rfl⟩)
  obtain ⟨Y, M, D, H, I, S, U, e1, e2, e3, e4, e5, e6, e7, b1, b2, b3, b4, b5, b6, b7⟩ := date_nat h
  rw [e3, e4, e5, e6, e7] at TU TI
  rw [e1, e2] at TI
  simp only [Int.toNat_natCast] at TI
  rw [e1, e2] at TU
  clear e1 e2 e3 e4 e5 e6 e7 h h1 h2
  replace TU := Lib.hid TU
  replace TI := Lib.hid TI
  have i0 : ¬ (d : Int) < 0 := by omega
  have i1 : ¬ 6 < (d : Int) := by omega
  obtain ⟨A0, e0⟩ : ∃ A, A = dS Y 4 := ⟨_, rfl⟩
  have z0 : A0.size = 4 := by rw [e0]; exact dS_size _ _
  obtain ⟨A1, e1⟩ : ∃ A, A = A0 ++ (⟨#[45]⟩ : ByteArray) := ⟨_, rfl⟩
  have z1 : A1.size = 5 := by rw [e1, ByteArray.size_append, z0, show (⟨#[45]⟩ : ByteArray).size = 1 from rfl]
  have a1 := add_fact e1 (by rw [z0, show (⟨#[45]⟩ : ByteArray).size = 1 from rfl]; omega)
  obtain ⟨A2, e2⟩ : ∃ A, A = A1 ++ ((dS M 2) : ByteArray) := ⟨_, rfl⟩
  have z2 : A2.size = 7 := by rw [e2, ByteArray.size_append, z1, show ((dS M 2) : ByteArray).size = 2 from dS_size _ _]
  have a2 := add_fact e2 (by rw [z1, show ((dS M 2) : ByteArray).size = 2 from dS_size _ _]; omega)
  obtain ⟨A3, e3⟩ : ∃ A, A = A2 ++ (⟨#[45]⟩ : ByteArray) := ⟨_, rfl⟩
  have z3 : A3.size = 8 := by rw [e3, ByteArray.size_append, z2, show (⟨#[45]⟩ : ByteArray).size = 1 from rfl]
  have a3 := add_fact e3 (by rw [z2, show (⟨#[45]⟩ : ByteArray).size = 1 from rfl]; omega)
  obtain ⟨A4, e4⟩ : ∃ A, A = A3 ++ ((dS D 2) : ByteArray) := ⟨_, rfl⟩
  have z4 : A4.size = 10 := by rw [e4, ByteArray.size_append, z3, show ((dS D 2) : ByteArray).size = 2 from dS_size _ _]
  have a4 := add_fact e4 (by rw [z3, show ((dS D 2) : ByteArray).size = 2 from dS_size _ _]; omega)
  obtain ⟨A5, e5⟩ : ∃ A, A = A4 ++ (⟨#[84]⟩ : ByteArray) := ⟨_, rfl⟩
  have z5 : A5.size = 11 := by rw [e5, ByteArray.size_append, z4, show (⟨#[84]⟩ : ByteArray).size = 1 from rfl]
  have a5 := add_fact e5 (by rw [z4, show (⟨#[84]⟩ : ByteArray).size = 1 from rfl]; omega)
  obtain ⟨A6, e6⟩ : ∃ A, A = A5 ++ ((dS H 2) : ByteArray) := ⟨_, rfl⟩
  have z6 : A6.size = 13 := by rw [e6, ByteArray.size_append, z5, show ((dS H 2) : ByteArray).size = 2 from dS_size _ _]
  have a6 := add_fact e6 (by rw [z5, show ((dS H 2) : ByteArray).size = 2 from dS_size _ _]; omega)
  obtain ⟨A7, e7⟩ : ∃ A, A = A6 ++ (⟨#[58]⟩ : ByteArray) := ⟨_, rfl⟩
  have z7 : A7.size = 14 := by rw [e7, ByteArray.size_append, z6, show (⟨#[58]⟩ : ByteArray).size = 1 from rfl]
  have a7 := add_fact e7 (by rw [z6, show (⟨#[58]⟩ : ByteArray).size = 1 from rfl]; omega)
  obtain ⟨A8, e8⟩ : ∃ A, A = A7 ++ ((dS I 2) : ByteArray) := ⟨_, rfl⟩
  have z8 : A8.size = 16 := by rw [e8, ByteArray.size_append, z7, show ((dS I 2) : ByteArray).size = 2 from dS_size _ _]
  have a8 := add_fact e8 (by rw [z7, show ((dS I 2) : ByteArray).size = 2 from dS_size _ _]; omega)
  obtain ⟨A9, e9⟩ : ∃ A, A = A8 ++ (⟨#[58]⟩ : ByteArray) := ⟨_, rfl⟩
  have z9 : A9.size = 17 := by rw [e9, ByteArray.size_append, z8, show (⟨#[58]⟩ : ByteArray).size = 1 from rfl]
  have a9 := add_fact e9 (by rw [z8, show (⟨#[58]⟩ : ByteArray).size = 1 from rfl]; omega)
  obtain ⟨A10, e10⟩ : ∃ A, A = A9 ++ ((dS S 2) : ByteArray) := ⟨_, rfl⟩
  have z10 : A10.size = 19 := by rw [e10, ByteArray.size_append, z9, show ((dS S 2) : ByteArray).size = 2 from dS_size _ _]
  have a10 := add_fact e10 (by rw [z9, show ((dS S 2) : ByteArray).size = 2 from dS_size _ _]; omega)
  have EB := Lib.hid (show baseS Y M D H I S = A10 by unfold baseS; rw [← e0, ← e1, ← e2, ← e3, ← e4, ← e5, ← e6, ← e7, ← e8, ← e9, ← e10])
  have PY := fun w' => digs4 Y w' (by omega)
  have PU := Lib.hid (fun w' => digs_any U 6 w' b7 (by omega))
  have DM := Lib.hid (fun w' => digs2 M w' (by omega))
  have DD := Lib.hid (fun w' => digs2 D w' (by omega))
  have DH := Lib.hid (fun w' => digs2 H w' (by omega))
  have DI := Lib.hid (fun w' => digs2 I w' (by omega))
  have DS := Lib.hid (fun w' => digs2 S w' (by omega))
  rw [← e0] at PY
  replace PY := Lib.hid PY
  have xs : (dS U 6).size = 6 := dS_size _ _
  have i6 : (d : Int) ≤ 6 := by omega
  clear e0 e1 e2 e3 e4 e5 e6 e7 e8 e9 e10 z0 z1 z2 z3 z4 z5 z6 z7 z8 z9
  go_enter Tryz.func43, Tryz.ntmps43
  go_wp2_with fail
  refine (TU.out _).mono ?_
  rintro e w1 ⟨rfl, hb⟩
  have B1 := hb
  clear hb TU
  go_wp2_with (refine wpList_store_new rfl _ (.tmp 6) (.tmp 18) rfl _ _ rfl rfl rinfo7 rfl ?_ ?_; simp [Value.oneCell'])
  have r0 := rangeAt_new w1 [.int .i64 (Y : Nat), .int .i64 (M : Nat), .int .i64 (D : Nat), .int .i64 (H : Nat), .int .i64 (I : Nat), .int .i64 (S : Nat), .int .i64 (U : Nat)] 75
  have X0 : XSr w w1.heap.size (w1.alloc (.cells (List.toArray [.int .i64 (Y : Nat), .int .i64 (M : Nat), .int .i64 (D : Nat), .int .i64 (H : Nat), .int .i64 (I : Nat), .int .i64 (S : Nat), .int .i64 (U : Nat)]) 75)) := ⟨by simp, B1.alloc B1.size _⟩
  have q0 := r0 0 _ rfl
  have q1 := r0 1 _ rfl
  have q2 := r0 2 _ rfl
  have q3 := r0 3 _ rfl
  have q4 := r0 4 _ rfl
  have q5 := r0 5 _ rfl
  have q6 := r0 6 _ rfl
  rw [Nat.zero_add] at q0 q1 q2 q3 q4 q5 q6
  clear r0 B1
  generalize w1.heap.size = b at *
  generalize w1.alloc (.cells (List.toArray [.int .i64 (Y : Nat), .int .i64 (M : Nat), .int .i64 (D : Nat), .int .i64 (H : Nat), .int .i64 (I : Nat), .int .i64 (S : Nat), .int .i64 (U : Nat)]) 75) = W at *
  have X1 := X0.drew
  go_region_held3 (fun w' => XSr w b w' ∧ w'.cell? ⟨b, 0, none⟩ = some (.int .i64 (Y : Nat)) ∧ w'.cell? ⟨b, 1, none⟩ = some (.int .i64 (M : Nat)) ∧ w'.cell? ⟨b, 2, none⟩ = some (.int .i64 (D : Nat)) ∧ w'.cell? ⟨b, 3, none⟩ = some (.int .i64 (H : Nat)) ∧ w'.cell? ⟨b, 4, none⟩ = some (.int .i64 (I : Nat)) ∧ w'.cell? ⟨b, 5, none⟩ = some (.int .i64 (S : Nat)) ∧ w'.cell? ⟨b, 6, none⟩ = some (.int .i64 (U : Nat))) (first | go_keep | assumption) (first | (go_at_call 88; (first | (with_reducible refine (PY.out _).mono ?_) | (with_reducible refine (DM.out _).mono ?_) | (with_reducible refine (DD.out _).mono ?_) | (with_reducible refine (DH.out _).mono ?_) | (with_reducible refine (DI.out _).mono ?_) | (with_reducible refine (DS.out _).mono ?_)); rintro e w2 ⟨rfl, rfl⟩))
  go_split_ands
  have X2 : XSr w b _ := (by assumption : XSr w b _).drew
  go_wp2_with fail
  go_region_held3 (fun w' => XSr w b w' ∧ w'.cell? ⟨b, 0, none⟩ = some (.int .i64 (Y : Nat)) ∧ w'.cell? ⟨b, 1, none⟩ = some (.int .i64 (M : Nat)) ∧ w'.cell? ⟨b, 2, none⟩ = some (.int .i64 (D : Nat)) ∧ w'.cell? ⟨b, 3, none⟩ = some (.int .i64 (H : Nat)) ∧ w'.cell? ⟨b, 4, none⟩ = some (.int .i64 (I : Nat)) ∧ w'.cell? ⟨b, 5, none⟩ = some (.int .i64 (S : Nat)) ∧ w'.cell? ⟨b, 6, none⟩ = some (.int .i64 (U : Nat))) (first | go_keep | assumption) (first | (go_at_call 88; (first | (with_reducible refine (PY.out _).mono ?_) | (with_reducible refine (DM.out _).mono ?_) | (with_reducible refine (DD.out _).mono ?_) | (with_reducible refine (DH.out _).mono ?_) | (with_reducible refine (DI.out _).mono ?_) | (with_reducible refine (DS.out _).mono ?_)); rintro e w2 ⟨rfl, rfl⟩))
  go_split_ands
  by_cases hc : 0 < d
  · have hc' : (0 : Int) < (d : Int) := by omega
    have E := Lib.hid (show textS Y M D H I S U d = A10 ++ ((⟨#[46]⟩ : ByteArray) ++ (dS U 6).extract 0 d) ++ (⟨#[90]⟩ : ByteArray) by unfold textS; rw [if_pos hc, EB.out])
    go_wp2_with fail
    refine (PU.out _).mono ?_
    rintro e w3 ⟨rfl, rfl⟩
    go_wp2_with fail
    go_ret2
    exact ⟨_, 0, rfl, TI.out _ (E.out.trans (app_left _ _ _)).symm, XSr.below (by assumption)⟩
  · have hc' : ¬ (0 : Int) < (d : Int) := by omega
    have E := Lib.hid (show textS Y M D H I S U d = A10 ++ (⟨#[90]⟩ : ByteArray) by unfold textS; rw [if_neg hc, EB.out])
    go_wp2_with fail
    go_ret2
    exact ⟨_, 0, rfl, TI.out _ E.out.symm, XSr.below (by assumption)⟩
end At
end Go.Proofs.YtaghilgfldaaiaaGreatDoor
/-
  Plain arithmetic under math/bits.Div64: a quotient of two digits of 32 bits; no program in sight.
-/
namespace Go.Proofs.YtaghilgfldaaiaaGreatDoor
namespace Dv

end Dv
end Go.Proofs.YtaghilgfldaaiaaGreatDoor
/-
  The walk of math/bits.Div64.
-/
namespace Go.Proofs.YtaghilgfldaaiaaGreatDoor
namespace Dv
open Go.RowKit Lw

/-! ### The walk's numbers, as naturals -/
/-! ### The walk -/
end Dv
end Go.Proofs.YtaghilgfldaaiaaGreatDoor
/-
  The walk of part of the reference: a product divided, rounded down.
-/
namespace Go.Proofs.YtaghilgfldaaiaaGreatDoor
namespace Dv
open Go.RowKit Lw

end Dv
end Go.Proofs.YtaghilgfldaaiaaGreatDoor
/-
  The day texts of times: Day of package moment.
-/
namespace Go.Proofs.YtaghilgfldaaiaaGreatDoor
namespace At
open Go.RowKit Lw Ap Go.Proofs.YtaghilgfldaaiaaGreatDoor.Mp Go.Proofs.YtaghilgfldaaiaaGreatDoor.Mw

def dbS (Y M D : Nat) : ByteArray := dS Y 4 ++ (⟨#[32]⟩ : ByteArray) ++ dS M 2 ++ (⟨#[32]⟩ : ByteArray) ++ dS D 2
def daytS (Y M D q d : Nat) : ByteArray := if 0 < d then dbS Y M D ++ ((⟨#[46]⟩ : ByteArray) ++ dS q d) else dbS Y M D
/-- The digits of the part of a day. -/
def fracQ (p L : Int) (d : Nat) : Nat := p.toNat * 10 ^ d / L.toNat
/-- What Day returns: the text, and the error. -/
def DayIs (t d : Int) (s : ByteArray) (c : Int) : Prop :=
  ((d < 0 ∨ 9 < d) ∧ s = ⟨#[]⟩ ∧ c = 2) ∨ (0 ≤ d ∧ d ≤ 9 ∧ (t < bgv (-10227) 1972 1 ∨ bgv 36525 2100 1 ≤ t) ∧ s = ⟨#[]⟩ ∧ c = 16) ∨
  (0 ≤ d ∧ d ≤ 9 ∧ bgv (-10227) 1972 1 ≤ t ∧ t < bgv 36525 2100 1 ∧ ∃ n y m z k, DayOf t n y m z k ∧ s = daytS y.toNat m.toNat (n - mo y m + 1).toNat (fracQ (t - bgv n y m) (bgv (n + 1) z k - bgv n y m) d.toNat) d.toNat ∧ c = 0)
theorem DayIs.uniq {t d : Int} {s s' : ByteArray} {c c' : Int} (a : DayIs t d s c) (b : DayIs t d s' c') : s = s' ∧ c = c' := by
  rcases a with ⟨a0, a1, a2⟩ | ⟨a0, a1, a2, a3, a4⟩ | ⟨a0, a1, a2, a3, n, y, m, z, k, a4, a5, a6⟩ <;> rcases b with ⟨b0, b1, b2⟩ | ⟨b0, b1, b2, b3, b4⟩ | ⟨b0, b1, b2, b3, n', y', m', z', k', b4, b5, b6⟩
  · exact ⟨by rw [a1, b1], by omega⟩
  · omega
  · omega
  · omega
  · exact ⟨by rw [a3, b3], by omega⟩
  · omega
  · omega
  · omega
  · obtain ⟨rfl, rfl, rfl, rfl, rfl⟩ := a4.uniq b4
    exact ⟨by rw [a5, b5], by omega⟩
end At
end Go.Proofs.YtaghilgfldaaiaaGreatDoor
