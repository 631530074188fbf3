/-
  Lemmas and walks, texts joined: OAllPl, OAllW, Shelf3, OPrAll, OApp, OSame, OCmpPl, OCmpW, OCmpW2.
-/
import Derived.Deep.RegionHeld3
import Derived.Deep.MidRow
import Derived.Shelf.Strings.BuilderF
import Derived.OwnWalk
import Derived.Laws.AppendOwnNone
import Derived.LoopTactic
import Derived.Sort.Grow
import Derived.Test.YtgodhaphbgllhaaGreatDoorOa08
import Derived.Test.YtgodhaphbgllhaaGreatDoorOa02
import Derived.Test.YtgodhaphbgllhaaGreatDoorOc02
set_option linter.unusedSimpArgs false
set_option linter.unusedVariables false
/-
  Plain law of lists of observations: what PrintAll, ParseAll say; no walk here.
-/
namespace Go.Proofs.YtgodhaphbgllhaaGreatDoor
namespace Op
open Go.RowKit Lw Go.Proofs.YtgodhaphbgllhaaGreatDoor.Ap Go.Proofs.YtgodhaphbgllhaaGreatDoor.Mp Go.Proofs.YtgodhaphbgllhaaGreatDoor.At Go.Proofs.YtgodhaphbgllhaaGreatDoor.Ow Go.Proofs.YtgodhaphbgllhaaGreatDoor.Mw

def nlS : ByteArray := ⟨#[10]⟩
/-- The error of a list. -/
def allC (l : List Ob) : Int := if 500 < l.length then 4 else if ∀ o ∈ l, okO o then 0 else 8
theorem allC_zero {l : List Ob} (h : l.length ≤ 500) (g : ∀ o ∈ l, okO o) : allC l = 0 := by unfold allC; rw [if_neg (by omega), if_pos g]
theorem allC_many {l : List Ob} (h : 500 < l.length) : allC l = 4 := by unfold allC; rw [if_pos h]
theorem allC_bad {l : List Ob} {i : Nat} (h : l.length ≤ 500) (hi : i < l.length) (g : ¬ okO l[i]) : allC l = 8 := by
  unfold allC; rw [if_neg (by omega), if_neg (fun k => g (k _ (List.getElem_mem hi)))]
theorem allC_ok {l : List Ob} (h : allC l = 0) : l.length ≤ 500 ∧ ∀ o ∈ l, okO o := by
  unfold allC at h
  by_cases c : 500 < l.length
  · rw [if_pos c] at h; cases h
  · rw [if_neg c] at h
    by_cases d : ∀ o ∈ l, okO o
    · exact ⟨by omega, d⟩
    · rw [if_neg d] at h; cases h
/-- The lines of the first k observations. -/
def LinesTo (l : List Ob) : Nat → ByteArray → Prop
  | 0, s => s = ByteArray.empty
  | k + 1, s => ∃ a b o, LinesTo l k a ∧ l[k]? = some o ∧ PrintIs o b 0 ∧ s = a ++ (b ++ nlS)
theorem LinesTo.uniq {l : List Ob} : ∀ {k : Nat} {s s' : ByteArray}, LinesTo l k s → LinesTo l k s' → s = s'
  | 0, _, _, h, h' => h.trans h'.symm
  | _ + 1, _, _, ⟨_, _, _, h1, h2, h3, h4⟩, ⟨_, _, _, g1, g2, g3, g4⟩ => by
    obtain rfl := LinesTo.uniq h1 g1
    obtain rfl := Option.some.inj (h2.symm.trans g2)
    obtain ⟨rfl, _⟩ := h3.uniq g3
    rw [h4, g4]
theorem print0_size {o : Ob} {s : ByteArray} (h : PrintIs o s 0) : s.size = 80 := by
  rcases h with ⟨ok, ⟨day, hd, rfl⟩, _⟩ | ⟨_, _, h⟩
  · obtain ⟨n1, n2, _, G⟩ := line_seg ok hd
    rw [G.size]
  · cases h
theorem LinesTo.size {l : List Ob} : ∀ {k : Nat} {s : ByteArray}, LinesTo l k s → s.size = 81 * k
  | 0, _, h => by rw [h]; rfl
  | k + 1, _, ⟨_, _, _, h1, _, h3, h4⟩ => by
    rw [h4, ByteArray.size_append, ByteArray.size_append, h1.size, print0_size h3, show nlS.size = 1 from rfl]; omega
/-- What PrintAll returns. -/
def PrintAllIs (l : List Ob) (s : ByteArray) (c : Int) : Prop := (allC l = 0 ∧ LinesTo l l.length s ∧ c = 0) ∨ (allC l ≠ 0 ∧ s = ByteArray.empty ∧ c = allC l)
theorem PrintAllIs.uniq {l : List Ob} {s s' : ByteArray} {c c' : Int} (a : PrintAllIs l s c) (b : PrintAllIs l s' c') : s = s' ∧ c = c' := by
  rcases a with ⟨a1, a2, a3⟩ | ⟨a1, a2, a3⟩ <;> rcases b with ⟨b1, b2, b3⟩ | ⟨b1, b2, b3⟩
  · exact ⟨a2.uniq b2, by omega⟩
  · exact absurd a1 b1
  · exact absurd b1 a1
  · exact ⟨by rw [a2, b2], by omega⟩
/-- A line of a file. -/
def StepAt (s : ByteArray) (k : Nat) (o : Ob) : Prop := 81 * k + 81 ≤ s.size ∧ Good (s.extract (81 * k) (81 * k + 80)) o ∧ bt s (81 * k + 80) = 10
/-- The first k lines are read. -/
def PartTo (s : ByteArray) : Nat → List Ob → Prop
  | 0, l => l = []
  | k + 1, l => ∃ l' o, PartTo s k l' ∧ StepAt s k o ∧ l = l' ++ [o]
theorem PartTo.uniq {s : ByteArray} : ∀ {k : Nat} {l l' : List Ob}, PartTo s k l → PartTo s k l' → l = l'
  | 0, _, _, h, h' => h.trans h'.symm
  | _ + 1, _, _, ⟨_, _, h1, h2, h3⟩, ⟨_, _, g1, g2, g3⟩ => by
    obtain rfl := PartTo.uniq h1 g1
    obtain rfl := h2.2.1.uniq g2.2.1
    rw [h3, g3]
theorem PartTo.len {s : ByteArray} : ∀ {k : Nat} {l : List Ob}, PartTo s k l → l.length = k ∧ 81 * k ≤ s.size
  | 0, _, h => by rw [h]; exact ⟨rfl, by omega⟩
  | k + 1, _, ⟨_, _, h1, h2, h3⟩ => by
    obtain ⟨e1, e2⟩ := h1.len
    rw [h3]
    refine ⟨by simp [e1], ?_⟩
    have := h2.1
    omega
theorem PartTo.step {s : ByteArray} : ∀ {k : Nat} {l : List Ob}, PartTo s k l → ∀ j, j < k → ∃ o, StepAt s j o
  | 0, _, _, j, hj => by omega
  | k + 1, _, ⟨_, o, h1, h2, _⟩, j, hj => by
    by_cases e : j = k
    · subst e; exact ⟨o, h2⟩
    · exact h1.step j (by omega)
/-- What ParseAll returns. -/
def ParseAllIs (s : ByteArray) (l : List Ob) (c : Int) : Prop := ∃ k l', PartTo s k l' ∧
  ((81 * k = s.size ∧ k ≤ 500 ∧ l = l' ∧ c = 0) ∨ (81 * k = s.size ∧ 500 < k ∧ l = [] ∧ c = 4) ∨ (81 * k < s.size ∧ (∀ o, ¬ StepAt s k o) ∧ l = [] ∧ c = 12))
theorem ParseAllIs.uniq {s : ByteArray} {l l' : List Ob} {c c' : Int} (a : ParseAllIs s l c) (b : ParseAllIs s l' c') : l = l' ∧ c = c' := by
  obtain ⟨k, m, a1, a2⟩ := a
  obtain ⟨k', m', b1, b2⟩ := b
  have e : k = k' := by
    rcases Nat.lt_trichotomy k k' with h | h | h
    · obtain ⟨o, ho⟩ := b1.step k h
      have := b1.len.2
      have := ho.1
      rcases a2 with ⟨e, _⟩ | ⟨e, _⟩ | ⟨_, e, _⟩
      · omega
      · omega
      · exact absurd ho (e o)
    · exact h
    · obtain ⟨o, ho⟩ := a1.step k' h
      have := a1.len.2
      have := ho.1
      rcases b2 with ⟨e, _⟩ | ⟨e, _⟩ | ⟨_, e, _⟩
      · omega
      · omega
      · exact absurd ho (e o)
  subst e
  obtain rfl := a1.uniq b1
  rcases a2 with ⟨a3, a4, a5, a6⟩ | ⟨a3, a4, a5, a6⟩ | ⟨a3, a4, a5, a6⟩ <;> rcases b2 with ⟨b3, b4, b5, b6⟩ | ⟨b3, b4, b5, b6⟩ | ⟨b3, b4, b5, b6⟩
  · exact ⟨a5.trans b5.symm, by omega⟩
  · omega
  · omega
  · omega
  · exact ⟨a5.trans b5.symm, by omega⟩
  · omega
  · omega
  · omega
  · exact ⟨a5.trans b5.symm, by omega⟩
end Op
end Go.Proofs.YtgodhaphbgllhaaGreatDoor
/-
  Slices of observations; the walks of checkAll of obs, and of All, Same of the reference.
-/
namespace Go.Proofs.YtgodhaphbgllhaaGreatDoor
namespace Ow
open Go.RowKit Lw Go.Proofs.YtgodhaphbgllhaaGreatDoor.Ap Go.Proofs.YtgodhaphbgllhaaGreatDoor.Op Go.Proofs.YtgodhaphbgllhaaGreatDoor.Mp Go.Proofs.YtgodhaphbgllhaaGreatDoor.Mw Go.Proofs.YtgodhaphbgllhaaGreatDoor.At

/-- A slice's address, and the observations that it holds. -/
def SlA (w : World) (x : Option Addr) (l : List Ob) : Prop := l = [] ∨ ∃ b off, x = some ⟨b, off, none⟩ ∧ b < w.heap.size ∧ ObsAt w b off l
theorem SlA.below {w w' : World} {x : Option Addr} {l : List Ob} (h : SlA w x l) (hb : Below w.heap.size w w') : SlA w' x l := by
  rcases h with h | ⟨b, off, h1, h2, h3⟩
  · exact Or.inl h
  · exact Or.inr ⟨b, off, h1, Nat.lt_of_lt_of_le h2 hb.size, h3.below hb h2⟩
theorem SlA.get {w : World} {x : Option Addr} {l : List Ob} (h : SlA w x l) {i : Nat} (hi : i < l.length) : ∃ b off, x = some ⟨b, off, none⟩ ∧ b < w.heap.size ∧ ObsAt w b off l := by
  rcases h with rfl | h
  · simp at hi
  · exact h
/-- The bounds of a list. -/
def OBs (l : List Ob) : Prop := ∀ i (h : i < l.length), OB (l[i]'h)
set_option maxRecDepth 100000 in
set_option maxHeartbeats 8000000 in
theorem checkall_any (x : Option Addr) (cap : Nat) (l : List Ob) (w : World) (hE : ES w) (hl : SlA w x l) (hm : l.length ≤ 1000000) (hb : OBs l) :
    Calls Tryz.prog 61 #[.slice x l.length cap] w fun e w' => e = .returned (.int .i64 (allC l)) ∧ Below w.heap.size w w' := by
  have HL := Lib.hid (fun w' (h : Below w.heap.size w w') => hl.below h)
  have HE := Lib.hid (fun w' (h : Below w.heap.size w w') => hE.below h)
  have CK := Lib.hid (fun i (h : i < l.length) w' (g : ES w') => check_any (l[i]'h) w' g (hb i h).t0 (hb i h).t1 (hb i h).b0 (hb i h).b1 (hb i h).n1 (hb i h).n2)
  obtain ⟨n, hnl⟩ : ∃ n, l.length = n := ⟨_, rfl⟩
  have GM : Hid (500 < n → allC l = 4) := Lib.hid (fun h => allC_many (by omega))
  have GB : Hid (n ≤ 500 → ∀ i (h : i < l.length), ¬ okO (l[i]'h) → allC l = 8) := Lib.hid (fun a i h g => allC_bad (by omega) h g)
  have GZ : Hid (n ≤ 500 → (∀ i (h : i < l.length), okO (l[i]'h)) → allC l = 0) := Lib.hid (fun a g => allC_zero (by omega) (fun o ho => by
    obtain ⟨i, hi, rfl⟩ := List.getElem_of_mem ho
    exact g i hi))
  generalize allC l = K at *
  rw [hnl] at hm ⊢
  have NL := Lib.hid hnl
  clear hl hE hb hnl
  by_cases h5 : 500 < n
  · have h5' : (500 : Int) < (n : Int) := by omega
    obtain rfl := GM.out h5
    clear CK GM GB GZ HL HE NL
    go_enter Tryz.func61, Tryz.ntmps61
    go_wp2_with fail
    go_ret
    exact ⟨rfl, Below.refl _ _⟩
  · have h5' : ¬ (500 : Int) < (n : Int) := by omega
    clear GM
    go_enter Tryz.func61, Tryz.ntmps61
    go_wp2_with fail
    go_loopw [11] (fun i wr => ∃ k : Nat, k ≤ n ∧ i = .int .i64 k ∧ Hid (∀ j (h : j < l.length), j < k → okO (l[j]'h)) ∧ Hid (Below w.heap.size w wr)) (fun i _ => n - (intOf i).toNat)
    case atStart => exact ⟨0, Nat.zero_le _, rfl, Lib.hid (fun j _ h => by omega), Lib.hid (Below.refl _ _)⟩
    case round =>
      obtain ⟨k, hk, rfl, D, B⟩ := hrel
      by_cases hlt : k < n
      · have hkl : k < l.length := by rw [NL.out]; exact hlt
        obtain ⟨b, off, rfl, lt, row⟩ := (HL.out _ B.out).get hkl
        have R := Lib.hid (row k hkl)
        have CKk := Lib.hid (CK.out k hkl)
        have GBk := Lib.hid (fun (g : ¬ okO (l[k]'hkl)) => GB.out (by omega) k hkl g)
        have DK := Lib.hid (fun (g : okO (l[k]'hkl)) => (show ∀ j (h : j < l.length), j < k + 1 → okO (l[j]'h) from fun j h hj => by
          by_cases e : j = k
          · subst e; exact g
          · exact D.out j h (by omega)))
        have i1 : (k : Int) < (n : Int) := by omega
        clear D GB GZ row lt CK
        generalize l[k]'hkl = o at *
        have X0 := Lib.hid (Box.new wr o)
        have B1 := Lib.hid (B.out.alloc B.out.size (.cells (obsC o).toArray 23))
        have E1 := Lib.hid (HE.out _ B1.out)
        clear B
        go_wp2_with (first | (refine wpList_store_new rfl _ (.tmp 4) (.tmp 14) rfl _ _ rfl rfl info8 rfl ?_ ?_; simp [Value.oneCell']) | (refine wpList_load_mid rfl _ (.tmp 13) rfl b (off + k * 8) rfl (obsC o) _ R.out Tryz.underlying23 rfl info8 ?_) | (refine wpList_load_mid rfl _ (.tmp 4) rfl wr.heap.size 0 rfl (obsC o) _ X0.out.row Tryz.underlying23 rfl info8 ?_))
        refine (CKk.out _ E1.out).mono ?_
        rintro e w2 ⟨rfl, hb2⟩
        have B2 := Lib.hid (below_then B1.out hb2)
        clear hb2 B1 E1 CKk X0 R
        by_cases ok : okO o
        · rw [show checkC o = 0 from if_pos ok]
          have D2 := Lib.hid (DK.out ok)
          clear DK GBk
          go_wp2_with fail
          go_roundw
          case rel => exact ⟨k + 1, by omega, by go_num, D2, B2⟩
          case measure => simp [intOf]; omega
        · rw [show checkC o = 8 from if_neg ok]
          obtain rfl := GBk.out ok
          clear DK
          go_wp2_with fail
          go_ret
          exact ⟨rfl, B2.out⟩
      · obtain rfl : k = n := by omega
        obtain rfl := GZ.out (by omega) (fun i hi => D.out i hi (by have := NL.out; omega))
        clear GZ D GB HL CK
        go_wp2_with fail
        go_ret
        exact ⟨rfl, B.out⟩
set_option maxRecDepth 100000 in
set_option maxHeartbeats 8000000 in
theorem rall_any (x : Option Addr) (cap : Nat) (l : List Ob) (w : World) (hl : SlA w x l) (hm : l.length ≤ 1000000) (hb : OBs l) :
    Calls Tryz.prog 31 #[.slice x l.length cap] w fun e w' => e = .returned (.int .i64 (allC l)) ∧ Below w.heap.size w w' := by
  have HL := Lib.hid (fun w' (h : Below w.heap.size w w') => hl.below h)
  have CK := Lib.hid (fun i (h : i < l.length) w' => rcheck_any (l[i]'h) w' (hb i h).t0 (hb i h).t1 (hb i h).b0 (hb i h).b1 (hb i h).n1 (hb i h).n2)
  obtain ⟨n, hnl⟩ : ∃ n, l.length = n := ⟨_, rfl⟩
  have GM : Hid (500 < n → allC l = 4) := Lib.hid (fun h => allC_many (by omega))
  have GB : Hid (n ≤ 500 → ∀ i (h : i < l.length), ¬ okO (l[i]'h) → allC l = 8) := Lib.hid (fun a i h g => allC_bad (by omega) h g)
  have GZ : Hid (n ≤ 500 → (∀ i (h : i < l.length), okO (l[i]'h)) → allC l = 0) := Lib.hid (fun a g => allC_zero (by omega) (fun o ho => by
    obtain ⟨i, hi, rfl⟩ := List.getElem_of_mem ho
    exact g i hi))
  generalize allC l = K at *
  rw [hnl] at hm ⊢
  have NL := Lib.hid hnl
  clear hl hb hnl
  by_cases h5 : 500 < n
  · have h5' : (500 : Int) < (n : Int) := by omega
    obtain rfl := GM.out h5
    clear CK GM GB GZ HL NL
    go_enter Tryz.func31, Tryz.ntmps31
    go_wp2_with fail
    go_ret
    exact ⟨rfl, Below.refl _ _⟩
  · have h5' : ¬ (500 : Int) < (n : Int) := by omega
    clear GM
    go_enter Tryz.func31, Tryz.ntmps31
    go_wp2_with fail
    go_loopw [3] (fun i wr => ∃ k : Nat, k ≤ n ∧ i = .int .i64 k ∧ Hid (∀ j (h : j < l.length), j < k → okO (l[j]'h)) ∧ Hid (Below w.heap.size w wr)) (fun i _ => n - (intOf i).toNat)
    case atStart => exact ⟨0, Nat.zero_le _, rfl, Lib.hid (fun j _ h => by omega), Lib.hid (Below.refl _ _)⟩
    case round =>
      obtain ⟨k, hk, rfl, D, B⟩ := hrel
      by_cases hlt : k < n
      · have hkl : k < l.length := by rw [NL.out]; exact hlt
        obtain ⟨b, off, rfl, lt, row⟩ := (HL.out _ B.out).get hkl
        have R := Lib.hid (row k hkl)
        have CKk := Lib.hid (CK.out k hkl)
        have GBk := Lib.hid (fun (g : ¬ okO (l[k]'hkl)) => GB.out (by omega) k hkl g)
        have DK := Lib.hid (fun (g : okO (l[k]'hkl)) => (show ∀ j (h : j < l.length), j < k + 1 → okO (l[j]'h) from fun j h hj => by
          by_cases e : j = k
          · subst e; exact g
          · exact D.out j h (by omega)))
        have i1 : (k : Int) < (n : Int) := by omega
        clear D GB GZ row lt CK
        generalize l[k]'hkl = o at *
        go_wp2_with (refine wpList_load_mid rfl _ (.tmp 15) rfl b (off + k * 8) rfl (obsC o) _ R.out Tryz.underlying23 rfl info8 ?_)
        refine (CKk.out _).mono ?_
        rintro e w2 ⟨rfl, hb2⟩
        have B2 := Lib.hid (below_then B.out hb2)
        clear hb2 B CKk R
        by_cases ok : okO o
        · rw [show checkC o = 0 from if_pos ok]
          have D2 := Lib.hid (DK.out ok)
          clear DK GBk
          go_wp2_with fail
          go_roundw
          case rel => exact ⟨k + 1, by omega, by go_num, D2, B2⟩
          case measure => simp [intOf]; omega
        · rw [show checkC o = 8 from if_neg ok]
          obtain rfl := GBk.out ok
          clear DK
          go_wp2_with fail
          go_ret
          exact ⟨rfl, B2.out⟩
      · obtain rfl : k = n := by omega
        obtain rfl := GZ.out (by omega) (fun i hi => D.out i hi (by have := NL.out; omega))
        clear GZ D GB HL CK
        go_wp2_with fail
        go_ret
        exact ⟨rfl, B.out⟩
end Ow
end Go.Proofs.YtgodhaphbgllhaaGreatDoor
/-
  The library contracts of a builder, laid at this program.
-/
namespace Go.Proofs
open Go.Shelf
theorem Tryz.lays105b_166 : Go.Proofs.Lays.n166 Tryz.prog Tryz.lays105_ren := {
  mixed := by kernel_rfl
  f166 := Tryz.func62.trans (congrArg some (by kernel_rfl))
  f240 := Tryz.func109.trans (congrArg some (by kernel_rfl))
  f276 := Tryz.func157.trans (congrArg some (by kernel_rfl))
  t0 := Tryz.underlying0
  a0 := Tryz.isAgg0
  z0 := Tryz.sizeOf0
  v0 := Tryz.zeroValue0
  t3 := Tryz.underlying3
  a3 := Tryz.isAgg3
  z3 := Tryz.sizeOf3
  v3 := Tryz.zeroValue3
  t4 := Tryz.underlying4
  a4 := Tryz.isAgg4
  z4 := Tryz.sizeOf4
  v4 := Tryz.zeroValue4
  t9 := Tryz.underlying9
  a9 := Tryz.isAgg9
  z9 := Tryz.sizeOf9
  v9 := Tryz.zeroValue9
  t20 := Tryz.underlying20
  a20 := Tryz.isAgg20
  z20 := Tryz.sizeOf20
  v20 := Tryz.zeroValue20
  t37 := Tryz.underlying42
  a37 := Tryz.isAgg42
  z37 := Tryz.sizeOf42
  v37 := Tryz.zeroValue42
  t70 := Tryz.underlying87
  a70 := Tryz.isAgg87
  z70 := Tryz.sizeOf87
  v70 := Tryz.zeroValue87
  t72 := Tryz.underlying89
  a72 := Tryz.isAgg89
  z72 := Tryz.sizeOf89
  v72 := Tryz.zeroValue89
  t75 := Tryz.underlying91
  a75 := Tryz.isAgg91
  z75 := Tryz.sizeOf91
  v75 := Tryz.zeroValue91
  t164 := Tryz.underlying169
  a164 := Tryz.isAgg169
  z164 := Tryz.sizeOf169
  v164 := Tryz.zeroValue169 }
theorem Tryz.lays105b_169 : Go.Proofs.Lays.n169 Tryz.prog Tryz.lays105_ren := {
  mixed := by kernel_rfl
  f169 := Tryz.func63.trans (congrArg some (by kernel_rfl))
  t0 := Tryz.underlying0
  a0 := Tryz.isAgg0
  z0 := Tryz.sizeOf0
  v0 := Tryz.zeroValue0
  t3 := Tryz.underlying3
  a3 := Tryz.isAgg3
  z3 := Tryz.sizeOf3
  v3 := Tryz.zeroValue3
  t9 := Tryz.underlying9
  a9 := Tryz.isAgg9
  z9 := Tryz.sizeOf9
  v9 := Tryz.zeroValue9
  t37 := Tryz.underlying42
  a37 := Tryz.isAgg42
  z37 := Tryz.sizeOf42
  v37 := Tryz.zeroValue42
  t70 := Tryz.underlying87
  a70 := Tryz.isAgg87
  z70 := Tryz.sizeOf87
  v70 := Tryz.zeroValue87
  t72 := Tryz.underlying89
  a72 := Tryz.isAgg89
  z72 := Tryz.sizeOf89
  v72 := Tryz.zeroValue89
  t127 := Tryz.underlying139
  a127 := Tryz.isAgg139
  z127 := Tryz.sizeOf139
  v127 := Tryz.zeroValue139 }
open Go.RowKit in
theorem Tryz.Builder_WriteString (B b : Nat) (bs : List Value) (s : ByteArray) (w : World) (h : Lib.IsBuilder 89 5 B b bs w) (hlen : bs.length + s.size ≤ 140737488355328) (hBw : B ≤ w.heap.size) :
    Calls Tryz.prog 62 #[.pointer (some ⟨b, 0, none⟩), .string s] w fun e w' => e = .returned (.tuple #[.int .i64 s.size, .nilIface]) ∧ (Lib.BuilderAt 89 5 B b (.pointer (some ⟨b, 0, none⟩)) (bs ++ Lib.strCells s) w' ∧ Below B w w') := Any.Builder_WriteString Tryz.lays105b_166 Tryz.Builder_Extra_105 B b bs s w h hlen hBw
open Go.RowKit in
theorem Tryz.Builder_String_any (B b : Nat) (l : List UInt8) (w : World) (h : Lib.IsBuilder 89 5 B b (Lib.byteCells l) w) (hBw : B ≤ w.heap.size) :
    Calls Tryz.prog 63 #[.pointer (some ⟨b, 0, none⟩)] w fun e w' => e = .returned (.string ⟨l.toArray⟩) ∧ Below B w w' := (Any.Builder_String_any_f Tryz.lays105b_169 Tryz.Builder_Extra_105 B b l w (Lib.IsBuilderF.of h) hBw).mono fun e w' h => ⟨h.1, h.2.2⟩
end Go.Proofs
/-
  The walks of PrintAll of obs and of the reference.
-/
namespace Go.Proofs.YtgodhaphbgllhaaGreatDoor
namespace Ow
open Go.RowKit Lw Go.Proofs.YtgodhaphbgllhaaGreatDoor.Ap Go.Proofs.YtgodhaphbgllhaaGreatDoor.Op Go.Proofs.YtgodhaphbgllhaaGreatDoor.Mp Go.Proofs.YtgodhaphbgllhaaGreatDoor.Mw Go.Proofs.YtgodhaphbgllhaaGreatDoor.At

theorem ownsRow_below {w w' : World} {base : Nat} {e : TypeId} {size : Nat} {v : Value} {n : Nat} {xs : List Value} (h : w.ownsRow base e size v n xs) (hb : Below w.heap.size w w') : w'.ownsRow base e size v n xs := by
  obtain ⟨h1, h2⟩ := h
  refine ⟨h1, ?_⟩
  rcases h2 with h2 | ⟨g, cap, cur, hv, hg, hh, r⟩
  · exact Or.inl h2
  · refine Or.inr ⟨g, cap, cur, hv, hg, ?_, r⟩
    have lt : g < w.heap.size := by
      rcases Nat.lt_or_ge g w.heap.size with h | h
      · exact h
      · rw [Array.getElem?_eq_none h] at hh; cases hh
    rw [hb.block g lt]; exact hh
theorem builder_below {w w' : World} {T e : TypeId} {B b : Nat} {bs : List Value} (h : Lib.IsBuilder T e B b bs w) (hb : Below w.heap.size w w') : Lib.IsBuilder T e B b bs w' := by
  have key : ∀ p, Lib.BuilderAt T e B b p bs w → Lib.BuilderAt T e B b p bs w' := fun p ⟨h0, v, hh, ho, hn⟩ => by
    have lt : b < w.heap.size := by
      rcases Nat.lt_or_ge b w.heap.size with h | h
      · exact h
      · rw [Array.getElem?_eq_none h] at hh; cases hh
    exact ⟨h0, v, by rw [hb.block b lt]; exact hh, ownsRow_below ho hb, hn⟩
  exact h.elim (fun x => Or.inl (key _ x)) (fun x => Or.inr (key _ x))
/-- A builder that holds a string. -/
def Bd (B : Nat) (s : ByteArray) (w : World) : Prop := Lib.IsBuilder 89 5 B B (Lib.byteCells s.data.toList) w ∧ B ≤ w.heap.size
theorem Bd.below {B : Nat} {s : ByteArray} {w w' : World} (h : Bd B s w) (hb : Below w.heap.size w w') : Bd B s w' := ⟨builder_below h.1 hb, Nat.le_trans h.2 hb.size⟩
theorem Bd.new (w : World) : Bd w.heap.size ByteArray.empty (w.alloc (.cells #[.pointer none, .slice none 0 0] 89)) :=
  ⟨Or.inl ⟨Nat.le_refl _, .slice none 0 0, heap_alloc_new w _, World.ownsRow_nil _ _ _ _, by simp [Value.ownBlock]⟩, by simp⟩
theorem bd_write {B : Nat} {s t : ByteArray} {w : World} (h : Bd B s w) (hl : s.size + t.size ≤ 140737488355328) : Calls Tryz.prog 62 #[.pointer (some ⟨B, 0, none⟩), .string t] w fun e w' => e = .returned (.tuple #[.int .i64 t.size, .nilIface]) ∧ Bd B (s ++ t) w' ∧ Below B w w' := by
  refine (Tryz.Builder_WriteString B B (Lib.byteCells s.data.toList) t w h.1 (by rw [Lib.byteCells_length, ← size_L]; exact hl) h.2).mono ?_
  rintro e w' ⟨rfl, hB, hb⟩
  refine ⟨rfl, ⟨Or.inr ?_, Nat.le_trans h.2 hb.size⟩, hb⟩
  have e : Lib.byteCells (s ++ t).data.toList = Lib.byteCells s.data.toList ++ Lib.strCells t := by
    rw [Lib.strCells_eq, ← Lib.byteCells_append]
    congr 1
  rw [e]
  exact hB
theorem bd_str {B : Nat} {s : ByteArray} {w : World} (h : Bd B s w) : Calls Tryz.prog 63 #[.pointer (some ⟨B, 0, none⟩)] w fun e w' => e = .returned (.string s) ∧ Below B w w' := by
  refine (Tryz.Builder_String_any B B s.data.toList w h.1 h.2).mono ?_
  rintro e w' ⟨rfl, hb⟩
  exact ⟨by rw [mk_toL], hb⟩
theorem print_zero {o : Ob} {s : ByteArray} {c : Int} (ok : okO o) (h : PrintIs o s c) : c = 0 := by
  rcases h with ⟨_, _, h⟩ | ⟨h, _⟩
  · exact h
  · exact absurd ok h
def PrintAllPost (l : List Ob) (w : World) (e : Ending) (w' : World) : Prop := ∃ (s : ByteArray) (c : Int), e = .returned (.tuple #[.string s, .int .i64 c]) ∧ PrintAllIs l s c ∧ Below w.heap.size w w'
set_option maxRecDepth 100000 in
set_option maxHeartbeats 8000000 in
theorem printall_any (x : Option Addr) (cap : Nat) (l : List Ob) (w : World) (hT : Gt.Tab w) (hE : ES w) (hl : SlA w x l) (hm : l.length ≤ 1000000) (hb : OBs l) :
    Calls Tryz.prog 20 #[.slice x l.length cap] w (PrintAllPost l w) := by
  have HL := Lib.hid (fun w' (h : Below w.heap.size w w') => hl.below h)
  have HE := Lib.hid (fun w' (h : Below w.heap.size w w') => hE.below h)
  have HT := Lib.hid (fun w' (h : Below w.heap.size w w') => hT.below h)
  have CA := Lib.hid (checkall_any x cap l w hE hl hm hb)
  have PR := Lib.hid (fun i (h : i < l.length) w' (g : Gt.Tab w') (k : ES w') => print_any (l[i]'h) w' g k (hb i h))
  obtain ⟨n, hnl⟩ : ∃ n, l.length = n := ⟨_, rfl⟩
  by_cases hz : allC l = 0
  · have OK := Lib.hid (fun i (h : i < l.length) => (allC_ok hz).2 _ (List.getElem_mem h))
    have n5 : n ≤ 500 := by have := (allC_ok hz).1; omega
    have FIN : Hid (∀ s, LinesTo l n s → PrintAllIs l s 0) := Lib.hid (fun s h => Or.inl ⟨hz, by rw [hnl]; exact h, rfl⟩)
    rw [hz] at CA
    rw [hnl] at CA ⊢
    have NL := Lib.hid hnl
    clear hl hE hT hb hnl hz hm
    go_enter Tryz.func20, Tryz.ntmps20
    go_wp2_with fail
    refine CA.out.mono ?_
    rintro e w1 ⟨rfl, hb1⟩
    have B1 := Lib.hid (hb1.alloc hb1.size (.cells #[.pointer none, .slice none 0 0] 89))
    have D1 := Lib.hid (Bd.new w1)
    have le1 := hb1.size
    clear hb1 CA
    go_wp2_with fail
    go_loopw [17] (fun i wr => ∃ k : Nat, k ≤ n ∧ i = .int .i64 k ∧ Hid (∃ s, LinesTo l k s ∧ Bd w1.heap.size s wr) ∧ Hid (Below w.heap.size w wr)) (fun i _ => n - (intOf i).toNat)
    case atStart => exact ⟨0, Nat.zero_le _, rfl, Lib.hid ⟨_, rfl, D1.out⟩, B1⟩
    case round =>
      obtain ⟨k, hk, rfl, D, B⟩ := hrel
      obtain ⟨s, hs, hd⟩ := D.out
      have HS := Lib.hid hs
      have zs := hs.size
      have HD := Lib.hid hd
      clear D1 B1 D hs hd
      by_cases hlt : k < n
      · have hkl : k < l.length := by rw [NL.out]; exact hlt
        obtain ⟨b, off, rfl, lt, row⟩ := (HL.out _ B.out).get hkl
        have R := Lib.hid (row k hkl)
        have PRk := Lib.hid (PR.out k hkl)
        have OKk := Lib.hid (OK.out k hkl)
        have ST : Hid (∀ t, PrintIs (l[k]'hkl) t 0 → LinesTo l (k + 1) (s ++ (t ++ nlS))) := Lib.hid (fun t h => ⟨s, t, _, HS.out, List.getElem?_eq_getElem hkl, h, rfl⟩)
        have i1 : (k : Int) < (n : Int) := by omega
        clear FIN row lt PR OK HS
        generalize l[k]'hkl = o at *
        have bx := (Below.refl wr.heap.size wr).alloc (Nat.le_refl _) (.cells (obsC o).toArray 23)
        have X0 := Lib.hid (Box.new wr o)
        have B1 := Lib.hid (B.out.alloc B.out.size (.cells (obsC o).toArray 23))
        have D1 := Lib.hid (HD.out.below bx)
        have E1 := Lib.hid (HE.out _ B1.out)
        have T1 := Lib.hid (HT.out _ B1.out)
        clear B bx HD
        go_wp2_with (first | (refine wpList_store_new rfl _ (.tmp 7) (.tmp 20) rfl _ _ rfl rfl info8 rfl ?_ ?_; simp [Value.oneCell']) | (refine wpList_load_mid rfl _ (.tmp 19) rfl b (off + k * 8) rfl (obsC o) _ R.out Tryz.underlying23 rfl info8 ?_) | (refine wpList_load_mid rfl _ (.tmp 7) rfl wr.heap.size 0 rfl (obsC o) _ X0.out.row Tryz.underlying23 rfl info8 ?_))
        refine (PRk.out _ T1.out E1.out).mono ?_
        rintro e w2 ⟨t, c, rfl, hP, hb2⟩
        obtain rfl := print_zero OKk.out hP
        have zt := print0_size hP
        have B2 := Lib.hid (below_then B1.out hb2)
        have D2 := Lib.hid (D1.out.below hb2)
        have ST2 := Lib.hid (ST.out t hP)
        have le2 := hb2.size
        clear hb2 B1 E1 T1 D1 PRk X0 R hP ST OKk
        obtain ⟨t2, ht2⟩ : ∃ t2, t ++ nlS = t2 := ⟨_, rfl⟩
        rw [ht2] at ST2
        have zt2 : t2.size = 81 := by rw [← ht2, ByteArray.size_append, zt]; rfl
        have cat : ∀ w', (Go.Op.stringOp .add t ⟨#[10]⟩).run Tryz.prog w' = .ok (.string t2) w' := fun w' => by rw [run_string_add_sum (P := Tryz.prog) (w := w') _ _ (by rw [zt]; decide), ← ht2]; rfl
        clear ht2
        go_wp2_with fail
        refine (bd_write D2.out (t := t2) (by rw [zs, zt2]; omega)).mono ?_
        rintro e w3 ⟨rfl, hd3, hb3⟩
        have B3 := Lib.hid (B2.out.trans (hb3.mono le1))
        have D3 := Lib.hid hd3
        clear hd3 hb3 B2 D2 cat
        go_wp2_with fail
        go_roundw
        case rel => exact ⟨k + 1, by omega, by go_num, Lib.hid ⟨_, ST2.out, D3.out⟩, B3⟩
        case measure => simp [intOf]; omega
      · obtain rfl : k = n := by omega
        have F := Lib.hid (FIN.out s HS.out)
        clear HL HE HT PR FIN OK HS NL
        go_wp2_with fail
        refine (bd_str HD.out).mono ?_
        rintro e w3 ⟨rfl, hb3⟩
        have B3 := Lib.hid (B.out.trans (hb3.mono le1))
        clear hb3 B HD
        go_wp2_with fail
        go_ret2
        exact ⟨s, 0, rfl, F.out, B3.out⟩
  · have FIN := Lib.hid (show PrintAllIs l ByteArray.empty (allC l) from Or.inr ⟨hz, rfl, rfl⟩)
    have hnz : (allC l != 0) = true := by rw [bne, beq_eq_false_iff_ne.2 hz]; rfl
    clear hl hE hT hb hnl hm HL HE HT PR hz
    generalize allC l = K at *
    go_enter Tryz.func20, Tryz.ntmps20
    go_wp2_with fail
    refine CA.out.mono ?_
    rintro e w1 ⟨rfl, hb1⟩
    have B1 := Lib.hid hb1
    clear hb1 CA
    go_wp2_with fail
    go_ret2
    exact ⟨_, K, rfl, FIN.out, B1.out⟩
end Ow
end Go.Proofs.YtgodhaphbgllhaaGreatDoor
/-
  append of an observation to a slice that the call owns.
-/
namespace Go.Proofs.YtgodhaphbgllhaaGreatDoor
namespace Ow
open Go.RowKit Lw Go.Proofs.YtgodhaphbgllhaaGreatDoor.Ap Go.Proofs.YtgodhaphbgllhaaGreatDoor.Op Go.Proofs.YtgodhaphbgllhaaGreatDoor.Mp Go.Proofs.YtgodhaphbgllhaaGreatDoor.Mw Go.Proofs.YtgodhaphbgllhaaGreatDoor.At

theorem infoO : (Tryz.prog.info? 23).map (fun i => (i.zero, i.size, i.bytes)) = some (some (.agg #[.string .empty, .string .empty, .int .i64 0, .int .i64 0, .int .i64 0, .int .i64 0, .int .i64 0, .int .u8 0]), 8, 80) := by kernel_rfl
theorem infoR : (Tryz.prog.info? 98).map (fun i => (i.zero, i.size, i.bytes)) = some (some (.agg #[.string .empty, .string .empty, .int .i64 0, .int .i64 0, .int .i64 0, .int .i64 0, .int .i64 0, .int .u8 0]), 8, 80) := by kernel_rfl
/-- The cells of a list. -/
def flatO (l : List Ob) : List Value := l.flatMap obsC
theorem flatO_len (l : List Ob) : (flatO l).length = l.length * 8 := by
  induction l with
  | nil => rfl
  | cons a l ih => simp only [flatO, List.flatMap_cons, List.length_append, List.length_cons] at ih ⊢; rw [ih]; simp only [obsC, List.length_cons, List.length_nil]; omega
theorem flatO_snoc (l : List Ob) (o : Ob) : flatO (l ++ [o]) = flatO l ++ obsC o := by simp [flatO]
theorem flatO_get {l : List Ob} {i : Nat} (hi : i < l.length) {j : Nat} {v : Value} (h : (obsC l[i])[j]? = some v) : (flatO l)[i * 8 + j]? = some v := by
  have hj : j < 8 := by
    have := (List.getElem?_eq_some_iff.1 h).1
    exact this
  induction l generalizing i with
  | nil => simp at hi
  | cons a l ih =>
    have e : flatO (a :: l) = obsC a ++ flatO l := rfl
    have la : (obsC a).length = 8 := rfl
    match i, hi, h with
    | 0, _, h =>
      rw [e, Nat.zero_mul, Nat.zero_add, List.getElem?_append_left (by omega)]
      exact h
    | i + 1, hi, h =>
      have hi' : i < l.length := by simpa using hi
      rw [e, List.getElem?_append_right (by omega), la, show (i + 1) * 8 + j - 8 = i * 8 + j by omega]
      exact ih hi' (by simpa using h)
/-- A slice of the call's own. -/
def OwnO (w : World) (B : Nat) (v : Value) (l : List Ob) : Prop := w.ownsRow B 23 8 v l.length (flatO l) ∧ B ≤ w.heap.size
def OwnR (w : World) (B : Nat) (v : Value) (l : List Ob) : Prop := w.ownsRow B 98 8 v l.length (flatO l) ∧ B ≤ w.heap.size
theorem OwnO.nil (w : World) (B : Nat) (h : B ≤ w.heap.size) : OwnO w B (.slice none 0 0) [] := ⟨World.ownsRow_nil _ _ _ _, h⟩
theorem OwnR.nil (w : World) (B : Nat) (h : B ≤ w.heap.size) : OwnR w B (.slice none 0 0) [] := ⟨World.ownsRow_nil _ _ _ _, h⟩
theorem OwnO.below {w w' : World} {B : Nat} {v : Value} {l : List Ob} (h : OwnO w B v l) (hb : Below w.heap.size w w') : OwnO w' B v l := ⟨ownsRow_below h.1 hb, Nat.le_trans h.2 hb.size⟩
theorem OwnR.below {w w' : World} {B : Nat} {v : Value} {l : List Ob} (h : OwnR w B v l) (hb : Below w.heap.size w w') : OwnR w' B v l := ⟨ownsRow_below h.1 hb, Nat.le_trans h.2 hb.size⟩
theorem owns_form {w : World} {B : Nat} {t : TypeId} {v : Value} {l : List Ob} (h : w.ownsRow B t 8 v l.length (flatO l)) : (l = [] ∧ v = .slice none 0 0) ∨ ∃ g cap, v = .slice (some ⟨g, 0, none⟩) l.length cap ∧ B ≤ g ∧ g < w.heap.size ∧ ObsAt w g 0 l := by
  have hc := fun (g : Nat) (hg : v.ownBlock = some g) => h.cells hg
  rcases h.2 with ⟨hv, hn⟩ | ⟨g, cap, cur, hv, hb, hh, r⟩
  · exact Or.inl ⟨List.length_eq_zero_iff.1 hn, hv⟩
  · have lt : g < w.heap.size := by
      rcases Nat.lt_or_ge g w.heap.size with h | h
      · exact h
      · rw [Array.getElem?_eq_none h] at hh; cases hh
    refine Or.inr ⟨g, cap, hv, hb, lt, fun i hi j x hx => ?_⟩
    have e := hc g (by rw [hv]; rfl) (i * 8 + j) x (flatO_get hi hx)
    rw [Addr.add_mid] at e
    rw [Nat.zero_add] at e
    rw [Nat.zero_add]
    exact e
/-- A value that is a slice of observations. -/
def SlV (w : World) (v : Value) (l : List Ob) : Prop := ∃ x cap, v = .slice x l.length cap ∧ SlA w x l
theorem slV_of {w : World} {B : Nat} {t : TypeId} {v : Value} {l : List Ob} (h : w.ownsRow B t 8 v l.length (flatO l)) : SlV w v l := by
  rcases owns_form h with ⟨rfl, rfl⟩ | ⟨g, cap, rfl, _, lt, hg⟩
  · exact ⟨none, 0, rfl, Or.inl rfl⟩
  · exact ⟨_, cap, rfl, Or.inr ⟨g, 0, rfl, lt, hg⟩⟩
theorem SlV.below {w w' : World} {v : Value} {l : List Ob} (h : SlV w v l) (hb : Below w.heap.size w w') : SlV w' v l := by
  obtain ⟨x, cap, e, h⟩ := h
  exact ⟨x, cap, e, h.below hb⟩
theorem SlV.nil (w : World) : SlV w (.slice none 0 0) [] := ⟨none, 0, rfl, Or.inl rfl⟩
theorem news_of {w : World} {b : Nat} {o : Ob} (h : w.rangeAt b 0 (obsC o)) : ∀ j u, (obsC o)[j]? = some u → w.cell? ((⟨b, 0, none⟩ : Addr).add j) = some u := fun j u hj => by
  rw [Addr.add_mid]; exact h j u hj
theorem obsC_one (o : Ob) : ∀ u ∈ obsC o, u.oneCell' = true := fun u hu => by
  simp only [List.mem_cons, List.not_mem_nil, or_false] at hu
  rcases hu with rfl | rfl | rfl | rfl | rfl | rfl | rfl | rfl <;> rfl
/-- append, as the walk meets it: the element lies in a block of its own. -/
theorem wp_app {ops : Array Oper} {rest : List Oper} {o : Oper} {a : Act} {Q : Exit → Act → World → Prop} (w : World) (hgd : o.guard = none) (s x : Operand)
    (ho : o.op = .call { callee := .builtin .append, args := #[s, x], argTypes := #[25, 25] })
    (B : Nat) (v : Value) (l : List Ob) (q : Ob) (hs : a.eval s = v) (hx : a.eval x = .slice (some ⟨w.heap.size, 0, none⟩) 1 1) (hown : OwnO w B v l) (hl : l.length ≤ 1000000)
    (h : ∀ v' w', OwnO w' B v' (l ++ [q]) → Below B w w' → wpList Tryz.prog ops Q rest (a.put o.dst v') w') : wpList Tryz.prog ops Q (o :: rest) a (w.alloc (.cells (obsC q).toArray 23)) := by
  obtain ⟨i0, hi, hz0, hz1, hz2⟩ := info_parts infoO
  have ho' := hown.1.alloc (.cells (obsC q).toArray 23)
  have nw := news_of (rangeAt_new w (obsC q) 23)
  have b1 : Below B w (w.alloc (.cells (obsC q).toArray 23)) := (Below.refl _ _).alloc hown.2 _
  refine wpList_append_own _ hgd s x 25 ho B 23 i0 _ 8 80 Tryz.underlying25 hi hz0 hz1 hz2 rfl (by decide) v l.length (flatO l) hs ho' ⟨w.heap.size, 0, none⟩ 1 1 (obsC q) hx rfl nw (obsC_one q) (by unfold maxLen; omega) (by omega) (Nat.le_trans hown.2 b1.size) ?_
  intro v' w' h1 h2 _
  have e := flatO_snoc l q
  have hb : Below B w w' := b1.trans ((Below.refl B _).grown h2 (Nat.le_trans hown.2 b1.size) (fun k hk => (hown.1.lt k hk).1))
  refine h v' w' ⟨?_, Nat.le_trans hown.2 hb.size⟩ hb
  rw [e, List.length_append]
  exact h1
theorem wp_appR {ops : Array Oper} {rest : List Oper} {o : Oper} {a : Act} {Q : Exit → Act → World → Prop} (w : World) (hgd : o.guard = none) (s x : Operand)
    (ho : o.op = .call { callee := .builtin .append, args := #[s, x], argTypes := #[97, 97] })
    (B : Nat) (v : Value) (l : List Ob) (q : Ob) (hs : a.eval s = v) (hx : a.eval x = .slice (some ⟨w.heap.size, 0, none⟩) 1 1) (hown : OwnR w B v l) (hl : l.length ≤ 1000000)
    (h : ∀ v' w', OwnR w' B v' (l ++ [q]) → Below B w w' → wpList Tryz.prog ops Q rest (a.put o.dst v') w') : wpList Tryz.prog ops Q (o :: rest) a (w.alloc (.cells (obsC q).toArray 98)) := by
  obtain ⟨i0, hi, hz0, hz1, hz2⟩ := info_parts infoR
  have ho' := hown.1.alloc (.cells (obsC q).toArray 98)
  have nw := news_of (rangeAt_new w (obsC q) 98)
  have b1 : Below B w (w.alloc (.cells (obsC q).toArray 98)) := (Below.refl _ _).alloc hown.2 _
  refine wpList_append_own _ hgd s x 97 ho B 98 i0 _ 8 80 Tryz.underlying97 hi hz0 hz1 hz2 rfl (by decide) v l.length (flatO l) hs ho' ⟨w.heap.size, 0, none⟩ 1 1 (obsC q) hx rfl nw (obsC_one q) (by unfold maxLen; omega) (by omega) (Nat.le_trans hown.2 b1.size) ?_
  intro v' w' h1 h2 _
  have e := flatO_snoc l q
  have hb : Below B w w' := b1.trans ((Below.refl B _).grown h2 (Nat.le_trans hown.2 b1.size) (fun k hk => (hown.1.lt k hk).1))
  refine h v' w' ⟨?_, Nat.le_trans hown.2 hb.size⟩ hb
  rw [e, List.length_append]
  exact h1
end Ow
end Go.Proofs.YtgodhaphbgllhaaGreatDoor
/-
  The walk of Same of the reference at equal lists; Great at any slice; a copy of a slice.
-/
namespace Go.Proofs.YtgodhaphbgllhaaGreatDoor
namespace Ow
open Go.RowKit Lw Go.Proofs.YtgodhaphbgllhaaGreatDoor.Ap Go.Proofs.YtgodhaphbgllhaaGreatDoor.Op Go.Proofs.YtgodhaphbgllhaaGreatDoor.Mp Go.Proofs.YtgodhaphbgllhaaGreatDoor.Mw Go.Proofs.YtgodhaphbgllhaaGreatDoor.At

/-- Two rows that hold one list. -/
structure S2 (w0 : World) (a oa b ob : Nat) (l : List Ob) (w : World) : Prop where
  r1 : ObsAt w a oa l
  r2 : ObsAt w b ob l
  at_ : ∃ m, w = w0.drewN m
set_option maxRecDepth 100000 in
set_option maxHeartbeats 40000000 in
theorem same_any (x y : Option Addr) (c d : Nat) (l : List Ob) (w : World) (hx : SlA w x l) (hy : SlA w y l) (hm : l.length ≤ 1000000) :
    Calls Tryz.prog 26 #[.slice x l.length c, .slice y l.length d] w fun e w' => e = .returned (.bool true) ∧ Below w.heap.size w w' := by
  have HX := Lib.hid (fun w' (h : Below w.heap.size w w') => hx.below h)
  have HY := Lib.hid (fun w' (h : Below w.heap.size w w') => hy.below h)
  obtain ⟨n, hnl⟩ : ∃ n, l.length = n := ⟨_, rfl⟩
  rw [hnl] at hm ⊢
  have NL := Lib.hid hnl
  clear hx hy hnl
  go_enter Tryz.func26, Tryz.ntmps26
  go_wp2_with fail
  go_loopw [5] (fun i wr => ∃ k : Nat, k ≤ n ∧ i = .int .i64 k ∧ Hid (Below w.heap.size w wr)) (fun i _ => n - (intOf i).toNat)
  case atStart => exact ⟨0, Nat.zero_le _, rfl, Lib.hid (Below.refl _ _)⟩
  case round =>
    obtain ⟨k, hk, rfl, B⟩ := hrel
    by_cases hlt : k < n
    · have hkl : k < l.length := by rw [NL.out]; exact hlt
      obtain ⟨b1, o1, rfl, lt1, row1⟩ := (HX.out _ B.out).get hkl
      obtain ⟨b2, o2, rfl, lt2, row2⟩ := (HY.out _ B.out).get hkl
      have R1 := Lib.hid row1
      have R2 := Lib.hid row2
      have i1 : (k : Int) < (n : Int) := by omega
      have i0 : (0 : Int) ≤ (k : Int) := by omega
      have BD := Lib.hid (B.out.trans ((Below.refl _ _).drew.mono B.out.size))
      obtain ⟨o, ho⟩ : ∃ o, l[k] = o := ⟨_, rfl⟩
      have Q1 := Lib.hid (show wr.drew.rangeAt b1 (o1 + k * 8) (obsC o) by rw [← ho]; exact rangeAt_below (row1 k hkl) (Below.refl _ _).drew lt1)
      have Q2 := Lib.hid (show wr.drew.rangeAt b2 (o2 + k * 8) (obsC o) by rw [← ho]; exact rangeAt_below (row2 k hkl) (Below.refl _ _).drew lt2)
      clear row1 row2 R1 R2 lt1 lt2 ho
      go_wp2_with fail
      refine wp_region_held_drew (S := fun w' => w' = wr.drew) (by kernel_rfl) rfl (fun hHeld => ?_)
      refine wpAnyH_take (i := 0) (oi := ?oi0x1) (v := ?v0x1) ?hi0x1 (by kernel_rfl) (by kernel_rfl) (by kernel_rfl) ?hq0x1 ?hy0x1 hHeld ?rest0x1
      case hi0x1 => ((try simp only [List.getElem?_toArray, List.getElem?_cons_succ, List.getElem?_cons_zero]); (try rfl))
      case hq0x1 => exact fun _ _ _ h => h
      case hy0x1 => exact Or.inl ⟨by rfl, by intro w hSw; clear hSw; go_simp; try with_reducible rfl⟩
      try simp only [Act.put, List.setIfInBounds_toArray, List.set_cons_zero, List.set_cons_succ]
      refine wpAnyH_take (i := 1) (oi := ?oi1x2) (v := ?v1x2) ?hi1x2 (by kernel_rfl) (by kernel_rfl) (by kernel_rfl) ?hq1x2 ?hy1x2 hHeld ?rest1x2
      case hi1x2 => ((try simp only [List.getElem?_toArray, List.getElem?_cons_succ, List.getElem?_cons_zero]); (try rfl))
      case hq1x2 => exact fun _ _ _ h => h
      case hy1x2 => exact Or.inl ⟨by rfl, by intro w hSw; clear hSw; go_simp; try with_reducible rfl⟩
      try simp only [Act.put, List.setIfInBounds_toArray, List.set_cons_zero, List.set_cons_succ]
      refine wpAnyH_take (i := 2) (oi := ?oi2x3) (v := ?v2x3) ?hi2x3 (by kernel_rfl) (by kernel_rfl) (by kernel_rfl) ?hq2x3 ?hy2x3 hHeld ?rest2x3
      case hi2x3 => ((try simp only [List.getElem?_toArray, List.getElem?_cons_succ, List.getElem?_cons_zero]); (try rfl))
      case hq2x3 => exact fun _ _ _ h => h
      case hy2x3 => exact Or.inl ⟨by rfl, by intro w hSw; clear hSw; go_simp; try with_reducible rfl⟩
      try simp only [Act.put, List.setIfInBounds_toArray, List.set_cons_zero, List.set_cons_succ]
      refine wpAnyH_take (i := 3) (oi := ?oi3x4) (v := ?v3x4) ?hi3x4 (by kernel_rfl) (by kernel_rfl) (by kernel_rfl) ?hq3x4 ?hy3x4 hHeld ?rest3x4
      case hi3x4 => ((try simp only [List.getElem?_toArray, List.getElem?_cons_succ, List.getElem?_cons_zero]); (try rfl))
      case hq3x4 => exact fun _ _ _ h => h
      case hy3x4 => 
        refine' yieldsIf_load_mid ?_ 23 (.tmp 19) ?_ b1 (o1 + k * 8) ?_ (obsC o) _ ?_ Tryz.underlying23 ?_ info8
        · rfl
        · rfl
        · rfl
        · exact fun _ h => by rw [h]; exact Q1.out
        · rfl
      try simp only [Act.put, List.setIfInBounds_toArray, List.set_cons_zero, List.set_cons_succ]
      refine wpAnyH_take (i := 4) (oi := ?oi4x5) (v := ?v4x5) ?hi4x5 (by kernel_rfl) (by kernel_rfl) (by kernel_rfl) ?hq4x5 ?hy4x5 hHeld ?rest4x5
      case hi4x5 => ((try simp only [List.getElem?_toArray, List.getElem?_cons_succ, List.getElem?_cons_zero]); (try rfl))
      case hq4x5 => exact fun _ _ _ h => h
      case hy4x5 => exact Or.inl ⟨by rfl, by intro w hSw; clear hSw; go_simp; try with_reducible rfl⟩
      try simp only [Act.put, List.setIfInBounds_toArray, List.set_cons_zero, List.set_cons_succ]
      refine wpAnyH_take (i := 5) (oi := ?oi5x6) (v := ?v5x6) ?hi5x6 (by kernel_rfl) (by kernel_rfl) (by kernel_rfl) ?hq5x6 ?hy5x6 hHeld ?rest5x6
      case hi5x6 => ((try simp only [List.getElem?_toArray, List.getElem?_cons_succ, List.getElem?_cons_zero]); (try rfl))
      case hq5x6 => exact fun _ _ _ h => h
      case hy5x6 => exact Or.inl ⟨by rfl, by intro w hSw; clear hSw; go_simp; try with_reducible rfl⟩
      try simp only [Act.put, List.setIfInBounds_toArray, List.set_cons_zero, List.set_cons_succ]
      refine wpAnyH_take (i := 6) (oi := ?oi6x7) (v := ?v6x7) ?hi6x7 (by kernel_rfl) (by kernel_rfl) (by kernel_rfl) ?hq6x7 ?hy6x7 hHeld ?rest6x7
      case hi6x7 => ((try simp only [List.getElem?_toArray, List.getElem?_cons_succ, List.getElem?_cons_zero]); (try rfl))
      case hq6x7 => exact fun _ _ _ h => h
      case hy6x7 => exact Or.inl ⟨by rfl, by intro w hSw; clear hSw; go_simp; try with_reducible rfl⟩
      try simp only [Act.put, List.setIfInBounds_toArray, List.set_cons_zero, List.set_cons_succ]
      refine wpAnyH_take (i := 7) (oi := ?oi7x8) (v := ?v7x8) ?hi7x8 (by kernel_rfl) (by kernel_rfl) (by kernel_rfl) ?hq7x8 ?hy7x8 hHeld ?rest7x8
      case hi7x8 => ((try simp only [List.getElem?_toArray, List.getElem?_cons_succ, List.getElem?_cons_zero]); (try rfl))
      case hq7x8 => exact fun _ _ _ h => h
      case hy7x8 => 
        refine' yieldsIf_load_mid ?_ 23 (.tmp 23) ?_ b2 (o2 + k * 8) ?_ (obsC o) _ ?_ Tryz.underlying23 ?_ info8
        · rfl
        · rfl
        · rfl
        · exact fun _ h => by rw [h]; exact Q2.out
        · rfl
      try simp only [Act.put, List.setIfInBounds_toArray, List.set_cons_zero, List.set_cons_succ]
      refine wpAnyH_take (i := 8) (oi := ?oi8x9) (v := ?v8x9) ?hi8x9 (by kernel_rfl) (by kernel_rfl) (by kernel_rfl) ?hq8x9 ?hy8x9 hHeld ?rest8x9
      case hi8x9 => ((try simp only [List.getElem?_toArray, List.getElem?_cons_succ, List.getElem?_cons_zero]); (try rfl))
      case hq8x9 => exact fun _ _ _ h => h
      case hy8x9 => exact Or.inl ⟨by rfl, by intro w hSw; clear hSw; go_simp; try with_reducible rfl⟩
      try simp only [Act.put, List.setIfInBounds_toArray, List.set_cons_zero, List.set_cons_succ]
      refine wpAnyH_done (by kernel_rfl) ?_ _
      clear hHeld Q1 Q2
      go_wp2_with fail
      go_roundw
      case rel => exact ⟨k + 1, by omega, by go_num, BD⟩
      case measure => simp [intOf]; omega
    · obtain rfl : k = n := by omega
      clear HX HY
      go_wp2_with fail
      go_ret
      exact ⟨rfl, B.out⟩
set_option maxRecDepth 100000 in
set_option maxHeartbeats 4000000 in
theorem great_wide (b off cap : Nat) (l : List Ob) (most : Int) (w : World) (hl : ObsAt w b off l) (hm : l.length ≤ 9223372036854775807) (hn : ∀ o ∈ l, o.name.size ≤ maxLen ∧ o.site.size ≤ maxLen) :
    Calls Tryz.prog 10 #[.slice (some ⟨b, off, none⟩) l.length cap, .int .i64 most] w fun e w' => e = .returned (.bool (greatB l most)) ∧ w = w' := by
  have HL := Lib.hid hl
  have HN := Lib.hid hn
  have GY := Lib.hid (fun i (h : i < l.length) (g : longP l[i]) => great_yes (most := most) h g)
  obtain ⟨n, hnl⟩ : ∃ n, l.length = n := ⟨_, rfl⟩
  have GN : Hid ((∀ i (hi : i < l.length), ¬ longP (l[i]'hi)) → greatB l most = decide ((most < (n : Int) ∧ (n : Int) ≤ 500) ∨ 510 < (n : Int))) := Lib.hid fun h => by rw [great_no h, hnl]
  clear hl hn
  generalize greatB l most = gb at *
  rw [hnl] at hm ⊢
  have NL := Lib.hid hnl
  clear hnl
  go_enter Tryz.func10, Tryz.ntmps10
  go_wp2_with fail
  go_loop [5] (fun i => ∃ k : Nat, k ≤ n ∧ i = .int .i64 k ∧ Hid (∀ j (h : j < l.length), j < k → ¬ longP (l[j]'h))) (fun i => n - (intOf i).toNat)
  case atStart => exact ⟨0, Nat.zero_le _, rfl, Lib.hid (fun j _ h => by omega)⟩
  case round =>
    obtain ⟨k, hk, rfl, D⟩ := hrel
    by_cases hlt : k < n
    · have hkl : k < l.length := by rw [NL.out]; exact hlt
      have r := HL.out k hkl
      have q0 := r 0 _ rfl
      have q1 := r 1 _ rfl
      rw [Nat.add_zero] at q0
      have i1 : (k : Int) < (n : Int) := by omega
      have GYk := Lib.hid (GY.out k hkl)
      have DK := Lib.hid (fun (g : ¬ longP (l[k]'hkl)) => (show ∀ j (h : j < l.length), j < k + 1 → ¬ longP (l[j]'h) from fun j h hj => by
        by_cases e : j = k
        · subst e; exact g
        · exact D.out j h (by omega)))
      have zz := HN.out _ (List.getElem_mem hkl)
      unfold longP maxLen at *
      clear r D
      generalize (l[k]'hkl).name = nm at *
      generalize (l[k]'hkl).site = st at *
      obtain ⟨z1, z2⟩ := zz
      by_cases g1 : 100 < nm.size
      · have e := Lib.hid (GYk.out (Or.inl g1))
        have g1' : (100 : Int) < nm.size := by omega
        clear GYk DK
        go_wp2_with fail
        go_ret
        exact ⟨by rw [e.out]; rfl, rfl⟩
      · have g1' : ¬ (100 : Int) < nm.size := by omega
        by_cases g2 : 100 < st.size
        · have e := Lib.hid (GYk.out (Or.inr g2))
          have g2' : (100 : Int) < st.size := by omega
          clear GYk DK
          go_wp2_with fail
          go_ret
          exact ⟨by rw [e.out]; rfl, rfl⟩
        · have g2' : ¬ (100 : Int) < st.size := by omega
          have D2 := Lib.hid (DK.out (fun h => h.elim g1 g2))
          clear GYk DK
          go_wp2_with fail
          go_round
          case rel => exact ⟨k + 1, by omega, by go_num, D2⟩
          case measure => simp [intOf]; omega
    · obtain rfl : k = n := by omega
      have E := Lib.hid (GN.out (fun i hi => D.out i hi (by have := NL.out; omega)))
      clear GN D GY HN
      by_cases c1 : most < (k : Int)
      · by_cases c2 : (k : Int) ≤ 500
        · rw [decide_eq_true (Or.inl ⟨c1, c2⟩)] at E
          go_wp2_with fail
          go_ret
          exact ⟨by rw [E.out]; rfl, rfl⟩
        · by_cases c3 : 510 < (k : Int)
          · rw [decide_eq_true (Or.inr c3)] at E
            go_wp2_with fail
            go_ret
            exact ⟨by rw [E.out]; rfl, rfl⟩
          · rw [decide_eq_false (fun h => h.elim (fun x => c2 x.2) c3)] at E
            go_wp2_with fail
            go_ret
            exact ⟨by rw [E.out]; rfl, rfl⟩
      · by_cases c3 : 510 < (k : Int)
        · rw [decide_eq_true (Or.inr c3)] at E
          go_wp2_with fail
          go_ret
          exact ⟨by rw [E.out]; rfl, rfl⟩
        · rw [decide_eq_false (fun h => h.elim (fun x => c1 x.1) c3)] at E
          go_wp2_with fail
          go_ret
          exact ⟨by rw [E.out]; rfl, rfl⟩
set_option maxRecDepth 100000 in
set_option maxHeartbeats 40000000 in
theorem great_nil (x : Option Addr) (cap : Nat) (w : World) : Calls Tryz.prog 10 #[.slice x 0 cap, .int .i64 12] w fun e w' => e = .returned (.bool false) ∧ w = w' := by
  go_enter Tryz.func10, Tryz.ntmps10
  go_wp2_with fail
  go_loop [5] (fun i => i = .int .i64 0) (fun i => 0 - (intOf i).toNat)
  case atStart => exact rfl
  case round =>
    obtain rfl := hrel
    go_wp2_with fail
    go_ret
    exact ⟨rfl, rfl⟩
theorem great_sl (x : Option Addr) (cap : Nat) (l : List Ob) (w : World) (hx : SlA w x l) (hm : l.length ≤ 9223372036854775807) (hb : OBs l) :
    Calls Tryz.prog 10 #[.slice x l.length cap, .int .i64 12] w fun e w' => e = .returned (.bool (greatB l 12)) ∧ w = w' := by
  rcases hx with rfl | ⟨b, off, rfl, _, h⟩
  · refine (great_nil x cap w).mono ?_
    rintro e w' ⟨rfl, rfl⟩
    exact ⟨rfl, rfl⟩
  · exact great_wide b off cap l 12 w h hm (fun o ho => by
      obtain ⟨i, hi, rfl⟩ := List.getElem_of_mem ho
      exact ⟨(hb i hi).n1, (hb i hi).n2⟩)
theorem great_len {l : List Ob} (h : greatB l 12 = false) : l.length ≤ 510 := by
  have := of_decide_eq_false h
  rcases Nat.lt_or_ge 510 l.length with g | g
  · exact absurd (Or.inr (Or.inr (by omega))) this
  · exact g
theorem great_few {l : List Ob} (h : greatB l 12 = false) (g : l.length ≤ 500) : l.length ≤ 12 := by
  have := of_decide_eq_false h
  rcases Nat.lt_or_ge 12 l.length with k | k
  · exact absurd (Or.inr (Or.inl ⟨by omega, by omega⟩)) this
  · exact k
theorem news_l {w : World} {a : Addr} {l : List Ob} (h : SlA w (some a) l) : ∀ j u, (flatO l)[j]? = some u → w.cell? (a.add j) = some u := fun j u hj => by
  rcases h with rfl | ⟨b, off, e, _, h⟩
  · simp [flatO] at hj
  · obtain rfl := Option.some.inj e
    have lj : j < l.length * 8 := by
      have := (List.getElem?_eq_some_iff.1 hj).1
      rwa [flatO_len] at this
    have hi : j / 8 < l.length := by omega
    have hr : j % 8 < (obsC l[j / 8]).length := Nat.mod_lt _ (by omega)
    have e1 := flatO_get hi (List.getElem?_eq_getElem hr)
    rw [show j / 8 * 8 + j % 8 = j by omega] at e1
    have := h (j / 8) hi (j % 8) _ (List.getElem?_eq_getElem hr)
    rw [Addr.add_mid]
    rw [show off + j / 8 * 8 + j % 8 = off + j by omega] at this
    rw [this, ← e1, hj]
/-- append of a slice to an empty one, as the walk meets it. -/
theorem wp_copy {ops : Array Oper} {rest : List Oper} {o : Oper} {a : Act} {Q : Exit → Act → World → Prop} (w : World) (hgd : o.guard = none) (s x : Operand)
    (ho : o.op = .call { callee := .builtin .append, args := #[s, x], argTypes := #[25, 25] })
    (l : List Ob) (ad : Addr) (cap : Nat) (hs : a.eval s = .slice (some ⟨w.heap.size, 0, none⟩) 0 0) (hx : a.eval x = .slice (some ad) l.length cap) (hsl : SlA w (some ad) l) (hl : l.length ≤ 1000000)
    (h : ∀ v' w', OwnO w' w.heap.size v' l → Below w.heap.size w w' → wpList Tryz.prog ops Q rest (a.put o.dst v') w') : wpList Tryz.prog ops Q (o :: rest) a (w.alloc (.cells #[] 23)) := by
  obtain ⟨i0, hi, hz0, hz1, hz2⟩ := info_parts infoO
  have b1 : Below w.heap.size w (w.alloc (.cells #[] 23)) := (Below.refl _ _).alloc (Nat.le_refl _) _
  have ho' := World.ownsRow_made (e := 23) (size := 8) w #[] 0 (Nat.le_refl _) (Nat.zero_le _) rfl
  refine wpList_append_own _ hgd s x 25 ho w.heap.size 23 i0 _ 8 80 Tryz.underlying25 hi hz0 hz1 hz2 rfl (by decide) _ 0 [] hs ho' ad l.length cap (flatO l) hx (flatO_len l) (news_l (hsl.below b1)) (fun u hu => ?_) (by unfold maxLen; omega) (by omega) b1.size ?_
  · obtain ⟨q, _, hq⟩ := List.mem_flatMap.1 hu
    exact obsC_one q u hq
  · intro v' w' h1 h2 _
    rw [Nat.zero_add, List.nil_append] at h1
    have hb : Below w.heap.size w w' := b1.trans ((Below.refl _ _).grown h2 b1.size (fun k hk => (ho'.lt k hk).1))
    exact h v' w' ⟨h1, hb.size⟩ hb
theorem wp_copy0 {ops : Array Oper} {rest : List Oper} {o : Oper} {a : Act} {Q : Exit → Act → World → Prop} (w : World) (hgd : o.guard = none) (s x : Operand)
    (ho : o.op = .call { callee := .builtin .append, args := #[s, x], argTypes := #[25, 25] })
    (hs : a.eval s = .slice (some ⟨w.heap.size, 0, none⟩) 0 0) (hx : a.eval x = .slice none 0 0)
    (h : ∀ v' w', OwnO w' w.heap.size v' [] → Below w.heap.size w w' → wpList Tryz.prog ops Q rest (a.put o.dst v') w') : wpList Tryz.prog ops Q (o :: rest) a (w.alloc (.cells #[] 23)) := by
  obtain ⟨i0, hi, hz0, hz1, hz2⟩ := info_parts infoO
  have b1 : Below w.heap.size w (w.alloc (.cells #[] 23)) := (Below.refl _ _).alloc (Nat.le_refl _) _
  have ho' := World.ownsRow_made (e := 23) (size := 8) w #[] 0 (Nat.le_refl _) (Nat.zero_le _) rfl
  exact wpList_append_own_none hgd s x 25 ho w.heap.size 23 i0 8 Tryz.underlying25 hi _ 0 [] hs ho' hx (h _ _ ⟨ho', b1.size⟩ b1)
end Ow
end Go.Proofs.YtgodhaphbgllhaaGreatDoor
/-
  Plain law of observations: comparing them is a total order, and what Sort returns; no walk here.
-/
namespace Go.Proofs.YtgodhaphbgllhaaGreatDoor
namespace Op
open Go.RowKit Lw Go.Proofs.YtgodhaphbgllhaaGreatDoor.Ap Go.Proofs.YtgodhaphbgllhaaGreatDoor.Mp Go.Proofs.YtgodhaphbgllhaaGreatDoor.At Go.Proofs.YtgodhaphbgllhaaGreatDoor.Ow Go.Proofs.YtgodhaphbgllhaaGreatDoor.Mw

def cI (x y : Int) : Int := if x < y then -1 else if y < x then 1 else 0
def cS (x y : ByteArray) : Int := if x.data.toList < y.data.toList then -1 else if y.data.toList < x.data.toList then 1 else 0
/-- The first number that is not 0. -/
def orL : List Int → Int
  | [] => 0
  | x :: r => if x ≠ 0 then x else orL r
theorem orL_zero {l : List Int} (h : ∀ i (hi : i < l.length), l[i] = 0) : orL l = 0 := by
  induction l with
  | nil => rfl
  | cons x r ih =>
    have h0 : x = 0 := h 0 (by simp)
    unfold orL
    rw [if_neg (by simp [h0])]
    exact ih fun i hi => by have := h (i + 1) (by simp; omega); simpa using this
theorem orL_at {l : List Int} {k : Nat} (hk : k < l.length) (h : ∀ i (hi : i < l.length), i < k → l[i] = 0) (g : l[k] ≠ 0) : orL l = l[k] := by
  induction l generalizing k with
  | nil => simp at hk
  | cons x r ih =>
    unfold orL
    match k, hk, g with
    | 0, _, g => rw [if_pos (by simpa using g)]; rfl
    | k + 1, hk, g =>
      have h0 : x = 0 := h 0 (by simp) (by omega)
      rw [if_neg (by simp [h0])]
      have := ih (k := k) (by simpa using hk) (fun i hi hik => by have := h (i + 1) (by simp; omega) (by omega); simpa using this) (by simpa using g)
      rw [this]; rfl
def cmpL (a b : Ob) : List Int := [cI a.t b.t, cS a.site b.site, cS a.name b.name, cI a.ra b.ra, cI a.dec b.dec, cI a.sg b.sg, cI a.mag b.mag, cI a.band b.band]
def cmpO (a b : Ob) : Int := orL (cmpL a b)
structure Cmp {α : Type} (c : α → α → Int) : Prop where
  anti : ∀ x y, c y x = - c x y
  trans : ∀ x y z, c x y ≤ 0 → c y z ≤ 0 → c x z ≤ 0
theorem Cmp.lt_le {α : Type} {c : α → α → Int} (h : Cmp c) {x y z : α} (a : c x y < 0) (b : c y z ≤ 0) : c x z < 0 := by
  rcases Int.lt_or_le (c x z) 0 with g | g
  · exact g
  · have e := h.anti x z
    have := h.trans y z x b (by omega)
    have e2 := h.anti x y
    omega
theorem Cmp.le_lt {α : Type} {c : α → α → Int} (h : Cmp c) {x y z : α} (a : c x y ≤ 0) (b : c y z < 0) : c x z < 0 := by
  rcases Int.lt_or_le (c x z) 0 with g | g
  · exact g
  · have e := h.anti x z
    have := h.trans z x y (by omega) a
    have e2 := h.anti y z
    omega
theorem Cmp.lex {α : Type} {c d : α → α → Int} (hc : Cmp c) (hd : Cmp d) : Cmp (fun x y => if c x y ≠ 0 then c x y else d x y) := by
  constructor
  · intro x y
    have e := hc.anti x y
    have f := hd.anti x y
    by_cases h : c x y = 0
    · rw [if_neg (by omega), if_neg (by omega)]; exact f
    · rw [if_pos (by omega), if_pos (by omega)]; exact e
  · intro x y z h1 h2
    by_cases a : c x y = 0
    · rw [if_neg (by omega)] at h1
      by_cases b : c y z = 0
      · rw [if_neg (by omega)] at h2
        have t1 := hc.trans x y z (by omega) (by omega)
        have e1 := hc.anti x y
        have e2 := hc.anti y z
        have e3 := hc.anti x z
        have t2 := hc.trans z y x (by omega) (by omega)
        rw [if_neg (by omega)]
        exact hd.trans x y z h1 h2
      · rw [if_pos b] at h2
        have := hc.le_lt (x := x) (y := y) (z := z) (by omega) (by omega)
        rw [if_pos (by omega)]; omega
    · rw [if_pos a] at h1
      have : c y z ≤ 0 := by
        by_cases b : c y z = 0
        · omega
        · rw [if_pos b] at h2; exact h2
      have := hc.lt_le (x := x) (y := y) (z := z) (by omega) this
      rw [if_pos (by omega)]; omega
theorem Cmp.on {α β : Type} {c : α → α → Int} (hc : Cmp c) (f : β → α) : Cmp (fun x y => c (f x) (f y)) := ⟨fun _ _ => hc.anti _ _, fun _ _ _ => hc.trans _ _ _⟩
theorem Cmp.none {α : Type} : Cmp (fun _ _ : α => (0 : Int)) := ⟨fun _ _ => rfl, fun _ _ _ _ _ => Int.le_refl _⟩
theorem cmp_I : Cmp cI := ⟨fun x y => by unfold cI; split <;> split <;> (first | omega | (split <;> omega)), fun x y z h1 h2 => by unfold cI at *; split at h1 <;> split at h2 <;> (repeat' split at h1) <;> (repeat' split at h2) <;> (repeat' split) <;> omega⟩
theorem cS_le {x y : ByteArray} : cS x y ≤ 0 ↔ ¬ y.data.toList < x.data.toList := by
  unfold cS
  by_cases h : x.data.toList < y.data.toList
  · rw [if_pos h]
    exact ⟨fun _ g => List.lt_irrefl _ (List.lt_trans h g), fun _ => by decide⟩
  · rw [if_neg h]
    by_cases g : y.data.toList < x.data.toList
    · rw [if_pos g]; exact ⟨fun k => absurd k (by decide), fun k => absurd g k⟩
    · rw [if_neg g]; exact ⟨fun _ => g, fun _ => Int.le_refl _⟩
theorem cmp_S : Cmp cS := by
  constructor
  · intro x y
    unfold cS
    by_cases h : x.data.toList < y.data.toList
    · rw [if_pos h, if_neg (fun g => List.lt_irrefl _ (List.lt_trans h g)), if_pos h]; rfl
    · rw [if_neg h]
      by_cases g : y.data.toList < x.data.toList
      · rw [if_pos g, if_pos g, if_neg h]
      · rw [if_neg g, if_neg g, if_neg h]; rfl
  · intro x y z h1 h2
    rw [cS_le] at *
    rw [List.not_lt] at *
    exact List.le_trans h1 h2
theorem cI_zero {x y : Int} (h : cI x y = 0) : x = y := by
  unfold cI at h
  split at h
  · cases h
  · split at h
    · cases h
    · omega
theorem cS_zero {x y : ByteArray} (h : cS x y = 0) : x = y := by
  have a := cS_le (x := x) (y := y)
  have b := cS_le (x := y) (y := x)
  have e := cmp_S.anti x y
  apply toL_inj
  exact List.le_antisymm (List.not_lt.1 (a.1 (by omega))) (List.not_lt.1 (b.1 (by omega)))
theorem cmpO_eq : cmpO = fun a b : Ob => if cI a.t b.t ≠ 0 then cI a.t b.t else if cS a.site b.site ≠ 0 then cS a.site b.site else if cS a.name b.name ≠ 0 then cS a.name b.name else if cI a.ra b.ra ≠ 0 then cI a.ra b.ra else if cI a.dec b.dec ≠ 0 then cI a.dec b.dec else if cI a.sg b.sg ≠ 0 then cI a.sg b.sg else if cI a.mag b.mag ≠ 0 then cI a.mag b.mag else if cI a.band b.band ≠ 0 then cI a.band b.band else 0 := rfl
theorem cmp_O : Cmp cmpO := by
  rw [cmpO_eq]
  exact (cmp_I.on Ob.t).lex ((cmp_S.on Ob.site).lex ((cmp_S.on Ob.name).lex ((cmp_I.on Ob.ra).lex ((cmp_I.on Ob.dec).lex ((cmp_I.on Ob.sg).lex ((cmp_I.on Ob.mag).lex ((cmp_I.on Ob.band).lex Cmp.none)))))))
theorem orL_eq0 {l : List Int} (h : orL l = 0) : ∀ x ∈ l, x = 0 := by
  induction l with
  | nil => intro x hx; cases hx
  | cons y r ih =>
    unfold orL at h
    by_cases g : y = 0
    · rw [if_neg (by omega)] at h
      intro x hx
      rcases List.mem_cons.1 hx with rfl | hx
      · exact g
      · exact ih h x hx
    · rw [if_pos g] at h; exact absurd h g
theorem cmpO_zero {a b : Ob} (h : cmpO a b = 0) : a = b := by
  have k := orL_eq0 (l := cmpL a b) h
  unfold cmpL at k
  have e1 := cI_zero (k (cI a.t b.t) (by simp))
  have e2 := cS_zero (k (cS a.site b.site) (by simp))
  have e3 := cS_zero (k (cS a.name b.name) (by simp))
  have e4 := cI_zero (k (cI a.ra b.ra) (by simp))
  have e5 := cI_zero (k (cI a.dec b.dec) (by simp))
  have e6 := cI_zero (k (cI a.sg b.sg) (by simp))
  have e7 := cI_zero (k (cI a.mag b.mag) (by simp))
  have e8 := cI_zero (k (cI a.band b.band) (by simp))
  cases a; cases b
  simp only at e1 e2 e3 e4 e5 e6 e7 e8
  rw [e1, e2, e3, e4, e5, e6, e7, e8]
theorem cmpO_refl (a : Ob) : cmpO a a = 0 := by have := cmp_O.anti a a; omega
def ordL (x : List Ob) : Prop := x.Pairwise fun a b => cmpO a b ≤ 0
/-- What Sort returns. -/
def SortIs (l x : List Ob) (c : Int) : Prop := (allC l = 0 ∧ x.Perm l ∧ ordL x ∧ c = 0) ∨ (allC l ≠ 0 ∧ x = [] ∧ c = allC l)
theorem ordL_uniq {x y : List Ob} (hp : x.Perm y) (hx : ordL x) (hy : ordL y) : x = y :=
  List.Perm.eq_of_pairwise (le := fun a b => cmpO a b ≤ 0) (fun a b _ _ h1 h2 => cmpO_zero (by have := cmp_O.anti a b; omega)) hx hy hp
theorem SortIs.uniq {l x y : List Ob} {c d : Int} (a : SortIs l x c) (b : SortIs l y d) : x = y ∧ c = d := by
  rcases a with ⟨a1, a2, a3, a4⟩ | ⟨a1, a2, a3⟩ <;> rcases b with ⟨b1, b2, b3, b4⟩ | ⟨b1, b2, b3⟩
  · exact ⟨ordL_uniq (a2.trans b2.symm) a3 b3, by omega⟩
  · exact absurd a1 b1
  · exact absurd b1 a1
  · exact ⟨by rw [a2, b2], by omega⟩
end Op
end Go.Proofs.YtgodhaphbgllhaaGreatDoor
/-
  The walks of comparisons: number, text of the reference; cmp.Compare, cmp.Or.
-/
namespace Go.Proofs.YtgodhaphbgllhaaGreatDoor
namespace Ow
open Go.RowKit Lw Go.Proofs.YtgodhaphbgllhaaGreatDoor.Ap Go.Proofs.YtgodhaphbgllhaaGreatDoor.Op Go.Proofs.YtgodhaphbgllhaaGreatDoor.Mp Go.Proofs.YtgodhaphbgllhaaGreatDoor.Mw Go.Proofs.YtgodhaphbgllhaaGreatDoor.At

theorem bl_eq : ∀ (x y : List UInt8), Go.Op.bytesLess x y = decide (x < y)
  | [], [] => by simp [Go.Op.bytesLess]
  | _ :: _, [] => by simp [Go.Op.bytesLess]
  | [], _ :: _ => by simp [Go.Op.bytesLess]
  | a :: x, b :: y => by
    rw [Go.Op.bytesLess, bl_eq x y]
    by_cases h : a < b
    · simp [h, List.cons_lt_cons_iff]
    · by_cases g : a = b
      · subst g; simp [List.cons_lt_cons_iff]
      · simp [h, g, List.cons_lt_cons_iff]
theorem bl_t {x y : ByteArray} (h : x.data.toList < y.data.toList) : Go.Op.bytesLess x.toList y.toList = true := by rw [bl_eq, Lib.toList_data, Lib.toList_data]; exact decide_eq_true h
theorem bl_f {x y : ByteArray} (h : ¬ x.data.toList < y.data.toList) : Go.Op.bytesLess x.toList y.toList = false := by rw [bl_eq, Lib.toList_data, Lib.toList_data]; exact decide_eq_false h
theorem be_t {x y : ByteArray} (h : ¬ x.data.toList < y.data.toList) (g : ¬ y.data.toList < x.data.toList) : (x.toList == y.toList) = true := by
  rw [Lib.toList_data, Lib.toList_data, List.le_antisymm (List.not_lt.1 g) (List.not_lt.1 h)]; simp
theorem be_f {x y : ByteArray} (g : y.data.toList < x.data.toList) : (x.toList == y.toList) = false := by
  rw [Lib.toList_data, Lib.toList_data]
  exact beq_eq_false_iff_ne.2 fun e => by rw [e] at g; exact List.lt_irrefl _ g
theorem cI_m {x y : Int} (h : x < y) : cI x y = -1 := if_pos h
theorem cI_p {x y : Int} (h : ¬ x < y) (g : y < x) : cI x y = 1 := by unfold cI; rw [if_neg h, if_pos g]
theorem cI_z {x y : Int} (h : ¬ x < y) (g : ¬ y < x) : cI x y = 0 := by unfold cI; rw [if_neg h, if_neg g]
theorem cS_m {x y : ByteArray} (h : x.data.toList < y.data.toList) : cS x y = -1 := if_pos h
theorem cS_p {x y : ByteArray} (h : ¬ x.data.toList < y.data.toList) (g : y.data.toList < x.data.toList) : cS x y = 1 := by unfold cS; rw [if_neg h, if_pos g]
theorem cS_z {x y : ByteArray} (h : ¬ x.data.toList < y.data.toList) (g : ¬ y.data.toList < x.data.toList) : cS x y = 0 := by unfold cS; rw [if_neg h, if_neg g]
set_option maxRecDepth 100000 in
set_option maxHeartbeats 1000000 in
theorem number_any (x y : Int) (w : World) : Calls Tryz.prog 68 #[.int .i64 x, .int .i64 y] w fun e w' => e = .returned (.int .i64 (cI x y)) ∧ w = w' := by
  by_cases h : x < y
  · rw [cI_m h]
    go_enter Tryz.func68, Tryz.ntmps68
    go_wp2_with go_in
    go_ret
    exact ⟨rfl, rfl⟩
  · by_cases g : y < x
    · rw [cI_p h g]
      go_enter Tryz.func68, Tryz.ntmps68
      go_wp2_with go_in
      go_ret
      exact ⟨rfl, rfl⟩
    · rw [cI_z h g]
      go_enter Tryz.func68, Tryz.ntmps68
      go_wp2_with go_in
      go_ret
      exact ⟨rfl, rfl⟩
set_option maxRecDepth 100000 in
set_option maxHeartbeats 1000000 in
theorem text_any (x y : ByteArray) (w : World) : Calls Tryz.prog 69 #[.string x, .string y] w fun e w' => e = .returned (.int .i64 (cS x y)) ∧ w = w' := by
  by_cases h : x.data.toList < y.data.toList
  · rw [cS_m h]
    have f1 := bl_t h
    clear h
    go_enter Tryz.func69, Tryz.ntmps69
    go_wp2_with go_in
    go_ret
    exact ⟨rfl, rfl⟩
  · by_cases g : y.data.toList < x.data.toList
    · rw [cS_p h g]
      have f1 := bl_f h
      have f2 := be_f g
      clear h g
      go_enter Tryz.func69, Tryz.ntmps69
      go_wp2_with go_in
      go_ret
      exact ⟨rfl, rfl⟩
    · rw [cS_z h g]
      have f1 := bl_f h
      have f2 := be_t h g
      clear h g
      go_enter Tryz.func69, Tryz.ntmps69
      go_wp2_with go_in
      go_ret
      exact ⟨rfl, rfl⟩
set_option maxRecDepth 100000 in
set_option maxHeartbeats 1000000 in
theorem cmp64_any (x y : Int) (w : World) : Calls Tryz.prog 114 #[.int .i64 x, .int .i64 y] w fun e w' => e = .returned (.int .i64 (cI x y)) ∧ w = w' := by
  by_cases h : x < y
  · rw [cI_m h]
    go_enter Tryz.func114, Tryz.ntmps114
    go_wp2_with go_in
    go_ret
    exact ⟨rfl, rfl⟩
  · by_cases g : y < x
    · rw [cI_p h g]
      go_enter Tryz.func114, Tryz.ntmps114
      go_wp2_with go_in
      go_ret
      exact ⟨rfl, rfl⟩
    · rw [cI_z h g]
      go_enter Tryz.func114, Tryz.ntmps114
      go_wp2_with go_in
      go_ret
      exact ⟨rfl, rfl⟩
set_option maxRecDepth 100000 in
set_option maxHeartbeats 1000000 in
theorem cmpint_any (x y : Int) (w : World) : Calls Tryz.prog 116 #[.int .i64 x, .int .i64 y] w fun e w' => e = .returned (.int .i64 (cI x y)) ∧ w = w' := by
  by_cases h : x < y
  · rw [cI_m h]
    go_enter Tryz.func116, Tryz.ntmps116
    go_wp2_with go_in
    go_ret
    exact ⟨rfl, rfl⟩
  · by_cases g : y < x
    · rw [cI_p h g]
      go_enter Tryz.func116, Tryz.ntmps116
      go_wp2_with go_in
      go_ret
      exact ⟨rfl, rfl⟩
    · rw [cI_z h g]
      go_enter Tryz.func116, Tryz.ntmps116
      go_wp2_with go_in
      go_ret
      exact ⟨rfl, rfl⟩
set_option maxRecDepth 100000 in
set_option maxHeartbeats 1000000 in
theorem cmpbyte_any (x y : Int) (w : World) : Calls Tryz.prog 117 #[.int .u8 x, .int .u8 y] w fun e w' => e = .returned (.int .i64 (cI x y)) ∧ w = w' := by
  by_cases h : x < y
  · rw [cI_m h]
    go_enter Tryz.func117, Tryz.ntmps117
    go_wp2_with go_in
    go_ret
    exact ⟨rfl, rfl⟩
  · by_cases g : y < x
    · rw [cI_p h g]
      go_enter Tryz.func117, Tryz.ntmps117
      go_wp2_with go_in
      go_ret
      exact ⟨rfl, rfl⟩
    · rw [cI_z h g]
      go_enter Tryz.func117, Tryz.ntmps117
      go_wp2_with go_in
      go_ret
      exact ⟨rfl, rfl⟩
set_option maxRecDepth 100000 in
set_option maxHeartbeats 1000000 in
theorem cmpstr_any (x y : ByteArray) (w : World) : Calls Tryz.prog 115 #[.string x, .string y] w fun e w' => e = .returned (.int .i64 (cS x y)) ∧ w = w' := by
  by_cases h : x.data.toList < y.data.toList
  · rw [cS_m h]
    have f1 := bl_t h
    clear h
    go_enter Tryz.func115, Tryz.ntmps115
    go_wp2_with go_in
    go_ret
    exact ⟨rfl, rfl⟩
  · by_cases g : y.data.toList < x.data.toList
    · rw [cS_p h g]
      have f1 := bl_f h
      have f2 := be_f g
      clear h g
      go_enter Tryz.func115, Tryz.ntmps115
      go_wp2_with go_in
      go_ret
      exact ⟨rfl, rfl⟩
    · rw [cS_z h g]
      have f1 := bl_f h
      have f2 := be_t h g
      clear h g
      go_enter Tryz.func115, Tryz.ntmps115
      go_wp2_with go_in
      go_ret
      exact ⟨rfl, rfl⟩
set_option maxRecDepth 100000 in
set_option maxHeartbeats 4000000 in
theorem or_any (b cap : Nat) (l : List Int) (w : World) (hl : ∀ i (h : i < l.length), w.cell? ⟨b, i, none⟩ = some (.int .i64 (l[i]'h))) (hm : l.length ≤ 1000) :
    Calls Tryz.prog 113 #[.slice (some ⟨b, 0, none⟩) l.length cap] w fun e w' => e = .returned (.int .i64 (orL l)) ∧ w = w' := by
  have OA := Lib.hid (fun k (hk : k < l.length) (h : ∀ i (hi : i < l.length), i < k → l[i] = 0) (g : l[k] ≠ 0) => orL_at hk h g)
  have OZ := Lib.hid (fun (h : ∀ i (hi : i < l.length), l[i] = 0) => orL_zero h)
  have HL := Lib.hid hl
  generalize orL l = K at *
  obtain ⟨n, hnl⟩ : ∃ n, l.length = n := ⟨_, rfl⟩
  rw [hnl] at hm ⊢
  have NL := Lib.hid hnl
  clear hl hnl
  go_enter Tryz.func113, Tryz.ntmps113
  go_wp2_with fail
  go_loop [8] (fun i => ∃ k : Nat, k ≤ n ∧ i = .int .i64 k ∧ Hid (∀ j (h : j < l.length), j < k → l[j] = 0)) (fun i => n - (intOf i).toNat)
  case atStart => exact ⟨0, Nat.zero_le _, rfl, Lib.hid (fun j _ h => by omega)⟩
  case round =>
    obtain ⟨k, hk, rfl, D⟩ := hrel
    by_cases hlt : k < n
    · have hkl : k < l.length := by rw [NL.out]; exact hlt
      have c0 := HL.out k hkl
      have i1 : (k : Int) < (n : Int) := by omega
      by_cases hz : l[k] = 0
      · have DK := Lib.hid (show ∀ j (h : j < l.length), j < k + 1 → l[j] = 0 from fun j h hj => by
          by_cases e : j = k
          · subst e; exact hz
          · exact D.out j h (by omega))
        rw [hz] at c0
        clear D OA OZ hz
        go_wp2_with fail
        go_round
        case rel => exact ⟨k + 1, by omega, by go_num, DK⟩
        case measure => simp [intOf]; omega
      · have E := Lib.hid (OA.out k hkl D.out hz)
        generalize l[k]'hkl = v at *
        have hz2 : (v != 0) = true := by rw [bne, beq_eq_false_iff_ne.2 hz]; rfl
        clear D OA OZ
        go_wp2_with fail
        go_ret
        exact ⟨by rw [E.out]; rfl, rfl⟩
    · obtain rfl : k = n := by omega
      have E := Lib.hid (OZ.out (fun i hi => D.out i hi (by have := NL.out; omega)))
      clear OA OZ D
      go_wp2_with fail
      go_ret
      exact ⟨by rw [E.out]; rfl, rfl⟩
end Ow
end Go.Proofs.YtgodhaphbgllhaaGreatDoor
/-
  The walks of compare of obs, and of Compare of the reference.
-/
namespace Go.Proofs.YtgodhaphbgllhaaGreatDoor
namespace Ow
open Go.RowKit Lw Go.Proofs.YtgodhaphbgllhaaGreatDoor.Ap Go.Proofs.YtgodhaphbgllhaaGreatDoor.Op Go.Proofs.YtgodhaphbgllhaaGreatDoor.Mp Go.Proofs.YtgodhaphbgllhaaGreatDoor.Mw Go.Proofs.YtgodhaphbgllhaaGreatDoor.At Go.Sort

/-- The two boxes of a comparison. -/
structure CX (W0 : World) (b : Nat) (x y : Ob) (w : World) : Prop where
  at_ : ∃ m os, w = grow (W0.drewN m) os
  lt : b + 1 < w.heap.size
  rx : w.rangeAt b 0 (obsC x)
  ry : w.rangeAt (b + 1) 0 (obsC y)
theorem CX.drew {W0 w : World} {b : Nat} {x y : Ob} (h : CX W0 b x y w) : CX W0 b x y w.drew := by
  obtain ⟨m, os, e⟩ := h.at_
  have bl : Below w.heap.size w w.drew := (Below.refl _ _).drew
  exact ⟨⟨m + 1, os, by rw [e]; rfl⟩, h.lt, rangeAt_below h.rx bl (by have := h.lt; omega), rangeAt_below h.ry bl h.lt⟩
theorem CX.alloc {W0 w : World} {b : Nat} {x y : Ob} (h : CX W0 b x y w) (o : Obj) : CX W0 b x y (w.alloc o) := by
  obtain ⟨m, os, e⟩ := h.at_
  have bl : Below w.heap.size w (w.alloc o) := (Below.refl _ _).alloc (Nat.le_refl _) o
  exact ⟨⟨m, os ++ #[o], by rw [alloc_eq_grow, e, grow_grow]⟩, Nat.lt_of_lt_of_le h.lt bl.size, rangeAt_below h.rx bl (by have := h.lt; omega), rangeAt_below h.ry bl h.lt⟩
theorem CX.new (W : World) (x y : Ob) (t : TypeId) : CX W W.heap.size x y ((W.alloc (.cells (obsC x).toArray t)).alloc (.cells (obsC y).toArray t)) := by
  have b1 := (Below.refl (W.alloc (.cells (obsC x).toArray t)).heap.size (W.alloc (.cells (obsC x).toArray t))).alloc (Nat.le_refl _) (.cells (obsC y).toArray t)
  have e : (W.alloc (.cells (obsC x).toArray t)).heap.size = W.heap.size + 1 := by simp
  refine ⟨⟨0, #[.cells (obsC x).toArray t, .cells (obsC y).toArray t], ?_⟩, by simp, rangeAt_below (rangeAt_new W (obsC x) t) b1 (by simp), ?_⟩
  · rw [alloc_eq_grow, alloc_eq_grow, grow_grow]; rfl
  · have := rangeAt_new (W.alloc (.cells (obsC x).toArray t)) (obsC y) t
    rwa [e] at this
/-- The numbers of a comparison, as cells. -/
abbrev cmpC (x y : Ob) : List Value := [.int .i64 (cI x.t y.t), .int .i64 (cS x.site y.site), .int .i64 (cS x.name y.name), .int .i64 (cI x.ra y.ra), .int .i64 (cI x.dec y.dec), .int .i64 (cI x.sg y.sg), .int .i64 (cI x.mag y.mag), .int .i64 (cI x.band y.band)]
theorem cmpC_cell {b : Nat} {x y : Ob} {w : World} (h : w.rangeAt b 0 (cmpC x y)) : ∀ i (hi : i < (cmpL x y).length), w.cell? ⟨b, i, none⟩ = some (.int .i64 ((cmpL x y)[i]'hi)) := fun i hi => by
  have e : (cmpC x y)[i]? = some (.int .i64 ((cmpL x y)[i]'hi)) := by
    have : cmpC x y = (cmpL x y).map (Value.int .i64) := rfl
    rw [this, List.getElem?_map, List.getElem?_eq_getElem hi]; rfl
  have := h i _ e
  rwa [Nat.zero_add] at this
theorem row3 (w : World) (a b : Obj) (cs : List Value) (t : TypeId) : (((w.alloc a).alloc b).alloc (.cells cs.toArray t)).drew.rangeAt (w.heap.size + 1 + 1) 0 cs := by
  have h := rangeAt_new ((w.alloc a).alloc b) cs t
  have e : ((w.alloc a).alloc b).heap.size = w.heap.size + 1 + 1 := by simp
  rw [e] at h
  exact rangeAt_below h (Below.refl _ _).drew (by simp)
theorem or8 (b : Nat) (x y : Ob) (w : World) (h : w.rangeAt b 0 (cmpC x y)) : Calls Tryz.prog 113 #[.slice (some ⟨b, 0, none⟩) 8 8] w fun e w' => e = .returned (.int .i64 (cmpO x y)) ∧ w = w' := or_any b 8 (cmpL x y) w (cmpC_cell h) (by show 8 ≤ 1000; omega)
set_option maxRecDepth 100000 in
set_option maxHeartbeats 40000000 in
theorem compare_any (x y : Ob) (w : World) : Calls Tryz.prog 66 #[obsV x, obsV y] w fun e w' => e = .returned (.int .i64 (cmpO x y)) ∧ ∃ q os', w' = grow (w.drewN q) os' := by
  have L := Lib.hid (CX.new w x y 98)
  obtain ⟨n0, s0, t0, r0, d0, g0, m0, b0⟩ := x
  obtain ⟨n1, s1, t1, r1, d1, g1, m1, b1⟩ := y
  have OR := Lib.hid (fun b w' h => or8 b ⟨n0, s0, t0, r0, d0, g0, m0, b0⟩ ⟨n1, s1, t1, r1, d1, g1, m1, b1⟩ w' h)
  generalize cmpO ⟨n0, s0, t0, r0, d0, g0, m0, b0⟩ ⟨n1, s1, t1, r1, d1, g1, m1, b1⟩ = K at *
  go_enter Tryz.func66, Tryz.ntmps66
  go_wp2_with fail
  refine wp_region_held_drew (S := CX w w.heap.size ⟨n0, s0, t0, r0, d0, g0, m0, b0⟩ ⟨n1, s1, t1, r1, d1, g1, m1, b1⟩) (by kernel_rfl) L.out.drew (fun hHeld => ?_)
  clear L
  refine wpAnyH_take (i := 0) (oi := ?oi0x1) (v := ?v0x1) ?hi0x1 (by kernel_rfl) (by kernel_rfl) (by kernel_rfl) ?hq0x1 ?hy0x1 hHeld ?rest0x1
  case hi0x1 => ((try simp only [List.getElem?_toArray, List.getElem?_cons_succ, List.getElem?_cons_zero]); (try rfl))
  case hq0x1 => exact fun _ _ _ h => h
  case hy0x1 => exact Or.inl ⟨by rfl, by intro w hSw; clear hSw; go_simp; try with_reducible rfl⟩
  try simp only [Act.put, List.setIfInBounds_toArray, List.set_cons_zero, List.set_cons_succ]
  refine wpAnyH_take (i := 1) (oi := ?oi1x2) (v := ?v1x2) ?hi1x2 (by kernel_rfl) (by kernel_rfl) (by kernel_rfl) ?hq1x2 ?hy1x2 hHeld ?rest1x2
  case hi1x2 => ((try simp only [List.getElem?_toArray, List.getElem?_cons_succ, List.getElem?_cons_zero]); (try rfl))
  case hq1x2 => exact fun _ _ _ h => h
  case hy1x2 => exact Or.inl ⟨by rfl, by intro w hSw; have q := (CX.rx hSw) 2 _ rfl; clear hSw; simp only [Nat.zero_add] at q; go_simp; try with_reducible rfl⟩
  try simp only [Act.put, List.setIfInBounds_toArray, List.set_cons_zero, List.set_cons_succ]
  refine wpAnyH_take (i := 2) (oi := ?oi2x3) (v := ?v2x3) ?hi2x3 (by kernel_rfl) (by kernel_rfl) (by kernel_rfl) ?hq2x3 ?hy2x3 hHeld ?rest2x3
  case hi2x3 => ((try simp only [List.getElem?_toArray, List.getElem?_cons_succ, List.getElem?_cons_zero]); (try rfl))
  case hq2x3 => exact fun _ _ _ h => h
  case hy2x3 => exact Or.inl ⟨by rfl, by intro w hSw; clear hSw; go_simp; try with_reducible rfl⟩
  try simp only [Act.put, List.setIfInBounds_toArray, List.set_cons_zero, List.set_cons_succ]
  refine wpAnyH_take (i := 3) (oi := ?oi3x4) (v := ?v3x4) ?hi3x4 (by kernel_rfl) (by kernel_rfl) (by kernel_rfl) ?hq3x4 ?hy3x4 hHeld ?rest3x4
  case hi3x4 => ((try simp only [List.getElem?_toArray, List.getElem?_cons_succ, List.getElem?_cons_zero]); (try rfl))
  case hq3x4 => exact fun _ _ _ h => h
  case hy3x4 => exact Or.inl ⟨by rfl, by intro w hSw; have q := (CX.ry hSw) 2 _ rfl; clear hSw; simp only [Nat.zero_add] at q; go_simp; try with_reducible rfl⟩
  try simp only [Act.put, List.setIfInBounds_toArray, List.set_cons_zero, List.set_cons_succ]
  refine wpAnyH_take (i := 5) (oi := ?oi5x5) (v := ?v5x5) ?hi5x5 (by kernel_rfl) (by kernel_rfl) (by kernel_rfl) ?hq5x5 ?hy5x5 hHeld ?rest5x5
  case hi5x5 => ((try simp only [List.getElem?_toArray, List.getElem?_cons_succ, List.getElem?_cons_zero]); (try rfl))
  case hq5x5 => exact fun _ _ _ h => h
  case hy5x5 => exact Or.inl ⟨by rfl, by intro w hSw; clear hSw; go_simp; try with_reducible rfl⟩
  try simp only [Act.put, List.setIfInBounds_toArray, List.set_cons_zero, List.set_cons_succ]
  refine wpAnyH_take (i := 6) (oi := ?oi6x6) (v := ?v6x6) ?hi6x6 (by kernel_rfl) (by kernel_rfl) (by kernel_rfl) ?hq6x6 ?hy6x6 hHeld ?rest6x6
  case hi6x6 => ((try simp only [List.getElem?_toArray, List.getElem?_cons_succ, List.getElem?_cons_zero]); (try rfl))
  case hq6x6 => exact fun _ _ _ h => h
  case hy6x6 => exact Or.inl ⟨by rfl, by intro w hSw; have q := (CX.rx hSw) 1 _ rfl; clear hSw; simp only [Nat.zero_add] at q; go_simp; try with_reducible rfl⟩
  try simp only [Act.put, List.setIfInBounds_toArray, List.set_cons_zero, List.set_cons_succ]
  refine wpAnyH_take (i := 7) (oi := ?oi7x7) (v := ?v7x7) ?hi7x7 (by kernel_rfl) (by kernel_rfl) (by kernel_rfl) ?hq7x7 ?hy7x7 hHeld ?rest7x7
  case hi7x7 => ((try simp only [List.getElem?_toArray, List.getElem?_cons_succ, List.getElem?_cons_zero]); (try rfl))
  case hq7x7 => exact fun _ _ _ h => h
  case hy7x7 => exact Or.inl ⟨by rfl, by intro w hSw; clear hSw; go_simp; try with_reducible rfl⟩
  try simp only [Act.put, List.setIfInBounds_toArray, List.set_cons_zero, List.set_cons_succ]
  refine wpAnyH_take (i := 8) (oi := ?oi8x8) (v := ?v8x8) ?hi8x8 (by kernel_rfl) (by kernel_rfl) (by kernel_rfl) ?hq8x8 ?hy8x8 hHeld ?rest8x8
  case hi8x8 => ((try simp only [List.getElem?_toArray, List.getElem?_cons_succ, List.getElem?_cons_zero]); (try rfl))
  case hq8x8 => exact fun _ _ _ h => h
  case hy8x8 => exact Or.inl ⟨by rfl, by intro w hSw; have q := (CX.ry hSw) 1 _ rfl; clear hSw; simp only [Nat.zero_add] at q; go_simp; try with_reducible rfl⟩
  try simp only [Act.put, List.setIfInBounds_toArray, List.set_cons_zero, List.set_cons_succ]
  refine wpAnyH_take (i := 10) (oi := ?oi10x9) (v := ?v10x9) ?hi10x9 (by kernel_rfl) (by kernel_rfl) (by kernel_rfl) ?hq10x9 ?hy10x9 hHeld ?rest10x9
  case hi10x9 => ((try simp only [List.getElem?_toArray, List.getElem?_cons_succ, List.getElem?_cons_zero]); (try rfl))
  case hq10x9 => exact fun _ _ _ h => h
  case hy10x9 => exact Or.inl ⟨by rfl, by intro w hSw; clear hSw; go_simp; try with_reducible rfl⟩
  try simp only [Act.put, List.setIfInBounds_toArray, List.set_cons_zero, List.set_cons_succ]
  refine wpAnyH_take (i := 11) (oi := ?oi11x10) (v := ?v11x10) ?hi11x10 (by kernel_rfl) (by kernel_rfl) (by kernel_rfl) ?hq11x10 ?hy11x10 hHeld ?rest11x10
  case hi11x10 => ((try simp only [List.getElem?_toArray, List.getElem?_cons_succ, List.getElem?_cons_zero]); (try rfl))
  case hq11x10 => exact fun _ _ _ h => h
  case hy11x10 => exact Or.inl ⟨by rfl, by intro w hSw; have q := (CX.rx hSw) 0 _ rfl; clear hSw; simp only [Nat.zero_add] at q; go_simp; try with_reducible rfl⟩
  try simp only [Act.put, List.setIfInBounds_toArray, List.set_cons_zero, List.set_cons_succ]
  refine wpAnyH_take (i := 12) (oi := ?oi12x11) (v := ?v12x11) ?hi12x11 (by kernel_rfl) (by kernel_rfl) (by kernel_rfl) ?hq12x11 ?hy12x11 hHeld ?rest12x11
  case hi12x11 => ((try simp only [List.getElem?_toArray, List.getElem?_cons_succ, List.getElem?_cons_zero]); (try rfl))
  case hq12x11 => exact fun _ _ _ h => h
  case hy12x11 => exact Or.inl ⟨by rfl, by intro w hSw; clear hSw; go_simp; try with_reducible rfl⟩
  try simp only [Act.put, List.setIfInBounds_toArray, List.set_cons_zero, List.set_cons_succ]
  refine wpAnyH_take (i := 13) (oi := ?oi13x12) (v := ?v13x12) ?hi13x12 (by kernel_rfl) (by kernel_rfl) (by kernel_rfl) ?hq13x12 ?hy13x12 hHeld ?rest13x12
  case hi13x12 => ((try simp only [List.getElem?_toArray, List.getElem?_cons_succ, List.getElem?_cons_zero]); (try rfl))
  case hq13x12 => exact fun _ _ _ h => h
  case hy13x12 => exact Or.inl ⟨by rfl, by intro w hSw; have q := (CX.ry hSw) 0 _ rfl; clear hSw; simp only [Nat.zero_add] at q; go_simp; try with_reducible rfl⟩
  try simp only [Act.put, List.setIfInBounds_toArray, List.set_cons_zero, List.set_cons_succ]
  refine wpAnyH_take (i := 15) (oi := ?oi15x13) (v := ?v15x13) ?hi15x13 (by kernel_rfl) (by kernel_rfl) (by kernel_rfl) ?hq15x13 ?hy15x13 hHeld ?rest15x13
  case hi15x13 => ((try simp only [List.getElem?_toArray, List.getElem?_cons_succ, List.getElem?_cons_zero]); (try rfl))
  case hq15x13 => exact fun _ _ _ h => h
  case hy15x13 => exact Or.inl ⟨by rfl, by intro w hSw; clear hSw; go_simp; try with_reducible rfl⟩
  try simp only [Act.put, List.setIfInBounds_toArray, List.set_cons_zero, List.set_cons_succ]
  refine wpAnyH_take (i := 16) (oi := ?oi16x14) (v := ?v16x14) ?hi16x14 (by kernel_rfl) (by kernel_rfl) (by kernel_rfl) ?hq16x14 ?hy16x14 hHeld ?rest16x14
  case hi16x14 => ((try simp only [List.getElem?_toArray, List.getElem?_cons_succ, List.getElem?_cons_zero]); (try rfl))
  case hq16x14 => exact fun _ _ _ h => h
  case hy16x14 => exact Or.inl ⟨by rfl, by intro w hSw; have q := (CX.rx hSw) 3 _ rfl; clear hSw; simp only [Nat.zero_add] at q; go_simp; try with_reducible rfl⟩
  try simp only [Act.put, List.setIfInBounds_toArray, List.set_cons_zero, List.set_cons_succ]
  refine wpAnyH_take (i := 17) (oi := ?oi17x15) (v := ?v17x15) ?hi17x15 (by kernel_rfl) (by kernel_rfl) (by kernel_rfl) ?hq17x15 ?hy17x15 hHeld ?rest17x15
  case hi17x15 => ((try simp only [List.getElem?_toArray, List.getElem?_cons_succ, List.getElem?_cons_zero]); (try rfl))
  case hq17x15 => exact fun _ _ _ h => h
  case hy17x15 => exact Or.inl ⟨by rfl, by intro w hSw; clear hSw; go_simp; try with_reducible rfl⟩
  try simp only [Act.put, List.setIfInBounds_toArray, List.set_cons_zero, List.set_cons_succ]
  refine wpAnyH_take (i := 18) (oi := ?oi18x16) (v := ?v18x16) ?hi18x16 (by kernel_rfl) (by kernel_rfl) (by kernel_rfl) ?hq18x16 ?hy18x16 hHeld ?rest18x16
  case hi18x16 => ((try simp only [List.getElem?_toArray, List.getElem?_cons_succ, List.getElem?_cons_zero]); (try rfl))
  case hq18x16 => exact fun _ _ _ h => h
  case hy18x16 => exact Or.inl ⟨by rfl, by intro w hSw; have q := (CX.ry hSw) 3 _ rfl; clear hSw; simp only [Nat.zero_add] at q; go_simp; try with_reducible rfl⟩
  try simp only [Act.put, List.setIfInBounds_toArray, List.set_cons_zero, List.set_cons_succ]
  refine wpAnyH_take (i := 20) (oi := ?oi20x17) (v := ?v20x17) ?hi20x17 (by kernel_rfl) (by kernel_rfl) (by kernel_rfl) ?hq20x17 ?hy20x17 hHeld ?rest20x17
  case hi20x17 => ((try simp only [List.getElem?_toArray, List.getElem?_cons_succ, List.getElem?_cons_zero]); (try rfl))
  case hq20x17 => exact fun _ _ _ h => h
  case hy20x17 => exact Or.inl ⟨by rfl, by intro w hSw; clear hSw; go_simp; try with_reducible rfl⟩
  try simp only [Act.put, List.setIfInBounds_toArray, List.set_cons_zero, List.set_cons_succ]
  refine wpAnyH_take (i := 21) (oi := ?oi21x18) (v := ?v21x18) ?hi21x18 (by kernel_rfl) (by kernel_rfl) (by kernel_rfl) ?hq21x18 ?hy21x18 hHeld ?rest21x18
  case hi21x18 => ((try simp only [List.getElem?_toArray, List.getElem?_cons_succ, List.getElem?_cons_zero]); (try rfl))
  case hq21x18 => exact fun _ _ _ h => h
  case hy21x18 => exact Or.inl ⟨by rfl, by intro w hSw; have q := (CX.rx hSw) 4 _ rfl; clear hSw; simp only [Nat.zero_add] at q; go_simp; try with_reducible rfl⟩
  try simp only [Act.put, List.setIfInBounds_toArray, List.set_cons_zero, List.set_cons_succ]
  refine wpAnyH_take (i := 22) (oi := ?oi22x19) (v := ?v22x19) ?hi22x19 (by kernel_rfl) (by kernel_rfl) (by kernel_rfl) ?hq22x19 ?hy22x19 hHeld ?rest22x19
  case hi22x19 => ((try simp only [List.getElem?_toArray, List.getElem?_cons_succ, List.getElem?_cons_zero]); (try rfl))
  case hq22x19 => exact fun _ _ _ h => h
  case hy22x19 => exact Or.inl ⟨by rfl, by intro w hSw; clear hSw; go_simp; try with_reducible rfl⟩
  try simp only [Act.put, List.setIfInBounds_toArray, List.set_cons_zero, List.set_cons_succ]
  refine wpAnyH_take (i := 23) (oi := ?oi23x20) (v := ?v23x20) ?hi23x20 (by kernel_rfl) (by kernel_rfl) (by kernel_rfl) ?hq23x20 ?hy23x20 hHeld ?rest23x20
  case hi23x20 => ((try simp only [List.getElem?_toArray, List.getElem?_cons_succ, List.getElem?_cons_zero]); (try rfl))
  case hq23x20 => exact fun _ _ _ h => h
  case hy23x20 => exact Or.inl ⟨by rfl, by intro w hSw; have q := (CX.ry hSw) 4 _ rfl; clear hSw; simp only [Nat.zero_add] at q; go_simp; try with_reducible rfl⟩
  try simp only [Act.put, List.setIfInBounds_toArray, List.set_cons_zero, List.set_cons_succ]
  refine wpAnyH_take (i := 25) (oi := ?oi25x21) (v := ?v25x21) ?hi25x21 (by kernel_rfl) (by kernel_rfl) (by kernel_rfl) ?hq25x21 ?hy25x21 hHeld ?rest25x21
  case hi25x21 => ((try simp only [List.getElem?_toArray, List.getElem?_cons_succ, List.getElem?_cons_zero]); (try rfl))
  case hq25x21 => exact fun _ _ _ h => h
  case hy25x21 => exact Or.inl ⟨by rfl, by intro w hSw; clear hSw; go_simp; try with_reducible rfl⟩
  try simp only [Act.put, List.setIfInBounds_toArray, List.set_cons_zero, List.set_cons_succ]
  refine wpAnyH_take (i := 26) (oi := ?oi26x22) (v := ?v26x22) ?hi26x22 (by kernel_rfl) (by kernel_rfl) (by kernel_rfl) ?hq26x22 ?hy26x22 hHeld ?rest26x22
  case hi26x22 => ((try simp only [List.getElem?_toArray, List.getElem?_cons_succ, List.getElem?_cons_zero]); (try rfl))
  case hq26x22 => exact fun _ _ _ h => h
  case hy26x22 => exact Or.inl ⟨by rfl, by intro w hSw; have q := (CX.rx hSw) 5 _ rfl; clear hSw; simp only [Nat.zero_add] at q; go_simp; try with_reducible rfl⟩
  try simp only [Act.put, List.setIfInBounds_toArray, List.set_cons_zero, List.set_cons_succ]
  refine wpAnyH_take (i := 27) (oi := ?oi27x23) (v := ?v27x23) ?hi27x23 (by kernel_rfl) (by kernel_rfl) (by kernel_rfl) ?hq27x23 ?hy27x23 hHeld ?rest27x23
  case hi27x23 => ((try simp only [List.getElem?_toArray, List.getElem?_cons_succ, List.getElem?_cons_zero]); (try rfl))
  case hq27x23 => exact fun _ _ _ h => h
  case hy27x23 => exact Or.inl ⟨by rfl, by intro w hSw; clear hSw; go_simp; try with_reducible rfl⟩
  try simp only [Act.put, List.setIfInBounds_toArray, List.set_cons_zero, List.set_cons_succ]
  refine wpAnyH_take (i := 28) (oi := ?oi28x24) (v := ?v28x24) ?hi28x24 (by kernel_rfl) (by kernel_rfl) (by kernel_rfl) ?hq28x24 ?hy28x24 hHeld ?rest28x24
  case hi28x24 => ((try simp only [List.getElem?_toArray, List.getElem?_cons_succ, List.getElem?_cons_zero]); (try rfl))
  case hq28x24 => exact fun _ _ _ h => h
  case hy28x24 => exact Or.inl ⟨by rfl, by intro w hSw; have q := (CX.ry hSw) 5 _ rfl; clear hSw; simp only [Nat.zero_add] at q; go_simp; try with_reducible rfl⟩
  try simp only [Act.put, List.setIfInBounds_toArray, List.set_cons_zero, List.set_cons_succ]
  refine wpAnyH_take (i := 30) (oi := ?oi30x25) (v := ?v30x25) ?hi30x25 (by kernel_rfl) (by kernel_rfl) (by kernel_rfl) ?hq30x25 ?hy30x25 hHeld ?rest30x25
  case hi30x25 => ((try simp only [List.getElem?_toArray, List.getElem?_cons_succ, List.getElem?_cons_zero]); (try rfl))
  case hq30x25 => exact fun _ _ _ h => h
  case hy30x25 => exact Or.inl ⟨by rfl, by intro w hSw; clear hSw; go_simp; try with_reducible rfl⟩
  try simp only [Act.put, List.setIfInBounds_toArray, List.set_cons_zero, List.set_cons_succ]
  refine wpAnyH_take (i := 31) (oi := ?oi31x26) (v := ?v31x26) ?hi31x26 (by kernel_rfl) (by kernel_rfl) (by kernel_rfl) ?hq31x26 ?hy31x26 hHeld ?rest31x26
  case hi31x26 => ((try simp only [List.getElem?_toArray, List.getElem?_cons_succ, List.getElem?_cons_zero]); (try rfl))
  case hq31x26 => exact fun _ _ _ h => h
  case hy31x26 => exact Or.inl ⟨by rfl, by intro w hSw; have q := (CX.rx hSw) 6 _ rfl; clear hSw; simp only [Nat.zero_add] at q; go_simp; try with_reducible rfl⟩
  try simp only [Act.put, List.setIfInBounds_toArray, List.set_cons_zero, List.set_cons_succ]
  refine wpAnyH_take (i := 32) (oi := ?oi32x27) (v := ?v32x27) ?hi32x27 (by kernel_rfl) (by kernel_rfl) (by kernel_rfl) ?hq32x27 ?hy32x27 hHeld ?rest32x27
  case hi32x27 => ((try simp only [List.getElem?_toArray, List.getElem?_cons_succ, List.getElem?_cons_zero]); (try rfl))
  case hq32x27 => exact fun _ _ _ h => h
  case hy32x27 => exact Or.inl ⟨by rfl, by intro w hSw; clear hSw; go_simp; try with_reducible rfl⟩
  try simp only [Act.put, List.setIfInBounds_toArray, List.set_cons_zero, List.set_cons_succ]
  refine wpAnyH_take (i := 33) (oi := ?oi33x28) (v := ?v33x28) ?hi33x28 (by kernel_rfl) (by kernel_rfl) (by kernel_rfl) ?hq33x28 ?hy33x28 hHeld ?rest33x28
  case hi33x28 => ((try simp only [List.getElem?_toArray, List.getElem?_cons_succ, List.getElem?_cons_zero]); (try rfl))
  case hq33x28 => exact fun _ _ _ h => h
  case hy33x28 => exact Or.inl ⟨by rfl, by intro w hSw; have q := (CX.ry hSw) 6 _ rfl; clear hSw; simp only [Nat.zero_add] at q; go_simp; try with_reducible rfl⟩
  try simp only [Act.put, List.setIfInBounds_toArray, List.set_cons_zero, List.set_cons_succ]
  refine wpAnyH_take (i := 35) (oi := ?oi35x29) (v := ?v35x29) ?hi35x29 (by kernel_rfl) (by kernel_rfl) (by kernel_rfl) ?hq35x29 ?hy35x29 hHeld ?rest35x29
  case hi35x29 => ((try simp only [List.getElem?_toArray, List.getElem?_cons_succ, List.getElem?_cons_zero]); (try rfl))
  case hq35x29 => exact fun _ _ _ h => h
  case hy35x29 => exact Or.inl ⟨by rfl, by intro w hSw; clear hSw; go_simp; try with_reducible rfl⟩
  try simp only [Act.put, List.setIfInBounds_toArray, List.set_cons_zero, List.set_cons_succ]
  refine wpAnyH_take (i := 36) (oi := ?oi36x30) (v := ?v36x30) ?hi36x30 (by kernel_rfl) (by kernel_rfl) (by kernel_rfl) ?hq36x30 ?hy36x30 hHeld ?rest36x30
  case hi36x30 => ((try simp only [List.getElem?_toArray, List.getElem?_cons_succ, List.getElem?_cons_zero]); (try rfl))
  case hq36x30 => exact fun _ _ _ h => h
  case hy36x30 => exact Or.inl ⟨by rfl, by intro w hSw; have q := (CX.rx hSw) 7 _ rfl; clear hSw; simp only [Nat.zero_add] at q; go_simp; try with_reducible rfl⟩
  try simp only [Act.put, List.setIfInBounds_toArray, List.set_cons_zero, List.set_cons_succ]
  refine wpAnyH_take (i := 37) (oi := ?oi37x31) (v := ?v37x31) ?hi37x31 (by kernel_rfl) (by kernel_rfl) (by kernel_rfl) ?hq37x31 ?hy37x31 hHeld ?rest37x31
  case hi37x31 => ((try simp only [List.getElem?_toArray, List.getElem?_cons_succ, List.getElem?_cons_zero]); (try rfl))
  case hq37x31 => exact fun _ _ _ h => h
  case hy37x31 => exact Or.inl ⟨by rfl, by intro w hSw; clear hSw; go_simp; try with_reducible rfl⟩
  try simp only [Act.put, List.setIfInBounds_toArray, List.set_cons_zero, List.set_cons_succ]
  refine wpAnyH_take (i := 38) (oi := ?oi38x32) (v := ?v38x32) ?hi38x32 (by kernel_rfl) (by kernel_rfl) (by kernel_rfl) ?hq38x32 ?hy38x32 hHeld ?rest38x32
  case hi38x32 => ((try simp only [List.getElem?_toArray, List.getElem?_cons_succ, List.getElem?_cons_zero]); (try rfl))
  case hq38x32 => exact fun _ _ _ h => h
  case hy38x32 => exact Or.inl ⟨by rfl, by intro w hSw; have q := (CX.ry hSw) 7 _ rfl; clear hSw; simp only [Nat.zero_add] at q; go_simp; try with_reducible rfl⟩
  try simp only [Act.put, List.setIfInBounds_toArray, List.set_cons_zero, List.set_cons_succ]
  refine wpAnyH_ready (rs := [4]) (by kernel_rfl) (by simp) ?_
  refine AllReadyH.cons rfl (fun K' hK => ?_) AllReadyH.nil
  have H1 := Lib.hid hHeld
  clear hHeld
  go_simp
  refine (cmp64_any _ _ _).mono ?_
  rintro e w9 ⟨rfl, rfl⟩
  refine hK.out _ _ H1.out (fun hHeld => ?_)
  clear hK H1
  try simp only [Act.put, List.setIfInBounds_toArray, List.set_cons_zero, List.set_cons_succ]
  refine wpAnyH_ready (rs := [9]) (by kernel_rfl) (by simp) ?_
  refine AllReadyH.cons rfl (fun K' hK => ?_) AllReadyH.nil
  have H1 := Lib.hid hHeld
  clear hHeld
  go_simp
  refine (cmpstr_any _ _ _).mono ?_
  rintro e w9 ⟨rfl, rfl⟩
  refine hK.out _ _ H1.out (fun hHeld => ?_)
  clear hK H1
  try simp only [Act.put, List.setIfInBounds_toArray, List.set_cons_zero, List.set_cons_succ]
  refine wpAnyH_ready (rs := [14]) (by kernel_rfl) (by simp) ?_
  refine AllReadyH.cons rfl (fun K' hK => ?_) AllReadyH.nil
  have H1 := Lib.hid hHeld
  clear hHeld
  go_simp
  refine (cmpstr_any _ _ _).mono ?_
  rintro e w9 ⟨rfl, rfl⟩
  refine hK.out _ _ H1.out (fun hHeld => ?_)
  clear hK H1
  try simp only [Act.put, List.setIfInBounds_toArray, List.set_cons_zero, List.set_cons_succ]
  refine wpAnyH_ready (rs := [19]) (by kernel_rfl) (by simp) ?_
  refine AllReadyH.cons rfl (fun K' hK => ?_) AllReadyH.nil
  have H1 := Lib.hid hHeld
  clear hHeld
  go_simp
  refine (cmp64_any _ _ _).mono ?_
  rintro e w9 ⟨rfl, rfl⟩
  refine hK.out _ _ H1.out (fun hHeld => ?_)
  clear hK H1
  try simp only [Act.put, List.setIfInBounds_toArray, List.set_cons_zero, List.set_cons_succ]
  refine wpAnyH_ready (rs := [24]) (by kernel_rfl) (by simp) ?_
  refine AllReadyH.cons rfl (fun K' hK => ?_) AllReadyH.nil
  have H1 := Lib.hid hHeld
  clear hHeld
  go_simp
  refine (cmp64_any _ _ _).mono ?_
  rintro e w9 ⟨rfl, rfl⟩
  refine hK.out _ _ H1.out (fun hHeld => ?_)
  clear hK H1
  try simp only [Act.put, List.setIfInBounds_toArray, List.set_cons_zero, List.set_cons_succ]
  refine wpAnyH_ready (rs := [29]) (by kernel_rfl) (by simp) ?_
  refine AllReadyH.cons rfl (fun K' hK => ?_) AllReadyH.nil
  have H1 := Lib.hid hHeld
  clear hHeld
  go_simp
  refine (cmp64_any _ _ _).mono ?_
  rintro e w9 ⟨rfl, rfl⟩
  refine hK.out _ _ H1.out (fun hHeld => ?_)
  clear hK H1
  try simp only [Act.put, List.setIfInBounds_toArray, List.set_cons_zero, List.set_cons_succ]
  refine wpAnyH_ready (rs := [34]) (by kernel_rfl) (by simp) ?_
  refine AllReadyH.cons rfl (fun K' hK => ?_) AllReadyH.nil
  have H1 := Lib.hid hHeld
  clear hHeld
  go_simp
  refine (cmpint_any _ _ _).mono ?_
  rintro e w9 ⟨rfl, rfl⟩
  refine hK.out _ _ H1.out (fun hHeld => ?_)
  clear hK H1
  try simp only [Act.put, List.setIfInBounds_toArray, List.set_cons_zero, List.set_cons_succ]
  refine wpAnyH_ready (rs := [39]) (by kernel_rfl) (by simp) ?_
  refine AllReadyH.cons rfl (fun K' hK => ?_) AllReadyH.nil
  have H1 := Lib.hid hHeld
  clear hHeld
  go_simp
  refine (cmpbyte_any _ _ _).mono ?_
  rintro e w9 ⟨rfl, rfl⟩
  refine hK.out _ _ H1.out (fun hHeld => ?_)
  clear hK H1
  try simp only [Act.put, List.setIfInBounds_toArray, List.set_cons_zero, List.set_cons_succ]
  refine wpAnyH_ready (rs := [40]) (by kernel_rfl) (by simp) ?_
  refine AllReadyH.cons rfl (fun K' hK => ?_) AllReadyH.nil
  have H1 := Lib.hid hHeld
  clear hHeld
  go_simp
  refine hK.out _ _ (H1.out.alloc _) (fun hHeld => ?_)
  clear hK H1
  try simp only [Act.put, List.setIfInBounds_toArray, List.set_cons_zero, List.set_cons_succ]
  refine wpAnyH_ready (rs := [41]) (by kernel_rfl) (by simp) ?_
  refine AllReadyH.cons rfl (fun K' hK => ?_) AllReadyH.nil
  have H1 := Lib.hid hHeld
  clear hHeld
  go_simp
  refine (OR.out _ _ ?ro).mono ?_
  case ro => exact row3 _ _ _ (cmpC ⟨n0, s0, t0, r0, d0, g0, m0, b0⟩ ⟨n1, s1, t1, r1, d1, g1, m1, b1⟩) _
  rintro e w9 ⟨rfl, rfl⟩
  refine hK.out _ _ H1.out (fun hHeld => ?_)
  clear hK H1 OR
  try simp only [Act.put, List.setIfInBounds_toArray, List.set_cons_zero, List.set_cons_succ]
  refine wpAnyH_take (i := 42) (oi := ?oi42x33) (v := ?v42x33) ?hi42x33 (by kernel_rfl) (by kernel_rfl) (by kernel_rfl) ?hq42x33 ?hy42x33 hHeld ?rest42x33
  case hi42x33 => ((try simp only [List.getElem?_toArray, List.getElem?_cons_succ, List.getElem?_cons_zero]); (try rfl))
  case hq42x33 => exact fun _ _ _ h => h
  case hy42x33 => exact Or.inl ⟨by rfl, by intro w hSw; clear hSw; go_simp; try with_reducible rfl⟩
  try simp only [Act.put, List.setIfInBounds_toArray, List.set_cons_zero, List.set_cons_succ]
  refine wpAnyH_done (by kernel_rfl) ?_ _
  have XF := Lib.hid hHeld.at_
  clear hHeld
  go_wp2_with fail
  go_ret
  exact ⟨rfl, XF.out⟩
end Ow
end Go.Proofs.YtgodhaphbgllhaaGreatDoor
