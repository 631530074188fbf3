/-
  Lemmas and walks, texts joined: KSameC, KCat, KMem, KWrAll, KRNum, KRLine, DRParse, KRHalf, KRCd.
-/
import Derived.Deep.RegionHeld3
import Derived.Lib.Join
import Derived.Lib.ItoaLen
import Derived.Deep.MidRow
import Derived.Shelf.Strings.BuilderK
import Derived.Lib.OthersKept
import Derived.StillTailTactics
import Derived.Test.YtafeigpmldgifaaDoorKt09
import Derived.Test.YtafeigpmldgifaaDoorKt07
import Derived.Test.YtafeigpmldgifaaDoorKt10
import Derived.Test.YtafeigpmldgifaaDoorKt02
import Derived.Test.YtafeigpmldgifaaDoorKt08
import Derived.Test.YtafeigpmldgifaaDoorKt03
import Derived.Test.YtafeigpmldgifaaDoorKt05
set_option linter.unusedSimpArgs false
set_option linter.unusedVariables false
/-
  SameChanges and Great of the reference of merge; two digests compared.
-/
namespace Go.Proofs.YtafeigpmldgifaaDoor
namespace Cgw
open Go.RowKit Lw Go.Proofs.YtafeigpmldgifaaDoor.Dp Go.Proofs.YtafeigpmldgifaaDoor.Cgp Go.Proofs.YtafeigpmldgifaaDoor.Arw

set_option maxRecDepth 100000 in
set_option maxHeartbeats 40000000 in
theorem samec_any (x y : Option Addr) (c d : Nat) (l : List Cg) (w : World) (hx : ChA w x l) (hy : ChA w y l) (hm : l.length ≤ 1000000) :
    Calls Tryd.prog 15 #[.slice x l.length c, .slice y l.length d] w fun e w' => e = .returned (.bool true) ∧ Below w.heap.size w w' := by
  have HX := Lib.hid (fun w' (h : Below w.heap.size w w') => hx.below h)
  have HY := Lib.hid (fun w' (h : Below w.heap.size w w') => hy.below h)
  obtain ⟨n, hnl⟩ : ∃ n, l.length = n := ⟨_, rfl⟩
  rw [hnl] at hm ⊢
  have NL := Lib.hid hnl
  clear hx hy hnl
  go_enter Tryd.func15, Tryd.ntmps15
  go_wp2_with fail
  go_loopw [5] (fun i wr => ∃ k : Nat, k ≤ n ∧ i = .int .i64 k ∧ Hid (Below w.heap.size w wr)) (fun i _ => n - (intOf i).toNat)
  case atStart => exact ⟨0, Nat.zero_le _, rfl, Lib.hid (Below.refl _ _)⟩
  case round =>
    obtain ⟨k, hk, rfl, B⟩ := hrel
    by_cases hlt : k < n
    · have hkl : k < l.length := by rw [NL.out]; exact hlt
      obtain ⟨b1, o1, rfl, lt1, row1⟩ := (HX.out _ B.out).get hkl
      obtain ⟨b2, o2, rfl, lt2, row2⟩ := (HY.out _ B.out).get hkl
      have R1 := Lib.hid row1
      have R2 := Lib.hid row2
      have i1 : (k : Int) < (n : Int) := by omega
      have i0 : (0 : Int) ≤ (k : Int) := by omega
      have BD := Lib.hid (B.out.trans ((Below.refl _ _).drew.mono B.out.size))
      obtain ⟨o, ho⟩ : ∃ o, l[k] = o := ⟨_, rfl⟩
      have Q1 := Lib.hid (show wr.drew.rangeAt b1 (o1 + k * 12) (cgC o) by rw [← ho]; exact rangeAt_below row1 (Below.refl _ _).drew lt1)
      have Q2 := Lib.hid (show wr.drew.rangeAt b2 (o2 + k * 12) (cgC o) by rw [← ho]; exact rangeAt_below row2 (Below.refl _ _).drew lt2)
      clear row1 row2 R1 R2 lt1 lt2 ho
      go_wp2_with fail
      refine wp_region_held_drew (S := fun w' => w' = wr.drew) (by kernel_rfl) rfl (fun hHeld => ?_)
      refine wpAnyH_take (i := 0) (oi := ?oi0x1) (v := ?v0x1) ?hi0x1 (by kernel_rfl) (by kernel_rfl) (by kernel_rfl) ?hq0x1 ?hy0x1 hHeld ?rest0x1
      case hi0x1 => ((try simp only [List.getElem?_toArray, List.getElem?_cons_succ, List.getElem?_cons_zero]); (try rfl))
      case hq0x1 => exact fun _ _ _ h => h
      case hy0x1 => exact Or.inl ⟨by rfl, by intro w hSw; clear hSw; go_simp; try with_reducible rfl⟩
      try simp only [Act.put, List.setIfInBounds_toArray, List.set_cons_zero, List.set_cons_succ]
      refine wpAnyH_take (i := 1) (oi := ?oi1x2) (v := ?v1x2) ?hi1x2 (by kernel_rfl) (by kernel_rfl) (by kernel_rfl) ?hq1x2 ?hy1x2 hHeld ?rest1x2
      case hi1x2 => ((try simp only [List.getElem?_toArray, List.getElem?_cons_succ, List.getElem?_cons_zero]); (try rfl))
      case hq1x2 => exact fun _ _ _ h => h
      case hy1x2 => exact Or.inl ⟨by rfl, by intro w hSw; clear hSw; go_simp; try with_reducible rfl⟩
      try simp only [Act.put, List.setIfInBounds_toArray, List.set_cons_zero, List.set_cons_succ]
      refine wpAnyH_take (i := 2) (oi := ?oi2x3) (v := ?v2x3) ?hi2x3 (by kernel_rfl) (by kernel_rfl) (by kernel_rfl) ?hq2x3 ?hy2x3 hHeld ?rest2x3
      case hi2x3 => ((try simp only [List.getElem?_toArray, List.getElem?_cons_succ, List.getElem?_cons_zero]); (try rfl))
      case hq2x3 => exact fun _ _ _ h => h
      case hy2x3 => exact Or.inl ⟨by rfl, by intro w hSw; clear hSw; go_simp; try with_reducible rfl⟩
      try simp only [Act.put, List.setIfInBounds_toArray, List.set_cons_zero, List.set_cons_succ]
      refine wpAnyH_take (i := 3) (oi := ?oi3x4) (v := ?v3x4) ?hi3x4 (by kernel_rfl) (by kernel_rfl) (by kernel_rfl) ?hq3x4 ?hy3x4 hHeld ?rest3x4
      case hi3x4 => ((try simp only [List.getElem?_toArray, List.getElem?_cons_succ, List.getElem?_cons_zero]); (try rfl))
      case hq3x4 => exact fun _ _ _ h => h
      case hy3x4 => 
        refine' yieldsIf_load_mid ?_ 52 (.tmp 19) ?_ b1 (o1 + k * 12) ?_ (cgC o) _ ?_ Tryd.underlying52 ?_ infoCg
        · rfl
        · rfl
        · rfl
        · exact fun _ h => by rw [h]; exact Q1.out
        · rfl
      try simp only [Act.put, List.setIfInBounds_toArray, List.set_cons_zero, List.set_cons_succ]
      refine wpAnyH_take (i := 4) (oi := ?oi4x5) (v := ?v4x5) ?hi4x5 (by kernel_rfl) (by kernel_rfl) (by kernel_rfl) ?hq4x5 ?hy4x5 hHeld ?rest4x5
      case hi4x5 => ((try simp only [List.getElem?_toArray, List.getElem?_cons_succ, List.getElem?_cons_zero]); (try rfl))
      case hq4x5 => exact fun _ _ _ h => h
      case hy4x5 => exact Or.inl ⟨by rfl, by intro w hSw; clear hSw; go_simp; try with_reducible rfl⟩
      try simp only [Act.put, List.setIfInBounds_toArray, List.set_cons_zero, List.set_cons_succ]
      refine wpAnyH_take (i := 5) (oi := ?oi5x6) (v := ?v5x6) ?hi5x6 (by kernel_rfl) (by kernel_rfl) (by kernel_rfl) ?hq5x6 ?hy5x6 hHeld ?rest5x6
      case hi5x6 => ((try simp only [List.getElem?_toArray, List.getElem?_cons_succ, List.getElem?_cons_zero]); (try rfl))
      case hq5x6 => exact fun _ _ _ h => h
      case hy5x6 => exact Or.inl ⟨by rfl, by intro w hSw; clear hSw; go_simp; try with_reducible rfl⟩
      try simp only [Act.put, List.setIfInBounds_toArray, List.set_cons_zero, List.set_cons_succ]
      refine wpAnyH_take (i := 6) (oi := ?oi6x7) (v := ?v6x7) ?hi6x7 (by kernel_rfl) (by kernel_rfl) (by kernel_rfl) ?hq6x7 ?hy6x7 hHeld ?rest6x7
      case hi6x7 => ((try simp only [List.getElem?_toArray, List.getElem?_cons_succ, List.getElem?_cons_zero]); (try rfl))
      case hq6x7 => exact fun _ _ _ h => h
      case hy6x7 => exact Or.inl ⟨by rfl, by intro w hSw; clear hSw; go_simp; try with_reducible rfl⟩
      try simp only [Act.put, List.setIfInBounds_toArray, List.set_cons_zero, List.set_cons_succ]
      refine wpAnyH_take (i := 7) (oi := ?oi7x8) (v := ?v7x8) ?hi7x8 (by kernel_rfl) (by kernel_rfl) (by kernel_rfl) ?hq7x8 ?hy7x8 hHeld ?rest7x8
      case hi7x8 => ((try simp only [List.getElem?_toArray, List.getElem?_cons_succ, List.getElem?_cons_zero]); (try rfl))
      case hq7x8 => exact fun _ _ _ h => h
      case hy7x8 => 
        refine' yieldsIf_load_mid ?_ 52 (.tmp 23) ?_ b2 (o2 + k * 12) ?_ (cgC o) _ ?_ Tryd.underlying52 ?_ infoCg
        · rfl
        · rfl
        · rfl
        · exact fun _ h => by rw [h]; exact Q2.out
        · rfl
      try simp only [Act.put, List.setIfInBounds_toArray, List.set_cons_zero, List.set_cons_succ]
      refine wpAnyH_take (i := 8) (oi := ?oi8x9) (v := ?v8x9) ?hi8x9 (by kernel_rfl) (by kernel_rfl) (by kernel_rfl) ?hq8x9 ?hy8x9 hHeld ?rest8x9
      case hi8x9 => ((try simp only [List.getElem?_toArray, List.getElem?_cons_succ, List.getElem?_cons_zero]); (try rfl))
      case hq8x9 => exact fun _ _ _ h => h
      case hy8x9 => exact Or.inl ⟨by rfl, by intro w hSw; clear hSw; go_simp; try with_reducible rfl⟩
      try simp only [Act.put, List.setIfInBounds_toArray, List.set_cons_zero, List.set_cons_succ]
      refine wpAnyH_done (by kernel_rfl) ?_ _
      clear hHeld Q1 Q2
      go_wp2_with fail
      go_roundw
      case rel => exact ⟨k + 1, by omega, by go_num, BD⟩
      case measure => simp [intOf]; omega
    · obtain rfl : k = n := by omega
      clear HX HY
      go_wp2_with fail
      go_ret
      exact ⟨rfl, B.out⟩
set_option maxRecDepth 100000 in
set_option maxHeartbeats 4000000 in
theorem greatc_any (x : Option Addr) (n cap : Nat) (w : World) (hm : n ≤ 9223372036854775807) :
    Calls Tryd.prog 4 #[.slice x n cap] w fun e w' => ((e = .returned (.bool true)) ∨ (e = .returned (.bool false) ∧ n ≤ 510)) ∧ w = w' := by
  by_cases h1 : 25 < n
  · have i1 : (25 : Int) < (n : Int) := by omega
    by_cases h2 : n ≤ 500
    · have i2 : (n : Int) ≤ 500 := by omega
      go_enter Tryd.func4, Tryd.ntmps4
      go_wp2_with fail
      go_ret
      exact ⟨Or.inl rfl, rfl⟩
    · have i2 : ¬ (n : Int) ≤ 500 := by omega
      by_cases h3 : 510 < n
      · have i3 : (510 : Int) < (n : Int) := by omega
        go_enter Tryd.func4, Tryd.ntmps4
        go_wp2_with fail
        go_ret
        exact ⟨Or.inl rfl, rfl⟩
      · have i3 : ¬ (510 : Int) < (n : Int) := by omega
        go_enter Tryd.func4, Tryd.ntmps4
        go_wp2_with fail
        go_ret
        exact ⟨Or.inr ⟨rfl, by omega⟩, rfl⟩
  · have i1 : ¬ (25 : Int) < (n : Int) := by omega
    have i3 : ¬ (510 : Int) < (n : Int) := by omega
    go_enter Tryd.func4, Tryd.ntmps4
    go_wp2_with fail
    go_ret
    exact ⟨Or.inr ⟨rfl, by omega⟩, rfl⟩
end Cgw
end Go.Proofs.YtafeigpmldgifaaDoor
/-
  Plain law of catalogues: the text of a catalogue; no walk here.
-/
namespace Go.Proofs.YtafeigpmldgifaaDoor
namespace Kp
open Go.RowKit Lw Go.Proofs.YtafeigpmldgifaaDoor.Dp Go.Proofs.YtafeigpmldgifaaDoor.Op

/-- An object with its observations. -/
structure Fl where
  pr : Dg
  al : List Dg
  ob : List Ob
/-- A catalogue. -/
structure Ct where
  fl : List Fl
  rest : List Ob
  notes : List ByteArray
def okF (f : Fl) : Prop := f.al ≠ [] ∧ (∀ d ∈ f.al, okG d) ∧ ∀ o ∈ f.ob, okO o
def okC (c : Ct) : Prop := (∀ f ∈ c.fl, okF f) ∧ ∀ o ∈ c.rest, okO o
/-- The names of an object, one after another. -/
def eqS : List UInt8 := [32, 61, 32]
def headS (l : List Dg) : ByteArray := ⟨([42, 32] ++ Lib.join (l.map textG) eqS ++ [10]).toArray⟩
/-- The text of the first k objects. -/
def ObjTo (l : List Fl) : Nat → ByteArray → Prop
  | 0, s => s = ByteArray.empty
  | k + 1, s => ∃ a f t, ObjTo l k a ∧ l[k]? = some f ∧ LinesTo f.ob f.ob.length t ∧ s = (a ++ headS f.al) ++ t
theorem ObjTo.uniq {l : List Fl} : ∀ {k : Nat} {s s' : ByteArray}, ObjTo l k s → ObjTo l k s' → s = s'
  | 0, _, _, h, h' => h.trans h'.symm
  | _ + 1, _, _, ⟨_, _, _, h1, h2, h3, h4⟩, ⟨_, _, _, g1, g2, g3, g4⟩ => by
    obtain rfl := ObjTo.uniq h1 g1
    obtain rfl := Option.some.inj (h2.symm.trans g2)
    obtain rfl := h3.uniq g3
    rw [h4, g4]
def starS : ByteArray := ⟨#[42, 10]⟩
def hashS : ByteArray := ⟨#[35, 32]⟩
def noteS (n : ByteArray) : ByteArray := (hashS ++ n) ++ nlS
def notesTo (l : List ByteArray) (s : ByteArray) : Nat → ByteArray
  | 0 => s
  | k + 1 => notesTo l s k ++ (match l[k]? with | some n => noteS n | none => ByteArray.empty)
theorem notesTo_step {l : List ByteArray} (s : ByteArray) {k : Nat} (h : k < l.length) : notesTo l s (k + 1) = notesTo l s k ++ noteS l[k] := by
  rw [notesTo, List.getElem?_eq_getElem h]
/-- What Print gives. -/
def CatIs (c : Ct) (s : ByteArray) (k : Int) : Prop := (okC c ∧ (∃ a t, ObjTo c.fl c.fl.length a ∧ LinesTo c.rest c.rest.length t ∧ s = notesTo c.notes ((a ++ starS) ++ t) c.notes.length) ∧ k = 0) ∨ (¬ okC c ∧ s = ByteArray.empty ∧ k = 8)
theorem CatIs.uniq {c : Ct} {s s' : ByteArray} {k k' : Int} (a : CatIs c s k) (b : CatIs c s' k') : s = s' ∧ k = k' := by
  rcases a with ⟨a1, ⟨x, t, a2, a3, a4⟩, a5⟩ | ⟨a1, a2, a3⟩ <;> rcases b with ⟨b1, ⟨x', t', b2, b3, b4⟩, b5⟩ | ⟨b1, b2, b3⟩
  · obtain rfl := a2.uniq b2
    obtain rfl := a3.uniq b3
    exact ⟨by rw [a4, b4], by omega⟩
  · exact absurd a1 b1
  · exact absurd b1 a1
  · exact ⟨by rw [a2, b2], by omega⟩
/-- Sizes. -/
def maxTxt : Nat := 60
theorem tail_len3 (l : List (List UInt8)) (h : ∀ x ∈ l, x.length ≤ maxTxt) : (Lib.joinTail eqS l).length ≤ l.length * 63 := by
  induction l with
  | nil => exact Nat.le_refl _
  | cons a r ih =>
    have h1 := h a (List.mem_cons_self)
    have h2 := ih (fun x hx => h x (List.mem_cons_of_mem _ hx))
    have e3 : eqS.length = 3 := rfl
    simp only [Lib.joinTail, List.map_cons, List.flatten_cons, List.length_append, List.length_cons, e3] at h2 ⊢
    unfold maxTxt at h1
    omega
theorem join_len (l : List (List UInt8)) (h : ∀ x ∈ l, x.length ≤ maxTxt) : (Lib.join l eqS).length ≤ l.length * 63 := by
  cases l with
  | nil => exact Nat.zero_le _
  | cons a r =>
    have h1 := h a (List.mem_cons_self)
    have h2 := tail_len3 r (fun x hx => h x (List.mem_cons_of_mem _ hx))
    rw [Lib.join_cons, List.length_append, List.length_cons]
    unfold maxTxt at h1
    omega
theorem join_snoc (a : List UInt8) (l : List (List UInt8)) (x sep : List UInt8) : Lib.join (a :: (l ++ [x])) sep = Lib.join (a :: l) sep ++ (sep ++ x) := by
  rw [Lib.join_cons, Lib.join_cons, Lib.joinTail, Lib.joinTail, List.map_append, List.flatten_append]
  simp [List.append_assoc]
theorem text_short {d : Dg} (g : okG d) : (textG d).length ≤ maxTxt := by
  unfold textG
  have hb := okD_bd g
  by_cases hn : 0 < d.n
  · rw [if_pos hn]
    have := Lib.itoa_length_le d.n (by omega) (by omega)
    unfold maxTxt
    omega
  · rw [if_neg hn]
    have hy : 1800 ≤ d.y ∧ d.y ≤ 2099 ∧ 0 ≤ d.c ∧ d.c ≤ 619 := by
      have g2 : okD d.n d.y d.h d.s d.c := g
      unfold okD at g2
      omega
    have h1 := Lib.itoa_length_le d.y (by omega) (by omega)
    have h2 := Lib.itoa_length_le d.c (by omega) (by omega)
    have h3 : (if 0 < d.c then Lib.itoa d.c else []).length ≤ 21 := by
      split
      · exact h2
      · exact Nat.zero_le _
    simp only [List.length_append, List.length_cons, List.length_nil]
    unfold maxTxt
    omega
end Kp
end Go.Proofs.YtafeigpmldgifaaDoor
/-
  Catalogues in memory; lines of archive, of the program and of the reference.
-/
namespace Go.Proofs.YtafeigpmldgifaaDoor
namespace Kw
open Go.RowKit Lw Go.Proofs.YtafeigpmldgifaaDoor.Op Go.Proofs.YtafeigpmldgifaaDoor.Ow Go.Proofs.YtafeigpmldgifaaDoor.Kp Go.Proofs.YtafeigpmldgifaaDoor.Dp

abbrev dgC (d : Dg) : List Value := Dw.desigC d.n d.y d.h d.s d.c
/-- Designations, one behind another. -/
def DlA (w : World) (x : Option Addr) (l : List Dg) : Prop := l = [] ∨ ∃ b off, x = some ⟨b, off, none⟩ ∧ b < w.heap.size ∧ ∀ i (h : i < l.length), w.rangeAt b (off + i * 5) (dgC (l[i]'h))
theorem DlA.below {w w' : World} {x : Option Addr} {l : List Dg} (h : DlA w x l) (hb : Below w.heap.size w w') : DlA w' x l := by
  rcases h with h | ⟨b, off, h1, h2, h3⟩
  · exact Or.inl h
  · exact Or.inr ⟨b, off, h1, Nat.lt_of_lt_of_le h2 hb.size, fun i hi => rangeAt_below (h3 i hi) hb h2⟩
/-- Strings, one behind another. -/
def TxA (w : World) (x : Option Addr) (l : List ByteArray) : Prop := l = [] ∨ ∃ b off, x = some ⟨b, off, none⟩ ∧ b < w.heap.size ∧ ∀ i (h : i < l.length), w.rangeAt b (off + i) [.string (l[i]'h)]
theorem TxA.below {w w' : World} {x : Option Addr} {l : List ByteArray} (h : TxA w x l) (hb : Below w.heap.size w w') : TxA w' x l := by
  rcases h with h | ⟨b, off, h1, h2, h3⟩
  · exact Or.inl h
  · exact Or.inr ⟨b, off, h1, Nat.lt_of_lt_of_le h2 hb.size, fun i hi => rangeAt_below (h3 i hi) hb h2⟩
/-- An object's cells. -/
abbrev flC (f : Fl) (xa : Option Addr) (ca : Nat) (xo : Option Addr) (co : Nat) : List Value := [.int .i64 f.pr.n, .int .i64 f.pr.y, .int .u8 f.pr.h, .int .u8 f.pr.s, .int .i64 f.pr.c, .slice xa f.al.length ca, .slice xo f.ob.length co]
def FlAt (w : World) (b off : Nat) (f : Fl) : Prop := ∃ xa ca xo co, w.rangeAt b off (flC f xa ca xo co) ∧ DlA w xa f.al ∧ SlA w xo f.ob
theorem FlAt.below {w w' : World} {b off : Nat} {f : Fl} (h : FlAt w b off f) (hb : Below w.heap.size w w') (lt : b < w.heap.size) : FlAt w' b off f := by
  obtain ⟨xa, ca, xo, co, h1, h2, h3⟩ := h
  exact ⟨xa, ca, xo, co, rangeAt_below h1 hb lt, h2.below hb, h3.below hb⟩
def FlA (w : World) (x : Option Addr) (l : List Fl) : Prop := l = [] ∨ ∃ b off, x = some ⟨b, off, none⟩ ∧ b < w.heap.size ∧ ∀ i (h : i < l.length), FlAt w b (off + i * 7) (l[i]'h)
theorem FlA.below {w w' : World} {x : Option Addr} {l : List Fl} (h : FlA w x l) (hb : Below w.heap.size w w') : FlA w' x l := by
  rcases h with h | ⟨b, off, h1, h2, h3⟩
  · exact Or.inl h
  · exact Or.inr ⟨b, off, h1, Nat.lt_of_lt_of_le h2 hb.size, fun i hi => (h3 i hi).below hb h2⟩
/-- A catalogue's cells. -/
structure CtA (w : World) (c : Ct) (x1 : Option Addr) (c1 : Nat) (x2 : Option Addr) (c2 : Nat) (x3 : Option Addr) (c3 : Nat) : Prop where
  fl : FlA w x1 c.fl
  rest : SlA w x2 c.rest
  notes : TxA w x3 c.notes
theorem CtA.below {w w' : World} {c : Ct} {x1 x2 x3 : Option Addr} {c1 c2 c3 : Nat} (h : CtA w c x1 c1 x2 c2 x3 c3) (hb : Below w.heap.size w w') : CtA w' c x1 c1 x2 c2 x3 c3 := ⟨h.fl.below hb, h.rest.below hb, h.notes.below hb⟩
/-- Bounds of what lies there. -/
structure CtB (c : Ct) : Prop where
  dg : ∀ f ∈ c.fl, ∀ d ∈ f.al, 0 ≤ d.h ∧ d.h < 256 ∧ 0 ≤ d.s ∧ d.s < 256
  ob : ∀ f ∈ c.fl, OBs f.ob
  rest : OBs c.rest
theorem linesTo_ok {l : List Ob} : ∀ {k : Nat} {s : ByteArray}, LinesTo l k s → ∀ i, i < k → ∃ o, l[i]? = some o ∧ okO o
  | 0, _, _, i, hi => absurd hi (Nat.not_lt_zero i)
  | k + 1, _, ⟨_, b, o, h1, h2, h3, _⟩, i, hi => by
    by_cases e : i = k
    · subst e
      refine ⟨o, h2, ?_⟩
      rcases h3 with ⟨ok, _⟩ | ⟨_, _, h⟩
      · exact ok
      · exact absurd h (by decide)
    · exact linesTo_ok h1 i (by omega)
theorem linesTo_all {l : List Ob} {s : ByteArray} (h : LinesTo l l.length s) : ∀ o ∈ l, okO o := fun o ho => by
  obtain ⟨i, hi, rfl⟩ := List.getElem_of_mem ho
  obtain ⟨o', e, ok⟩ := linesTo_ok h i hi
  rw [List.getElem?_eq_getElem hi] at e
  obtain rfl := Option.some.inj e
  exact ok
theorem print_c {o : Ob} {s : ByteArray} {c : Int} (h : PrintIs o s c) : (okO o ∧ c = 0 ∧ PrintIs o s 0) ∨ (¬ okO o ∧ c = 8) := by
  rcases h with ⟨h1, h2, rfl⟩ | ⟨h1, h2, rfl⟩
  · exact Or.inl ⟨h1, rfl, Or.inl ⟨h1, h2, rfl⟩⟩
  · exact Or.inr ⟨h1, rfl⟩
theorem ownsRowF_below {w w' : World} {base : Nat} {e : TypeId} {size : Nat} {v : Value} {n : Nat} {xs : List Value} (h : w.ownsRowF base e size v n xs) (hb : Below w.heap.size w w') : w'.ownsRowF base e size v n xs := by
  obtain ⟨h1, h2⟩ := h
  refine ⟨h1, ?_⟩
  rcases h2 with h2 | ⟨g, cap, cur, fz, hv, hg, hh, r⟩
  · exact Or.inl h2
  · refine Or.inr ⟨g, cap, cur, fz, hv, hg, ?_, r⟩
    have lt : g < w.heap.size := by
      rcases Nat.lt_or_ge g w.heap.size with h | h
      · exact h
      · rw [Array.getElem?_eq_none h] at hh; cases hh
    rw [hb.block g lt]; exact hh
theorem builderF_below {w w' : World} {T e : TypeId} {B b : Nat} {bs : List Value} (h : Lib.IsBuilderF T e B b bs w) (hb : Below w.heap.size w w') : Lib.IsBuilderF T e B b bs w' := by
  have key : ∀ p, Lib.BuilderAtF T e B b p bs w → Lib.BuilderAtF T e B b p bs w' := fun p ⟨h0, v, hh, ho, hn⟩ => by
    have lt : b < w.heap.size := by
      rcases Nat.lt_or_ge b w.heap.size with h | h
      · exact h
      · rw [Array.getElem?_eq_none h] at hh; cases hh
    exact ⟨h0, v, by rw [hb.block b lt]; exact hh, ownsRowF_below ho hb, hn⟩
  exact h.elim (fun x => Or.inl (key _ x)) (fun x => Or.inr (key _ x))
/-- A builder that holds a string; what it writes leaves all else as it is. -/
def Bk (B : Nat) (s : ByteArray) (w : World) : Prop := Lib.IsBuilderF 60 5 B B (Lib.byteCells s.data.toList) w ∧ B < w.heap.size
theorem Bk.below {B : Nat} {s : ByteArray} {w w' : World} (h : Bk B s w) (hb : Below w.heap.size w w') : Bk B s w' := ⟨builderF_below h.1 hb, Nat.lt_of_lt_of_le h.2 hb.size⟩
theorem Bk.new (w : World) : Bk w.heap.size ByteArray.empty (w.alloc (.cells #[.pointer none, .slice none 0 0] 60)) :=
  ⟨Lib.IsBuilderF.of (Bd.new w).1, by simp⟩
/-- All but the builder's blocks is as it was. -/
def Ok8 (B : Nat) (w w' : World) : Prop := Lib.OthersKept 5 (some B) w w'
theorem Ok8.refl (B : Nat) (w : World) : Ok8 B w w := fun _ _ h _ _ => h
theorem Ok8.trans {B : Nat} {a c d : World} (h : Ok8 B a c) (k : Ok8 B c d) : Ok8 B a d := fun i o hi hb ho => k i o (h i o hi hb ho) hb ho
theorem Ok8.of {B : Nat} {w w' : World} (hb : Below w.heap.size w w') : Ok8 B w w' := fun k o hk _ _ => by
  have lt : k < w.heap.size := by
    rcases Nat.lt_or_ge k w.heap.size with h | h
    · exact h
    · rw [Array.getElem?_eq_none h] at hk; cases hk
  rw [hb.block k lt]; exact hk
theorem bk_write {B : Nat} {s t : ByteArray} {w : World} (h : Bk B s w) (hl : s.size + t.size ≤ 140737488355328) : Calls Tryd.prog 21 #[.pointer (some ⟨B, 0, none⟩), .string t] w fun e w' => e = .returned (.tuple #[.int .i64 t.size, .nilIface]) ∧ Bk B (s ++ t) w' ∧ Below B w w' ∧ Ok8 B w w' := by
  refine (Any.Builder_WriteString_k Tryd.lays105b_166 Tryd.Builder_Extra_105b B B (Lib.byteCells s.data.toList) t w h.1 (by rw [Lib.byteCells_length, ← size_L]; exact hl) (Nat.le_of_lt h.2)).mono ?_
  rintro e w' ⟨rfl, hB, hb, ho⟩
  refine ⟨rfl, ⟨Or.inr ?_, Nat.lt_of_lt_of_le h.2 hb.size⟩, hb, ho⟩
  have e : Lib.byteCells (s ++ t).data.toList = Lib.byteCells s.data.toList ++ Lib.strCells t := by
    rw [Lib.strCells_eq, ← Lib.byteCells_append]
    congr 1
  rw [e]
  exact hB
theorem bk_str {B : Nat} {s : ByteArray} {w : World} (h : Bk B s w) : Calls Tryd.prog 22 #[.pointer (some ⟨B, 0, none⟩)] w fun e w' => e = .returned (.string s) ∧ Below B w w' := by
  refine (Any.Builder_String_any_f Tryd.lays105b_169 Tryd.Builder_Extra_105b B B s.data.toList w h.1 (Nat.le_of_lt h.2)).mono ?_
  rintro e w' ⟨rfl, -, hb⟩
  exact ⟨by rw [mk_toL], hb⟩
def LinesPost (l : List Ob) (B : Nat) (s : ByteArray) (w : World) (e : Ending) (w' : World) : Prop :=
  ((∃ t, LinesTo l l.length t ∧ e = .returned (.int .i64 0) ∧ Bk B (s ++ t) w') ∨ ((¬ ∀ o ∈ l, okO o) ∧ e = .returned (.int .i64 8))) ∧ Below B w w' ∧ Ok8 B w w'
end Kw
end Go.Proofs.YtafeigpmldgifaaDoor
/-
  The walk of WriteChanges of archive.
-/
namespace Go.Proofs.YtafeigpmldgifaaDoor
namespace Cgw
open Go.RowKit Lw Go.Proofs.YtafeigpmldgifaaDoor.Dp Go.Proofs.YtafeigpmldgifaaDoor.Cgp Go.Proofs.YtafeigpmldgifaaDoor.Arw

def WrAllPost (l : List Cg) (w : World) (e : Ending) (w' : World) : Prop := ∃ (s : ByteArray) (k : Int), e = .returned (.tuple #[.string s, .int .i64 k]) ∧ WrAllIs l s.data.toList k ∧ Below w.heap.size w w'
/-- What stands written of the first k changes. -/
def Wrote (l : List Cg) (k : Nat) (s : ByteArray) : Prop := (∀ c ∈ l.take k, okC c) ∧ s.data.toList = flatC (l.take k) ∧ s.size ≤ 300 * k
theorem Wrote.nil (l : List Cg) : Wrote l 0 ByteArray.empty := ⟨fun _ h => by simp at h, by simp [flatC], by decide⟩
theorem Wrote.next {l : List Cg} {k : Nat} {s t : ByteArray} (h : Wrote l k s) (hk : k < l.length) (ok : okC (l[k]'hk)) (ht : t.data.toList = lineC (l[k]'hk) ++ [10]) : Wrote l (k + 1) (s ++ t) := by
  obtain ⟨h1, h2, h3⟩ := h
  have e : l.take (k + 1) = l.take k ++ [l[k]'hk] := by simp
  have zt : t.size ≤ 101 := by
    have := line_le ok
    have z : t.data.toList.length = t.size := rfl
    rw [ht, List.length_append] at z
    simp at z
    omega
  refine ⟨fun c hc => ?_, ?_, by rw [ByteArray.size_append]; omega⟩
  · rw [e] at hc
    rcases List.mem_append.1 hc with hc | hc
    · exact h1 c hc
    · rw [List.mem_singleton.1 hc]; exact ok
  · rw [e, flatC_snoc, ← ht, ← h2]
    simp
theorem Wrote.all {l : List Cg} {s : ByteArray} (h : Wrote l l.length s) (hl : l.length ≤ 500) : WrAllIs l s.data.toList 0 := by
  obtain ⟨h1, h2, _⟩ := h
  rw [List.take_length] at h1 h2
  exact Or.inr (Or.inr ⟨hl, h1, h2, rfl⟩)
set_option maxRecDepth 100000 in
set_option maxHeartbeats 8000000 in
theorem wrall_any (x : Option Addr) (cap : Nat) (l : List Cg) (w : World) (hT : Dw.Tb w) (hl : ChA w x l) (hm : l.length ≤ 1000000) (hb : ∀ c ∈ l, CB c) :
    Calls Tryd.prog 9 #[.slice x l.length cap] w (WrAllPost l w) := by
  have HL := Lib.hid (fun w' (h : Below w.heap.size w w') => hl.below h)
  have HT := Lib.hid (fun w' (h : Below w.heap.size w w') => hT.below h)
  have WR := Lib.hid (fun i (h : i < l.length) w' (g : Dw.Tb w') => wrch_any (l[i]'h) w' g (hb _ (List.getElem_mem h)))
  obtain ⟨n, hnl⟩ : ∃ n, l.length = n := ⟨_, rfl⟩
  rw [hnl] at hm ⊢
  by_cases h5 : 500 < n
  · have F := Lib.hid (show WrAllIs l [] 4 from Or.inl ⟨by omega, rfl, rfl⟩)
    have i5 : (500 : Int) < (n : Int) := by omega
    clear hl hb hT hnl HL HT WR
    go_enter Tryd.func9, Tryd.ntmps9
    go_wp2_with fail
    go_ret2
    exact ⟨_, 4, rfl, F.out, Below.refl _ _⟩
  · have i5 : ¬ (500 : Int) < (n : Int) := by omega
    have FIN : Hid (∀ s, Wrote l n s → WrAllIs l s.data.toList 0) := Lib.hid (fun s h => Wrote.all (by rw [hnl]; exact h) (by omega))
    have NO : Hid (∀ i (h : i < l.length), ¬ okC (l[i]'h) → WrAllIs l [] 8) := Lib.hid (fun i h g => Or.inr (Or.inl ⟨by omega, ⟨_, List.getElem_mem h, g⟩, rfl, rfl⟩))
    have NL := Lib.hid hnl
    have D0 := Lib.hid (Kw.Bk.new w)
    have B0 := Lib.hid ((Below.refl w.heap.size w).alloc (Nat.le_refl _) (.cells #[.pointer none, .slice none 0 0] 60))
    clear hl hT hb hnl h5
    go_enter Tryd.func9, Tryd.ntmps9
    go_wp2_with fail
    go_loopw [14] (fun i wr => ∃ k : Nat, k ≤ n ∧ i = .int .i64 k ∧ Hid (∃ t, Wrote l k t ∧ Kw.Bk w.heap.size t wr) ∧ Hid (Below w.heap.size w wr)) (fun i _ => n - (intOf i).toNat)
    case atStart => exact ⟨0, Nat.zero_le _, rfl, Lib.hid ⟨_, Wrote.nil l, D0.out⟩, B0⟩
    case round =>
      obtain ⟨k, hk, rfl, D, X⟩ := hrel
      clear D0 B0
      obtain ⟨t, ht, hd⟩ := D.out
      have TT := Lib.hid ht
      have zt := ht.2.2
      have HD := Lib.hid hd
      clear D ht hd
      by_cases hlt : k < n
      · have hkl : k < l.length := by rw [NL.out]; exact hlt
        obtain ⟨b, off, rfl, lt, row⟩ := (HL.out _ X.out).get hkl
        have R := Lib.hid row
        have WRk := Lib.hid (WR.out k hkl)
        have NOk := Lib.hid (NO.out k hkl)
        have ST : Hid (∀ u : ByteArray, okC (l[k]'hkl) → u.data.toList = lineC (l[k]'hkl) ++ [10] → Wrote l (k + 1) (t ++ u)) := Lib.hid (fun u ok h => TT.out.next hkl ok h)
        have i1 : (k : Int) < (n : Int) := by omega
        clear FIN row lt WR NO TT
        generalize l[k]'hkl = o at *
        have bx := (Below.refl wr.heap.size wr).alloc (Nat.le_refl _) (.cells (cgC o).toArray 52)
        have X0 := Lib.hid (Rw.new wr (cgC o) 52)
        have X1 := Lib.hid (below_then X.out bx)
        have D1 := Lib.hid (HD.out.below bx)
        have T1 := Lib.hid (HT.out _ X1.out)
        clear X bx HD
        go_wp2_with (first | (refine wpList_store_new rfl _ (.tmp 6) (.tmp 17) rfl _ _ rfl rfl infoCg rfl ?_ ?_; simp [Value.oneCell']) | (refine wpList_load_mid rfl _ (.tmp 16) rfl b (off + k * 12) rfl (cgC o) _ R.out Tryd.underlying52 rfl infoCg ?_) | (refine wpList_load_mid rfl _ (.tmp 6) rfl wr.heap.size 0 rfl (cgC o) _ X0.out.row Tryd.underlying52 rfl infoCg ?_))
        refine (WRk.out _ T1.out).mono ?_
        rintro e w2 ⟨u, c, rfl, hP, hb2⟩
        have B2 := Lib.hid (below_then X1.out hb2)
        have D2 := Lib.hid (D1.out.below hb2)
        clear hb2 X1 T1 D1 WRk X0 R
        rcases hP with ⟨ok, hu, rfl⟩ | ⟨no, _, rfl⟩
        · have ST2 := Lib.hid (ST.out u ok hu)
          have zu : u.size ≤ 101 := by
            have := line_le ok
            have z : u.data.toList.length = u.size := rfl
            rw [hu, List.length_append] at z
            simp at z
            omega
          clear hu ST ok NOk
          go_wp2_with fail
          refine (Kw.bk_write D2.out (t := u) (by omega)).mono ?_
          rintro e w3 ⟨rfl, hd3, hb3, _⟩
          have B3 := Lib.hid (B2.out.trans hb3)
          have D3 := Lib.hid hd3
          clear hd3 hb3 D2 B2
          go_wp2_with fail
          go_roundw
          case rel => exact ⟨k + 1, by omega, by go_num, Lib.hid ⟨_, ST2.out, D3.out⟩, B3⟩
          case measure => simp [intOf]; omega
        · have N2 := Lib.hid (NOk.out no)
          clear ST no NOk
          go_wp2_with fail
          go_ret2
          exact ⟨_, 8, rfl, N2.out, B2.out⟩
      · obtain rfl : k = n := by omega
        have F := Lib.hid (FIN.out t TT.out)
        have i1 : ¬ (k : Int) < (k : Int) := by omega
        clear FIN NO TT HL HT WR NL
        go_wp2_with fail
        refine (Kw.bk_str HD.out).mono ?_
        rintro e w3 ⟨rfl, hb3⟩
        have B3 := Lib.hid (X.out.trans hb3)
        clear X hb3 HD
        go_wp2_with fail
        go_ret2
        exact ⟨t, 0, rfl, F.out, B3.out⟩
end Cgw
end Go.Proofs.YtafeigpmldgifaaDoor
/-
  The walks of decimal, behind and number of the reference.
-/
namespace Go.Proofs.YtafeigpmldgifaaDoor
namespace Cgw
open Go.RowKit Lw Go.Proofs.YtafeigpmldgifaaDoor.Dp Go.Proofs.YtafeigpmldgifaaDoor.Cgp Go.Proofs.YtafeigpmldgifaaDoor.Arw

def decS : ByteArray := ⟨#[48, 49, 50, 51, 52, 53, 54, 55, 56, 57]⟩
theorem decS_ext : ∀ a : Nat, a < 10 → decS.extract a (a + 1) = ⟨#[UInt8.ofNat (48 + a)]⟩ := by decide
def strLen : Value → Nat
  | .string s => s.size
  | _ => 0
set_option maxRecDepth 100000 in
set_option maxHeartbeats 4000000 in
theorem rdecimal_any (m : Nat) (hm : m ≤ 9223372036854775807) (w : World) :
    Calls Tryd.prog 40 #[.int .i64 (m : Int)] w fun e w' => e = .returned (.string (strL (Lib.itoa (m : Int)))) ∧ Below w.heap.size w w' := by
  rw [itoa_nat]
  go_enter Tryd.func40, Tryd.ntmps40
  go_wp2_with fail
  go_loopw [0, 3] (fun v u wr => ∃ (n : Nat) (S : ByteArray), v = .int .i64 (n : Int) ∧ u = .string S ∧ n ≤ m ∧ Hid (Lib.decDigits m = Lib.decDigits n ++ S.data.toList) ∧ Hid (Below w.heap.size w wr)) (fun v _ _ => (intOf v).toNat)
  case atStart => exact ⟨m, ByteArray.empty, rfl, rfl, Nat.le_refl _, Lib.hid (by simp), Lib.hid (Below.refl _ _)⟩
  case round =>
    obtain ⟨n, S, rfl, rfl, hn, HD, B⟩ := hrel
    have zS : S.size ≤ 30 := by
      have h1 := congrArg List.length HD.out
      have h2 := itoa_le m hm
      rw [itoa_nat] at h2
      rw [List.length_append] at h1
      have h3 : S.data.toList.length = S.size := rfl
      omega
    obtain ⟨a, ha⟩ : ∃ a, n % 10 = a := ⟨_, rfl⟩
    obtain ⟨q, hq⟩ : ∃ q, n / 10 = q := ⟨_, rfl⟩
    have a10 : a < 10 := by omega
    have a1 : (n : Int) % 10 = (a : Int) := by omega
    have q1 : (n : Int) / 10 = (q : Int) := by omega
    have xe := decS_ext a a10
    obtain ⟨T, hT⟩ : ∃ T, (⟨#[48, 49, 50, 51, 52, 53, 54, 55, 56, 57]⟩ : ByteArray).extract a (a + 1) ++ S = T := ⟨_, rfl⟩
    have TL : T.data.toList = UInt8.ofNat (48 + a) :: S.data.toList := by
      rw [← hT]
      change (decS.extract a (a + 1) ++ S).data.toList = _
      rw [xe]
      simp
    have b1 : (0 : Int) ≤ (a : Int) ∧ (a : Int) + 1 ≤ 10 := by omega
    have zT : T.size = S.size + 1 := by
      show T.data.toList.length = S.data.toList.length + 1
      rw [TL]; rfl
    by_cases q0 : q = 0
    · have DE : Hid (strL (Lib.decDigits m) = T) := Lib.hid (by
        rw [HD.out, Lib.decDigits_one (by omega), show n = a by omega]
        apply ByteArray.ext
        apply Array.ext'
        rw [TL]
        rfl)
      have e0 : ((q : Int) == 0) = true := by rw [q0]; rfl
      clear HD TL xe ha hq q0 zT
      go_wp2_with fail
      go_ret
      exact ⟨by rw [DE.out]; rfl, B.out⟩
    · have DE : Hid (Lib.decDigits m = Lib.decDigits q ++ T.data.toList) := Lib.hid (by
        rw [HD.out, Lib.decDigits, dif_neg (by omega), ha, hq, TL]
        simp)
      have e0 : ((q : Int) == 0) = false := beq_eq_false_iff_ne.2 (by omega)
      have zq : q < n := by omega
      have qm : q ≤ m := by omega
      clear HD TL xe ha
      go_wp2_with fail
      go_roundw
      case rel => exact ⟨q, T, rfl, rfl, qm, DE, B⟩
      case measure => simp [intOf]; omega
theorem beh_app (a b : ByteArray) (t : List UInt8) (h : a.data.toList = b.data.toList ++ t) : b.size ≤ a.size := by
  have := congrArg List.length h
  rw [List.length_append] at this
  show b.data.toList.length ≤ a.data.toList.length
  omega
/-- What follows a beginning. -/
def BehIs (s b r : List UInt8) (ok : Bool) : Prop := (s = b ++ r ∧ ok = true) ∨ ((∀ t, s ≠ b ++ t) ∧ ok = false ∧ r = [])
def BehPost (s b : ByteArray) (w : World) (e : Ending) (w' : World) : Prop := ∃ (r : ByteArray) (ok : Bool), e = .returned (.tuple #[.string r, .bool ok]) ∧ BehIs s.data.toList b.data.toList r.data.toList ok ∧ r.size ≤ s.size ∧ w = w'
set_option maxRecDepth 100000 in
set_option maxHeartbeats 4000000 in
theorem behind_any (s b : ByteArray) (w : World) (hs : s.size ≤ 100000) (hb : b.size ≤ 100) :
    Calls Tryd.prog 30 #[.string s, .string b] w (BehPost s b w) := by
  by_cases hlt : s.size < b.size
  · have i1 : (s.size : Int) < (b.size : Int) := by omega
    have NO := Lib.hid (show BehIs s.data.toList b.data.toList [] false from Or.inr ⟨fun t h => by have := beh_app s b t h; omega, rfl, rfl⟩)
    go_enter Tryd.func30, Tryd.ntmps30
    go_wp2_with fail
    go_ret2
    exact ⟨⟨#[]⟩, false, rfl, NO.out, Nat.zero_le _, rfl⟩
  · have i1 : ¬ (s.size : Int) < (b.size : Int) := by omega
    have le : (b.size : Int) ≤ (s.size : Int) := by omega
    have le2 : b.size ≤ s.size := by omega
    have sp : s.data.toList = (s.extract 0 b.size).data.toList ++ (s.extract b.size s.size).data.toList := by
      have h1 := Lib.extract_data s 0 b.size
      have h2 := Lib.extract_data s b.size s.size
      rw [h1, h2]
      have hl : s.data.toList.length = s.size := rfl
      rw [List.drop_zero, Nat.sub_zero, List.take_of_length_le (l := List.drop b.size s.data.toList) (by rw [List.length_drop]; omega), List.take_append_drop]
    obtain ⟨P, hP⟩ : ∃ P, s.extract 0 b.size = P := ⟨_, rfl⟩
    have zP : P.size = b.size := by rw [← hP, ByteArray.size_extract]; omega
    rw [hP] at sp
    by_cases eq : P.data.toList = b.data.toList
    · have f1 : (P.toList == b.toList) = true := by rw [Lib.toList_data, Lib.toList_data, eq]; exact beq_self_eq_true _
      have f2 : (P.toList != b.toList) = false := by rw [bne, f1]; rfl
      have YES := Lib.hid (show BehIs s.data.toList b.data.toList (s.extract b.size s.size).data.toList true from Or.inl ⟨by rw [← eq]; exact sp, rfl⟩)
      clear sp eq
      go_enter Tryd.func30, Tryd.ntmps30
      go_wp2_with fail
      go_ret2
      exact ⟨_, true, rfl, YES.out, by rw [ByteArray.size_extract]; omega, rfl⟩
    · have f1 : (P.toList == b.toList) = false := beq_eq_false_iff_ne.2 (by rw [Lib.toList_data, Lib.toList_data]; exact eq)
      have f2 : (P.toList != b.toList) = true := by rw [bne, f1]; rfl
      have NO := Lib.hid (show BehIs s.data.toList b.data.toList [] false from Or.inr ⟨fun t h => eq (by
        rw [sp] at h
        exact (List.append_inj h (by show P.size = b.size; exact zP)).1), rfl, rfl⟩)
      clear sp eq
      go_enter Tryd.func30, Tryd.ntmps30
      go_wp2_with fail
      go_ret2
      exact ⟨⟨#[]⟩, false, rfl, NO.out, Nat.zero_le _, rfl⟩
theorem worth_dec {c : UInt8} : worthN c < 10 ↔ 48 ≤ c.toNat ∧ c.toNat ≤ 57 := by
  unfold worthN
  split
  · omega
  · split
    · omega
    · split <;> omega
theorem worth_eq {c : UInt8} (h : 48 ≤ c.toNat ∧ c.toNat ≤ 57) : worthN c = c.toNat - 48 := by unfold worthN; rw [if_pos h]
def NumPost (s : ByteArray) (w : World) (e : Ending) (w' : World) : Prop := ∃ n : Int, e = .returned (.int .i64 n) ∧ (∀ m : Nat, m ≤ 9223372036854775807 → s.data.toList = Lib.itoa (m : Int) → n = m) ∧ 0 ≤ n ∧ n ≤ 9223372036854775807 ∧ w = w'
set_option maxRecDepth 100000 in
set_option maxHeartbeats 4000000 in
theorem rnumber_any (s : ByteArray) (w : World) (hs : s.size ≤ 100000) :
    Calls Tryd.prog 33 #[.string s] w (NumPost s w) := by
  have zl : s.data.toList.length = s.size := rfl
  go_enter Tryd.func33, Tryd.ntmps33
  go_wp2_with fail
  go_loop [3, 4] (fun v i => ∃ k n : Nat, k ≤ s.size ∧ i = .int .i64 k ∧ v = .int .i64 n ∧ n ≤ 9223372036854775807 ∧ Hid (allW 10 (s.data.toList.take k) ∧ valN 10 (s.data.toList.take k) = n)) (fun _ i => s.size - (intOf i).toNat)
  case atStart => exact ⟨0, 0, Nat.zero_le _, rfl, rfl, Nat.zero_le _, Lib.hid ⟨allW_nil 10, rfl⟩⟩
  case round =>
    obtain ⟨k, n, hk, rfl, rfl, hn, H⟩ := hrel
    by_cases hlt : k < s.size
    · have i1 : (k : Int) < (s.size : Int) := by omega
      have ik := fun wx => idx_at s k hlt wx
      have TS := Dw.take_snoc s k hlt
      have u8 := Arp.byte_lt (s[k]'hlt)
      by_cases hd : 48 ≤ (s[k]'hlt).toNat ∧ (s[k]'hlt).toNat ≤ 57
      · obtain ⟨d, hdd⟩ : ∃ d, (s[k]'hlt).toNat - 48 = d := ⟨_, rfl⟩
        have d1 : ((s[k]'hlt).toNat : Int) - 48 = (d : Int) := by omega
        have d9 : d ≤ 9 := by omega
        have VN : Hid (valN 10 (s.data.toList.take (k + 1)) = n * 10 + d ∧ allW 10 (s.data.toList.take (k + 1))) := Lib.hid (by
          rw [TS]
          exact ⟨by rw [valN_snoc, H.out.2, worth_eq hd, hdd], allW_snoc H.out.1 (worth_dec.2 hd)⟩)
        by_cases ho : n * 10 + d ≤ 9223372036854775807
        · have o1 : ¬ (9223372036854775807 - (d : Int)) / 10 < (n : Int) := by omega
          have H2 : Hid (allW 10 (s.data.toList.take (k + 1)) ∧ valN 10 (s.data.toList.take (k + 1)) = n * 10 + d) := Lib.hid ⟨VN.out.2, VN.out.1⟩
          have d0 : ¬ (d : Int) < 0 := by omega
          have d2 : ¬ (9 : Int) < (d : Int) := by omega
          clear VN TS H hd hdd zl
          generalize (s[k]'hlt).toNat = c at *
          go_wp2_with fail
          go_round
          case rel => exact ⟨k + 1, n * 10 + d, by omega, by go_num, by congr 1; omega, ho, H2⟩
          case measure => simp [intOf]; omega
        · have o1 : (9223372036854775807 - (d : Int)) / 10 < (n : Int) := by omega
          have NO : Hid (∀ m : Nat, m ≤ 9223372036854775807 → s.data.toList = Lib.itoa (m : Int) → (0 : Int) = m) := Lib.hid (fun m hm e => by
            have h1 := Dw.valN_take 10 (by decide) s.data.toList (k + 1)
            have h2 := (dd_val m).1
            rw [← itoa_nat, ← e] at h2
            have h3 := VN.out.1
            omega)
          have d0 : ¬ (d : Int) < 0 := by omega
          have d2 : ¬ (9 : Int) < (d : Int) := by omega
          clear VN TS H hd hdd zl
          generalize (s[k]'hlt).toNat = c at *
          go_wp2_with fail
          go_ret
          exact ⟨0, rfl, NO.out, by decide, by decide, rfl⟩
      · have NO : Hid (∀ m : Nat, m ≤ 9223372036854775807 → s.data.toList = Lib.itoa (m : Int) → (0 : Int) = m) := Lib.hid (fun m hm e => by
          have h2 := (dd_val m).2
          rw [← itoa_nat, ← e] at h2
          exact absurd (worth_dec.1 (h2 _ (Dw.get_mem s k hlt))) hd)
        obtain ⟨c, hc⟩ : ∃ c, (s[k]'hlt).toNat = c := ⟨_, rfl⟩
        rw [hc] at hd ik u8
        clear TS H zl hc
        rcases (show c < 48 ∨ (48 ≤ c ∧ 57 < c) by omega) with g | ⟨g0, g⟩
        · have d0 : (c : Int) - 48 < 0 := by omega
          go_wp2_with fail
          go_ret
          exact ⟨0, rfl, NO.out, by decide, by decide, rfl⟩
        · have d0 : ¬ (c : Int) - 48 < 0 := by omega
          have d1 : (9 : Int) < (c : Int) - 48 := by omega
          go_wp2_with fail
          go_ret
          exact ⟨0, rfl, NO.out, by decide, by decide, rfl⟩
    · obtain rfl : k = s.size := by omega
      have i1 : ¬ (s.size : Int) < (s.size : Int) := by omega
      have YES : Hid (∀ m : Nat, m ≤ 9223372036854775807 → s.data.toList = Lib.itoa (m : Int) → (n : Int) = m) := Lib.hid (fun m hm e => by
        have h := H.out.2
        rw [List.take_of_length_le (by omega), e, itoa_nat, (dd_val m).1] at h
        omega)
      clear H zl
      go_wp2_with fail
      go_ret
      exact ⟨n, rfl, YES.out, by omega, by omega, rfl⟩
end Cgw
end Go.Proofs.YtafeigpmldgifaaDoor
/-
  The walk of line of the reference.
-/
namespace Go.Proofs.YtafeigpmldgifaaDoor
namespace Cgw
open Go.RowKit Lw Go.Proofs.YtafeigpmldgifaaDoor.Dp Go.Proofs.YtafeigpmldgifaaDoor.Cgp Go.Proofs.YtafeigpmldgifaaDoor.Arw

theorem rtext_all (d : Dg) (w : World) (h0 : 0 ≤ d.h) (h1 : d.h < 256) (s0 : 0 ≤ d.s) (s1 : d.s < 256) :
    Calls Tryd.prog 39 #[.agg #[.int .i64 d.n, .int .i64 d.y, .int .u8 d.h, .int .u8 d.s, .int .i64 d.c]] w fun e w' => ∃ (s : List UInt8) (k : Int), e = .returned (.tuple #[.string (strL s), .int .i64 k]) ∧ (okG d → s = textG d) ∧ s.length ≤ 20 ∧ Below w.heap.size w w' := by
  by_cases g : okG d
  · refine (Dw.rText_ok d.n d.y d.h d.s d.c w h0 h1 s0 s1 g).mono ?_
    rintro e w' ⟨rfl, hb⟩
    exact ⟨textG d, 0, rfl, fun _ => rfl, text_le g, hb⟩
  · refine (Dw.rText_no d.n d.y d.h d.s d.c w g).mono ?_
    rintro e w' ⟨rfl, hb⟩
    exact ⟨[], 8, rfl, fun h => absurd h g, by simp, hb⟩
def LinePost (c : Cg) (w : World) (e : Ending) (w' : World) : Prop := ∃ s : ByteArray, e = .returned (.string s) ∧ s.data.toList = lineC c ++ [10] ∧ s.size ≤ 100 ∧ Below w.heap.size w w'
theorem LinePost.of {c : Cg} {w w' : World} {s : ByteArray} (h : s.data.toList = lineC c ++ [10]) (hz : s.data.toList.length ≤ 100) (hb : Below w.heap.size w w') : LinePost c w (.returned (.string s)) w' := ⟨s, rfl, h, hz, hb⟩
set_option maxRecDepth 100000 in
set_option maxHeartbeats 16000000 in
theorem rline_any (c : Cg) (w : World) (cb : CB c) (ok : okC c) :
    Calls Tryd.prog 24 #[.agg (cgC c).toArray] w (LinePost c w) := by
  have X1 := Lib.hid (CX.new w c)
  have TA := Lib.hid (fun w' => rtext_all c.a w' cb.ah.1 cb.ah.2 cb.aq.1 cb.aq.2)
  have TB := Lib.hid (fun w' => rtext_all c.b w' cb.bh.1 cb.bh.2 cb.bs.1 cb.bs.2)
  have OK := Lib.hid ok
  have kk := okC_k ok
  have n1 := cb.n1
  clear cb ok
  have d0 := X1.out.cell 0 _ rfl
  have d1 := X1.out.cell 1 _ rfl
  have d2 := X1.out.cell 2 _ rfl
  have d3 := X1.out.cell 3 _ rfl
  have d4 := X1.out.cell 4 _ rfl
  have d5 := X1.out.cell 5 _ rfl
  have d6 := X1.out.cell 6 _ rfl
  have d7 := X1.out.cell 7 _ rfl
  have d8 := X1.out.cell 8 _ rfl
  have d9 := X1.out.cell 9 _ rfl
  have d10 := X1.out.cell 10 _ rfl
  have d11 := X1.out.cell 11 _ rfl
  generalize hw1 : w.alloc (.cells (cgC c).toArray 52) = w1 at *
  have HW := Lib.hid hw1
  clear hw1
  go_enter Tryd.func24, Tryd.ntmps24
  go_upto_region 1 with fail
  rw [HW.out]
  go_wp2_with fail
  refine (TA.out _).mono ?_
  rintro e w3 ⟨s1, j1, rfl, hs1, zs1, hb⟩
  have X2 := Lib.hid (X1.out.call hb)
  clear hb X1 TA HW d0 d1 d2 d3 d4 d5 d6 d7 d8 d9 d10 d11
  have c0 := X2.out.cell 0 _ rfl
  have c1 := X2.out.cell 1 _ rfl
  have c2 := X2.out.cell 2 _ rfl
  have c3 := X2.out.cell 3 _ rfl
  have c4 := X2.out.cell 4 _ rfl
  have c5 := X2.out.cell 5 _ rfl
  have c6 := X2.out.cell 6 _ rfl
  have c7 := X2.out.cell 7 _ rfl
  have c8 := X2.out.cell 8 _ rfl
  have c9 := X2.out.cell 9 _ rfl
  have c10 := X2.out.cell 10 _ rfl
  have c11 := X2.out.cell 11 _ rfl
  go_wp2_with fail
  refine (TB.out _).mono ?_
  rintro e w4 ⟨s2, j2, rfl, hs2, zs2, hb⟩
  have X3 := Lib.hid (X2.out.call hb)
  clear hb X2 TB c0 c1 c2 c3 c4 c5 c6 c7 c8 c9 c10 c11
  have c0 := X3.out.cell 0 _ rfl
  have c1 := X3.out.cell 1 _ rfl
  have c2 := X3.out.cell 2 _ rfl
  have c3 := X3.out.cell 3 _ rfl
  have c4 := X3.out.cell 4 _ rfl
  have c5 := X3.out.cell 5 _ rfl
  have c6 := X3.out.cell 6 _ rfl
  have c7 := X3.out.cell 7 _ rfl
  have c8 := X3.out.cell 8 _ rfl
  have c9 := X3.out.cell 9 _ rfl
  have c10 := X3.out.cell 10 _ rfl
  have c11 := X3.out.cell 11 _ rfl
  obtain ⟨S1, hS1⟩ : ∃ S, strL s1 = S := ⟨_, rfl⟩
  obtain ⟨S2, hS2⟩ : ∃ S, strL s2 = S := ⟨_, rfl⟩
  have z1 : S1.size ≤ 20 := by rw [← hS1]; exact zs1
  have z2 : S2.size ≤ 20 := by rw [← hS2]; exact zs2
  have L1 : Hid (S1.data.toList = s1) := Lib.hid (by rw [← hS1]; rfl)
  have L2 : Hid (S2.data.toList = s2) := Lib.hid (by rw [← hS2]; rfl)
  have H1 := Lib.hid hs1
  have H2 := Lib.hid hs2
  rw [hS1, hS2]
  clear hS1 hS2 zs1 zs2 hs1 hs2
  obtain ⟨k, a, b, n⟩ := c
  simp only at kk n1
  rcases kk with rfl | rfl | rfl | rfl
  · have ga := (okC_1.1 OK.out).1
    have E : Hid (∀ t : ByteArray, t.data.toList = addW ++ 32 :: (S1.data.toList ++ [10]) → t.data.toList = lineC ⟨1, a, b, n⟩ ++ [10]) := Lib.hid (fun t ht => by rw [ht, L1.out, H1.out ga]; simp [lineC, wordC, restC])
    clear OK L1 L2 H1 H2 ga
    go_wp2_with fail
    go_ret
    exact LinePost.of (E.out _ (by simp [addW])) (by simp; omega) X3.out.below
  · have ga := (okC_2.1 OK.out).1
    have gb := (okC_2.1 OK.out).2.1
    have E : Hid (∀ t : ByteArray, t.data.toList = joinW ++ 32 :: (S1.data.toList ++ (eqW ++ (S2.data.toList ++ [10]))) → t.data.toList = lineC ⟨2, a, b, n⟩ ++ [10]) := Lib.hid (fun t ht => by rw [ht, L1.out, H1.out ga, L2.out, H2.out gb]; simp [lineC, wordC, restC])
    clear OK L1 L2 H1 H2 ga gb
    go_wp2_with fail
    go_ret
    exact LinePost.of (E.out _ (by simp [joinW, eqW])) (by simp; omega) X3.out.below
  · have ga := (okC_3.1 OK.out).1
    have gb := (okC_3.1 OK.out).2.1
    have E : Hid (∀ t : ByteArray, t.data.toList = numW ++ 32 :: (S1.data.toList ++ (eqW ++ (S2.data.toList ++ [10]))) → t.data.toList = lineC ⟨3, a, b, n⟩ ++ [10]) := Lib.hid (fun t ht => by rw [ht, L1.out, H1.out ga, L2.out, H2.out gb]; simp [lineC, wordC, restC])
    clear OK L1 L2 H1 H2 ga gb
    go_wp2_with fail
    go_ret
    exact LinePost.of (E.out _ (by simp [numW, eqW])) (by simp; omega) X3.out.below
  · have n0 := (okC_4.1 OK.out).2.2.1
    obtain ⟨m, rfl⟩ := Int.eq_ofNat_of_zero_le n0
    have IC := Lib.hid (rdecimal_any m (by omega) w4)
    have NL := itoa_le m (by omega)
    obtain ⟨S3, hS3⟩ : ∃ S, strL (Lib.itoa (m : Int)) = S := ⟨_, rfl⟩
    have z3 : S3.size ≤ 30 := by rw [← hS3]; exact NL
    have L3 : S3.data.toList = Lib.itoa (m : Int) := by rw [← hS3]; rfl
    have E : Hid (∀ t : ByteArray, t.data.toList = undoW ++ 32 :: (S3.data.toList ++ [10]) → t.data.toList = lineC ⟨4, a, b, (m : Int)⟩ ++ [10]) := Lib.hid (fun t ht => by rw [ht, L3]; simp [lineC, wordC, restC])
    rw [hS3] at IC
    clear OK L1 L2 H1 H2 n0 L3 hS3 NL
    go_wp2_with fail
    refine IC.out.mono ?_
    rintro e w5 ⟨rfl, hb⟩
    have X4 := Lib.hid (X3.out.call hb)
    clear hb IC X3
    go_wp2_with fail
    go_ret
    exact LinePost.of (E.out _ (by simp [undoW])) (by simp; omega) X4.out.below
end Cgw
end Go.Proofs.YtafeigpmldgifaaDoor
/-
  Parse of the reference.
-/
namespace Go.Proofs.YtafeigpmldgifaaDoor
namespace Dw
open Go.RowKit Dp Lw

theorem PS.of_new (w : World) (d : Dg) : PS w (desigC d.n d.y d.h d.s d.c) ((w.alloc (.cells (desigC 0 0 0 0 0).toArray 50)).alloc (.cells (desigC d.n d.y d.h d.s d.c).toArray 50)) := by
  have e : (w.alloc (.cells (desigC 0 0 0 0 0).toArray 50)).heap.size = w.heap.size + 1 := by simp
  have r := rangeAt_new (w.alloc (.cells (desigC 0 0 0 0 0).toArray 50)) (desigC d.n d.y d.h d.s d.c) 50
  have t := there_new (w.alloc (.cells (desigC 0 0 0 0 0).toArray 50)) (desigC d.n d.y d.h d.s d.c).toArray 50 5 (by simp)
  rw [e] at r t
  exact ⟨there_below (there_new w _ _ 5 (by simp)) ((Below.refl _ _).alloc (Nat.le_refl _) _) (by simp), r, t, by simp, ((Below.refl _ _).alloc (Nat.le_refl _) _).alloc (by simp) _⟩
theorem PS.drew {w : World} {cs : List Value} {a : World} (h : PS w cs a) : PS w cs a.drew := h.call ((Below.refl _ a).drew)
theorem there_setCells {b n c : Nat} : ∀ (vs : List Value) (o : Nat) (w : World), w.there b 0 n → (w.setCells c o vs).there b 0 n
  | [], _, _, h => h
  | v :: r, o, w, h => by
    rw [World.setCells]
    exact there_setCells r (o + 1) _ (there_set h _ _)
theorem size_setCells (b : Nat) : ∀ (vs : List Value) (o : Nat) (w : World), (w.setCells b o vs).heap.size = w.heap.size
  | [], _, _ => rfl
  | v :: r, o, w => by
    rw [World.setCells, size_setCells b r]
    simp
theorem PS.all {w : World} {cs : List Value} {a : World} (h : PS w cs a) (n y u s c : Int) : PS w (desigC n y u s c) (a.setCells (w.heap.size + 1) 0 (desigC n y u s c)) :=
  ⟨there_setCells _ _ _ h.res, World.rangeAt_setCells_same _ _ _ _ h.there, there_setCells _ _ _ h.there, by rw [size_setCells]; exact h.lt, below_setCells _ (Nat.le_succ _) _ _ _ h.below⟩
theorem candT_num {l : List UInt8} (h : 0 ≤ valR l) : CandT l ⟨valR l, 0, 0, 0, 0⟩ := by
  have := candT_is l
  unfold candT at this
  rwa [if_pos h] at this
theorem candT_none {l : List UInt8} (h : ¬ 0 ≤ valR l) (h7 : l.length < 7) : CandT l zeroG := by
  have := candT_is l
  unfold candT at this
  rwa [if_neg h, if_pos h7] at this
theorem candT_prov (s : ByteArray) (h : ¬ 0 ≤ valR s.data.toList) (h7 : ¬ s.size < 7) (i5 : 5 < s.size) (i6 : 6 < s.size) (x u : Int) (ex : (s[5].toNat : Int) = x) (eu : (s[6].toNat : Int) = u) (c : Int) (hc : c = if 7 < s.size then valR (s.extract 7 s.size).data.toList else 0) :
    CandT s.data.toList ⟨0, valR (s.extract 0 4).data.toList, x, u, c⟩ := by
  subst ex eu
  have := candT_is s.data.toList
  have hl := size_data s
  unfold candT at this
  rw [if_neg h, if_neg (by omega), getD_at s 5 (by omega), getD_at s 6 (by omega), ← ext_take, ← hl, ← ext_drop, ← hc] at this
  exact this
set_option maxRecDepth 100000 in
set_option maxHeartbeats 8000000 in
theorem rparse_any (s : ByteArray) (w : World) (hs : s.size ≤ 1000) :
    Calls Tryd.prog 31 #[.string s] w (ParsePost s w) := by
  have V0 := Lib.hid (value_any s (w.alloc (.cells (desigC 0 0 0 0 0).toArray 50)) (by omega))
  have vb := valR_bd s.data.toList
  obtain ⟨v, ev⟩ : ∃ v, valR s.data.toList = v := ⟨_, rfl⟩
  rw [ev] at V0 vb
  have p0 := Lib.hid (show PS w (desigC v 0 0 0 0) ((w.alloc (.cells (desigC 0 0 0 0 0).toArray 50)).alloc (.cells (desigC v 0 0 0 0).toArray 50)) from PS.of_new w ⟨v, 0, 0, 0, 0⟩)
  have p0z := Lib.hid (PS.new w)
  by_cases hv : 0 ≤ v
  · have hv' : ¬ v < 0 := by omega
    have cd := Lib.hid (ev ▸ candT_num (ev ▸ hv) : CandT s.data.toList ⟨v, 0, 0, 0, 0⟩)
    clear ev p0z
    go_enter Tryd.func31, Tryd.ntmps31
    go_wp2_with fail
    refine V0.out.mono ?_
    rintro e w1 ⟨rfl, rfl⟩
    clear V0
    by_cases g : okD v 0 0 0 0
    · obtain ⟨T, eT⟩ : ∃ T, textG ⟨v, 0, 0, 0, 0⟩ = T := ⟨_, rfl⟩
      have TC := fun w' => rText_ok v 0 0 0 0 w' (by omega) (by omega) (by omega) (by omega) g
      unfold TextOk at TC
      simp only [eT] at TC
      have TC := Lib.hid TC
      by_cases ht : T = s.data.toList
      · have bt : (T == s.toList) = true := by rw [Lib.toList_data]; simp [ht]
        have FN := Lib.hid (ParseIs.yes (l := s.data.toList) (d := ⟨v, 0, 0, 0, 0⟩) g (eT.trans ht))
        clear eT ht
        go_wp2_with (refine wpList_store_new_at rfl _ (.tmp 4) (.tmp 9) rfl _ _ (w.heap.size + 1) (by simp) rfl rfl info5d rfl ?_ ?_; simp [Value.oneCell'])
        refine (TC.out _).mono ?_
        rintro e w9 ⟨rfl, hb⟩
        have p9 := p0.out.call hb
        clear TC hb
        go_wp2_with (first | (refine wpList_load_mid rfl _ (.tmp 4) rfl (w.heap.size + 1) 0 rfl (desigC v 0 0 0 0) _ p9.row Tryd.underlying50 rfl info5d ?_) | (refine wpList_store_mid rfl _ (.tmp 2) (.tmp 45) rfl w.heap.size 0 _ rfl rfl ?_ info5d ?_ ?_; exact p9.res; simp [Value.oneCell']))
        exact bodyPost_ret (ret_cell_tmp Tryd.results31 _ _ w.heap.size (desigC v 0 0 0 0) _ rfl (World.rangeAt_setCells_same _ _ _ _ p9.res) Tryd.underlying50 rfl info5d) rfl ⟨⟨v, 0, 0, 0, 0⟩, 0, rfl, FN.out, below_setCells _ (Nat.le_refl _) _ _ _ p9.below⟩
      · have bt : (T == s.toList) = false := by rw [Lib.toList_data]; simp [ht]
        have FN := Lib.hid (ParseIs.no cd.out (fun x => ht (eT.symm.trans x.2)))
        clear eT ht
        go_wp2_with (refine wpList_store_new_at rfl _ (.tmp 4) (.tmp 9) rfl _ _ (w.heap.size + 1) (by simp) rfl rfl info5d rfl ?_ ?_; simp [Value.oneCell'])
        refine (TC.out _).mono ?_
        rintro e w9 ⟨rfl, hb⟩
        have p9 := p0.out.call hb
        clear TC hb
        go_wp2_with (refine wpList_store_mid rfl _ (.tmp 2) (.tmp 44) rfl w.heap.size 0 _ rfl rfl ?_ info5d ?_ ?_; exact p9.res; simp [Value.oneCell'])
        exact bodyPost_ret (ret_cell_tmp Tryd.results31 _ _ w.heap.size (desigC 0 0 0 0 0) _ rfl (World.rangeAt_setCells_same _ _ _ _ p9.res) Tryd.underlying50 rfl info5d) rfl ⟨zeroG, 12, rfl, FN.out, below_setCells _ (Nat.le_refl _) _ _ _ p9.below⟩
    · have TC := Lib.hid (fun w' => rText_no v 0 0 0 0 w' g)
      have FN := Lib.hid (ParseIs.no cd.out (fun x => g x.1))
      clear g
      go_wp2_with (refine wpList_store_new_at rfl _ (.tmp 4) (.tmp 9) rfl _ _ (w.heap.size + 1) (by simp) rfl rfl info5d rfl ?_ ?_; simp [Value.oneCell'])
      refine (TC.out _).mono ?_
      rintro e w9 ⟨rfl, hb⟩
      have p9 := p0.out.call hb
      clear TC hb
      go_wp2_with (refine wpList_store_mid rfl _ (.tmp 2) (.tmp 44) rfl w.heap.size 0 _ rfl rfl ?_ info5d ?_ ?_; exact p9.res; simp [Value.oneCell'])
      exact bodyPost_ret (ret_cell_tmp Tryd.results31 _ _ w.heap.size (desigC 0 0 0 0 0) _ rfl (World.rangeAt_setCells_same _ _ _ _ p9.res) Tryd.underlying50 rfl info5d) rfl ⟨zeroG, 12, rfl, FN.out, below_setCells _ (Nat.le_refl _) _ _ _ p9.below⟩
  · have hv' : v < 0 := by omega
    by_cases h7 : s.size < 7
    · have h7' : (s.size : Int) < 7 := by omega
      have FN := Lib.hid (ParseIs.no (candT_none (ev ▸ hv) (by have := size_data s; omega)) (fun x => (show ¬ okD 0 0 0 0 0 by unfold okD; omega) x.1))
      have hB := Lib.hid p0.out.below
      have th := p0.out.res
      clear ev p0z
      go_enter Tryd.func31, Tryd.ntmps31
      go_wp2_with fail
      refine V0.out.mono ?_
      rintro e w1 ⟨rfl, rfl⟩
      clear V0
      go_wp2_with (first | (refine wpList_store_mid rfl _ (.tmp 2) (.tmp 16) rfl w.heap.size 0 _ rfl rfl ?_ info5d ?_ ?_; exact th; simp [Value.oneCell']) | (refine wpList_store_new_at rfl _ (.tmp 4) (.tmp 9) rfl _ _ (w.heap.size + 1) (by simp) rfl rfl info5d rfl ?_ ?_; simp [Value.oneCell']))
      exact bodyPost_ret (ret_cell_tmp Tryd.results31 _ _ w.heap.size (desigC 0 0 0 0 0) _ rfl (World.rangeAt_setCells_same _ _ _ _ th) Tryd.underlying50 rfl info5d) rfl ⟨zeroG, 12, rfl, FN.out, below_setCells _ (Nat.le_refl _) _ _ _ hB.out⟩
    · have h7' : ¬ (s.size : Int) < 7 := by omega
      have i5 : 5 < s.size := by omega
      have i6 : 6 < s.size := by omega
      have i4' : (4 : Int) ≤ (s.size : Int) := by omega
      have i5' : (5 : Int) < (s.size : Int) := by omega
      have i6' : (6 : Int) < (s.size : Int) := by omega
      have x5 := byte_bd s[5]
      have x6 := byte_bd s[6]
      obtain ⟨h, eh⟩ : ∃ h, (s[5].toNat : Int) = h := ⟨_, rfl⟩
      obtain ⟨u, eu⟩ : ∃ u, (s[6].toNat : Int) = u := ⟨_, rfl⟩
      have CP := Lib.hid (candT_prov s (ev ▸ hv) h7 i5 i6 h u eh eu)
      rw [eh] at x5
      rw [eu] at x6
      have yb := valR_bd (s.extract 0 4).data.toList
      have VY := fun w' => value_any (s.extract 0 4) w' (by have := ext_size s 0 4; omega)
      obtain ⟨y, ey⟩ : ∃ y, valR (s.extract 0 4).data.toList = y := ⟨_, rfl⟩
      rw [ey] at CP yb
      simp only [ey] at VY
      have VY := Lib.hid VY
      have cb := valR_bd (s.extract 7 s.size).data.toList
      have VC := fun w' => value_any (s.extract 7 s.size) w' (by have := ext_size s 7 s.size; omega)
      obtain ⟨c, ec⟩ : ∃ c, valR (s.extract 7 s.size).data.toList = c := ⟨_, rfl⟩
      rw [ec] at CP cb
      simp only [ec] at VC
      have VC := Lib.hid VC
      clear ev ey ec p0z
      go_enter Tryd.func31, Tryd.ntmps31
      go_wp2_with fail
      refine V0.out.mono ?_
      rintro e w1 ⟨rfl, rfl⟩
      clear V0
      go_wp2_with (refine wpList_store_new_at rfl _ (.tmp 4) (.tmp 9) rfl _ _ (w.heap.size + 1) (by simp) rfl rfl info5d rfl ?_ ?_; simp [Value.oneCell'])
      have p1 : PS w (desigC v 0 0 0 0) ((w.alloc (.cells #[.int .i64 0, .int .i64 0, .int .u8 0, .int .u8 0, .int .i64 0] 50)).alloc (.cells #[.int .i64 v, .int .i64 0, .int .u8 0, .int .u8 0, .int .i64 0] 50)) := p0.out
      clear p0
      generalize (w.alloc (.cells #[.int .i64 0, .int .i64 0, .int .u8 0, .int .u8 0, .int .i64 0] 50)).alloc (.cells #[.int .i64 v, .int .i64 0, .int .u8 0, .int .u8 0, .int .i64 0] 50) = W at *
      have p1 := p1.drew
      go_still_tail 8, (by kernel_rfl)
      repeat still_step
      still_call ((VY.out _).mono fun _ _ x => ⟨x.1, x.2.symm⟩)
      repeat still_step
      try refine wpStill_nil ?_
      change wpList _ _ _ _ _ W.drew
      have PA := p1.all 0 y h u 0
      refine wpList_store_mid rfl _ (.tmp 4) (.tmp 24) rfl (w.heap.size + 1) 0 _ rfl rfl p1.there info5d (by simp [Value.oneCell']) ?_
      change wpList _ _ _ _ _ (W.drew.setCells (w.heap.size + 1) 0 (desigC 0 y h u 0))
      generalize W.drew.setCells (w.heap.size + 1) 0 (desigC 0 y h u 0) = W2 at *
      clear p1
      by_cases h8 : 7 < s.size
      · have h8' : (7 : Int) < (s.size : Int) := by omega
        have h8n : (7 : Int) ≤ (s.size : Int) := by omega
        have c4 := PA.cell 4 _ rfl
        have f4 := PA.fr 4 (by omega)
        have PB := Lib.hid (PA.set 4 (.int .i64 c) (by simp) (cs' := desigC 0 y h u c) rfl)
        have cd := Lib.hid (CP.out c (if_pos h8).symm)
        clear PA CP VY
        go_wp2_with fail
        refine (VC.out _).mono ?_
        rintro e w3 ⟨rfl, rfl⟩
        clear VC
        by_cases g : okD 0 y h u c
        · obtain ⟨T, eT⟩ : ∃ T, textG ⟨0, y, h, u, c⟩ = T := ⟨_, rfl⟩
          have TC := fun w' => rText_ok 0 y h u c w' x5.1 x5.2 x6.1 x6.2 g
          unfold TextOk at TC
          simp only [eT] at TC
          have TC := Lib.hid TC
          by_cases ht : T = s.data.toList
          · have bt : (T == s.toList) = true := by rw [Lib.toList_data]; simp [ht]
            have FN := Lib.hid (ParseIs.yes (l := s.data.toList) (d := ⟨0, y, h, u, c⟩) g (eT.trans ht))
            clear eT ht
            go_wp2_with (refine wpList_load_mid rfl _ (.tmp 4) rfl (w.heap.size + 1) 0 rfl (desigC 0 y h u c) _ PB.out.row Tryd.underlying50 rfl info5d ?_)
            refine (TC.out _).mono ?_
            rintro e w9 ⟨rfl, hb⟩
            have p9 := PB.out.call hb
            clear TC hb
            go_wp2_with (first | (refine wpList_load_mid rfl _ (.tmp 4) rfl (w.heap.size + 1) 0 rfl (desigC 0 y h u c) _ p9.row Tryd.underlying50 rfl info5d ?_) | (refine wpList_store_mid rfl _ (.tmp 2) (.tmp 45) rfl w.heap.size 0 _ rfl rfl ?_ info5d ?_ ?_; exact p9.res; simp [Value.oneCell']))
            exact bodyPost_ret (ret_cell_tmp Tryd.results31 _ _ w.heap.size (desigC 0 y h u c) _ rfl (World.rangeAt_setCells_same _ _ _ _ p9.res) Tryd.underlying50 rfl info5d) rfl ⟨⟨0, y, h, u, c⟩, 0, rfl, FN.out, below_setCells _ (Nat.le_refl _) _ _ _ p9.below⟩
          · have bt : (T == s.toList) = false := by rw [Lib.toList_data]; simp [ht]
            have FN := Lib.hid (ParseIs.no cd.out (fun x => ht (eT.symm.trans x.2)))
            clear eT ht
            go_wp2_with (refine wpList_load_mid rfl _ (.tmp 4) rfl (w.heap.size + 1) 0 rfl (desigC 0 y h u c) _ PB.out.row Tryd.underlying50 rfl info5d ?_)
            refine (TC.out _).mono ?_
            rintro e w9 ⟨rfl, hb⟩
            have p9 := PB.out.call hb
            clear TC hb
            go_wp2_with (refine wpList_store_mid rfl _ (.tmp 2) (.tmp 44) rfl w.heap.size 0 _ rfl rfl ?_ info5d ?_ ?_; exact p9.res; simp [Value.oneCell'])
            exact bodyPost_ret (ret_cell_tmp Tryd.results31 _ _ w.heap.size (desigC 0 0 0 0 0) _ rfl (World.rangeAt_setCells_same _ _ _ _ p9.res) Tryd.underlying50 rfl info5d) rfl ⟨zeroG, 12, rfl, FN.out, below_setCells _ (Nat.le_refl _) _ _ _ p9.below⟩
        · have TC := Lib.hid (fun w' => rText_no 0 y h u c w' g)
          have FN := Lib.hid (ParseIs.no cd.out (fun x => g x.1))
          clear g
          go_wp2_with (refine wpList_load_mid rfl _ (.tmp 4) rfl (w.heap.size + 1) 0 rfl (desigC 0 y h u c) _ PB.out.row Tryd.underlying50 rfl info5d ?_)
          refine (TC.out _).mono ?_
          rintro e w9 ⟨rfl, hb⟩
          have p9 := PB.out.call hb
          clear TC hb
          go_wp2_with (refine wpList_store_mid rfl _ (.tmp 2) (.tmp 44) rfl w.heap.size 0 _ rfl rfl ?_ info5d ?_ ?_; exact p9.res; simp [Value.oneCell'])
          exact bodyPost_ret (ret_cell_tmp Tryd.results31 _ _ w.heap.size (desigC 0 0 0 0 0) _ rfl (World.rangeAt_setCells_same _ _ _ _ p9.res) Tryd.underlying50 rfl info5d) rfl ⟨zeroG, 12, rfl, FN.out, below_setCells _ (Nat.le_refl _) _ _ _ p9.below⟩
      · have h8' : ¬ (7 : Int) < (s.size : Int) := by omega
        have PA := Lib.hid PA
        have cd := Lib.hid (CP.out 0 (if_neg h8).symm)
        clear CP VY VC
        by_cases g : okD 0 y h u 0
        · obtain ⟨T, eT⟩ : ∃ T, textG ⟨0, y, h, u, 0⟩ = T := ⟨_, rfl⟩
          have TC := fun w' => rText_ok 0 y h u 0 w' x5.1 x5.2 x6.1 x6.2 g
          unfold TextOk at TC
          simp only [eT] at TC
          have TC := Lib.hid TC
          by_cases ht : T = s.data.toList
          · have bt : (T == s.toList) = true := by rw [Lib.toList_data]; simp [ht]
            have FN := Lib.hid (ParseIs.yes (l := s.data.toList) (d := ⟨0, y, h, u, 0⟩) g (eT.trans ht))
            clear eT ht
            go_wp2_with (refine wpList_load_mid rfl _ (.tmp 4) rfl (w.heap.size + 1) 0 rfl (desigC 0 y h u 0) _ PA.out.row Tryd.underlying50 rfl info5d ?_)
            refine (TC.out _).mono ?_
            rintro e w9 ⟨rfl, hb⟩
            have p9 := PA.out.call hb
            clear TC hb
            go_wp2_with (first | (refine wpList_load_mid rfl _ (.tmp 4) rfl (w.heap.size + 1) 0 rfl (desigC 0 y h u 0) _ p9.row Tryd.underlying50 rfl info5d ?_) | (refine wpList_store_mid rfl _ (.tmp 2) (.tmp 45) rfl w.heap.size 0 _ rfl rfl ?_ info5d ?_ ?_; exact p9.res; simp [Value.oneCell']))
            exact bodyPost_ret (ret_cell_tmp Tryd.results31 _ _ w.heap.size (desigC 0 y h u 0) _ rfl (World.rangeAt_setCells_same _ _ _ _ p9.res) Tryd.underlying50 rfl info5d) rfl ⟨⟨0, y, h, u, 0⟩, 0, rfl, FN.out, below_setCells _ (Nat.le_refl _) _ _ _ p9.below⟩
          · have bt : (T == s.toList) = false := by rw [Lib.toList_data]; simp [ht]
            have FN := Lib.hid (ParseIs.no cd.out (fun x => ht (eT.symm.trans x.2)))
            clear eT ht
            go_wp2_with (refine wpList_load_mid rfl _ (.tmp 4) rfl (w.heap.size + 1) 0 rfl (desigC 0 y h u 0) _ PA.out.row Tryd.underlying50 rfl info5d ?_)
            refine (TC.out _).mono ?_
            rintro e w9 ⟨rfl, hb⟩
            have p9 := PA.out.call hb
            clear TC hb
            go_wp2_with (refine wpList_store_mid rfl _ (.tmp 2) (.tmp 44) rfl w.heap.size 0 _ rfl rfl ?_ info5d ?_ ?_; exact p9.res; simp [Value.oneCell'])
            exact bodyPost_ret (ret_cell_tmp Tryd.results31 _ _ w.heap.size (desigC 0 0 0 0 0) _ rfl (World.rangeAt_setCells_same _ _ _ _ p9.res) Tryd.underlying50 rfl info5d) rfl ⟨zeroG, 12, rfl, FN.out, below_setCells _ (Nat.le_refl _) _ _ _ p9.below⟩
        · have TC := Lib.hid (fun w' => rText_no 0 y h u 0 w' g)
          have FN := Lib.hid (ParseIs.no cd.out (fun x => g x.1))
          clear g
          go_wp2_with (refine wpList_load_mid rfl _ (.tmp 4) rfl (w.heap.size + 1) 0 rfl (desigC 0 y h u 0) _ PA.out.row Tryd.underlying50 rfl info5d ?_)
          refine (TC.out _).mono ?_
          rintro e w9 ⟨rfl, hb⟩
          have p9 := PA.out.call hb
          clear TC hb
          go_wp2_with (refine wpList_store_mid rfl _ (.tmp 2) (.tmp 44) rfl w.heap.size 0 _ rfl rfl ?_ info5d ?_ ?_; exact p9.res; simp [Value.oneCell'])
          exact bodyPost_ret (ret_cell_tmp Tryd.results31 _ _ w.heap.size (desigC 0 0 0 0 0) _ rfl (World.rangeAt_setCells_same _ _ _ _ p9.res) Tryd.underlying50 rfl info5d) rfl ⟨zeroG, 12, rfl, FN.out, below_setCells _ (Nat.le_refl _) _ _ _ p9.below⟩
end Dw
end Go.Proofs.YtafeigpmldgifaaDoor
/-
  The walk of halves of the reference.
-/
namespace Go.Proofs.YtafeigpmldgifaaDoor
namespace Cgw
open Go.RowKit Lw Go.Proofs.YtafeigpmldgifaaDoor.Dp Go.Proofs.YtafeigpmldgifaaDoor.Cgp Go.Proofs.YtafeigpmldgifaaDoor.Arw

theorem ext_at (s : ByteArray) (p r : List UInt8) (h : s.data.toList = p ++ (eqW ++ r)) : (s.extract p.length (p.length + 3)).data.toList = eqW := by
  rw [Lib.extract_data, h, List.drop_left, show p.length + 3 - p.length = 3 by omega]
  simp [eqW]
def NoEq (s : ByteArray) (k : Nat) : Prop := ∀ j, j < k → (s.extract j (j + 3)).data.toList ≠ eqW
theorem NoEq.next {s : ByteArray} {k : Nat} (h : NoEq s k) (n : (s.extract k (k + 3)).data.toList ≠ eqW) : NoEq s (k + 1) := fun j hj => by
  by_cases e : j = k
  · subst e; exact n
  · exact h j (by omega)
theorem half_at {s : ByteArray} {i : Nat} (h : (s.extract i (i + 3)).data.toList = eqW) (no : NoEq s i) {p r : List UInt8} (hp : ∀ x ∈ p, x ≠ 61) (e : s.data.toList = p ++ (eqW ++ r)) :
    p = (s.extract 0 i).data.toList ∧ r = (s.extract (i + 3) s.size).data.toList := by
  have h1 := ext_at s p r e
  have n1 : ¬ p.length < i := fun h => no _ h h1
  have n2 : ¬ i < p.length := fun hlt => by
    rw [Lib.extract_data, e, List.drop_append_of_le_length (by omega), show i + 3 - i = 3 by omega] at h
    cases hd : p.drop i with
    | nil =>
      have := congrArg List.length hd
      rw [List.length_drop, List.length_nil] at this
      omega
    | cons a l =>
      rw [hd] at h
      cases l with
      | nil => simp [eqW] at h
      | cons b l =>
        have hb : b ∈ p := List.mem_of_mem_drop (i := i) (by rw [hd]; simp)
        simp [eqW] at h
        exact hp b hb h.2.1
  have n3 : p.length = i := by omega
  subst n3
  have hl : s.size = s.data.toList.length := rfl
  rw [e, List.length_append, List.length_append] at hl
  have h3 : eqW.length = 3 := rfl
  constructor
  · rw [Lib.extract_data, e]; simp
  · rw [Lib.extract_data, e, ← List.append_assoc, List.drop_append_of_le_length (by rw [List.length_append, h3]; exact Nat.le_refl _), List.drop_of_length_le (by rw [List.length_append, h3]; exact Nat.le_refl _), List.nil_append, List.take_of_length_le (by omega)]
theorem half_no {s : ByteArray} {k : Nat} (no : NoEq s k) (hk : s.size < k + 3) {p r : List UInt8} (e : s.data.toList = p ++ (eqW ++ r)) : False := by
  have hl : s.size = s.data.toList.length := rfl
  rw [e, List.length_append, List.length_append] at hl
  have h3 : eqW.length = 3 := rfl
  exact no p.length (by omega) (ext_at s p r e)
def HalvIs (l : List UInt8) (a b : Dg) : Prop := ∀ p r, (∀ x ∈ p, x ≠ 61) → l = p ++ (eqW ++ r) → (∃ j, ParseIs p a j) ∧ ∃ j, ParseIs r b j
abbrev DB (d : Dg) : Prop := (0 ≤ d.h ∧ d.h < 256) ∧ (0 ≤ d.s ∧ d.s < 256)
abbrev dC (d : Dg) : List Value := Dw.desigC d.n d.y d.h d.s d.c
def HalvPost (s : ByteArray) (w : World) (e : Ending) (w' : World) : Prop := ∃ a b : Dg, e = .returned (.tuple #[.agg (dC a).toArray, .agg (dC b).toArray]) ∧ HalvIs s.data.toList a b ∧ DB a ∧ DB b ∧ Below w.heap.size w w'
/-- The two results' boxes. -/
structure HS (w0 : World) (x y : Dg) (w : World) : Prop where
  ra : Rw w w0.heap.size (dC x)
  rb : Rw w (w0.heap.size + 1) (dC y)
  below : Below w0.heap.size w0 w
theorem HS.call {w0 w w' : World} {x y : Dg} (h : HS w0 x y w) (hb : Below w.heap.size w w') : HS w0 x y w' := ⟨h.ra.call hb, h.rb.call hb, below_then h.below hb⟩
theorem HS.new (w : World) : HS w zeroG zeroG ((w.alloc (.cells (dC zeroG).toArray 50)).alloc (.cells (dC zeroG).toArray 50)) := by
  have e : (w.alloc (.cells (dC zeroG).toArray 50)).heap.size = w.heap.size + 1 := by simp
  have r := Rw.new (w.alloc (.cells (dC zeroG).toArray 50)) (dC zeroG) 50
  have b := (Below.refl (w.alloc (.cells (dC zeroG).toArray 50)).heap.size _).alloc (Nat.le_refl _) (.cells (dC zeroG).toArray 50)
  rw [e] at r
  exact ⟨(Rw.new w (dC zeroG) _).call b, r, below_then ((Below.refl _ _).alloc (Nat.le_refl _) _) b⟩
theorem HS.setA {w0 w : World} {x y : Dg} (h : HS w0 x y w) (a : Dg) : HS w0 a y (w.setCells w0.heap.size 0 (dC a)) :=
  ⟨h.ra.sets (dC a) rfl, h.rb.sets_apart (dC a) (Nat.succ_ne_self _) 0, below_setCells w0.heap.size (Nat.le_refl _) (dC a) 0 w h.below⟩
theorem HS.setB {w0 w : World} {x y : Dg} (h : HS w0 x y w) (b : Dg) : HS w0 x b (w.setCells (w0.heap.size + 1) 0 (dC b)) :=
  ⟨h.ra.sets_apart (dC b) (Nat.succ_ne_self _).symm 0, h.rb.sets (dC b) rfl, below_setCells (w0.heap.size + 1) (Nat.le_succ _) (dC b) 0 w h.below⟩
theorem ret_cell_cell {P : Program} {fn : Func} {p q : Tmp} {ty : TypeId} (h : fn.results = #[.cell p ty, .cell q ty]) (tmps : Array Value) (w : World) (b c : Nat) (cs ds : List Value) (d : TypeDesc)
    (hp : tmps.getD p undef = .pointer (some ⟨b, 0, none⟩)) (hr : w.rangeAt b 0 cs) (hq : tmps.getD q undef = .pointer (some ⟨c, 0, none⟩)) (hs : w.rangeAt c 0 ds) (hu : P.underlying ty = some d) (hd : d.isRow = true) (hi : (P.info? ty).map (·.size) = some cs.length) (hj : (P.info? ty).map (·.size) = some ds.length) :
    (results fn tmps).run P w = .ok (.tuple #[.agg cs.toArray, .agg ds.toArray]) w := by
  have hp' : tmps[p]?.getD undef = .pointer (some ⟨b, 0, none⟩) := by simpa using hp
  have hq' : tmps[q]?.getD undef = .pointer (some ⟨c, 0, none⟩) := by simpa using hq
  simp [results, h, hp', hq', asAddr, run_loadVar_mid w b 0 ty cs d hr hu hd hi, run_loadVar_mid w c 0 ty ds d hs hu hd hj, Result.andThen]
/-- The four boxes. -/
structure H4 (w0 : World) (b1 b2 : Nat) (a b x y : Dg) (w : World) : Prop where
  hs : HS w0 x y w
  r1 : Rw w b1 (dC a)
  r2 : Rw w b2 (dC b)
  l1 : w0.heap.size + 1 < b1
  l2 : w0.heap.size + 1 < b2
theorem H4.setA {w0 w : World} {b1 b2 : Nat} {a b x y : Dg} (h : H4 w0 b1 b2 a b x y w) : H4 w0 b1 b2 a b a y (w.setCells w0.heap.size 0 (dC a)) :=
  ⟨h.hs.setA a, h.r1.sets_apart (dC a) (by have := h.l1; omega) 0, h.r2.sets_apart (dC a) (by have := h.l2; omega) 0, h.l1, h.l2⟩
theorem H4.setB {w0 w : World} {b1 b2 : Nat} {a b x y : Dg} (h : H4 w0 b1 b2 a b x y w) : H4 w0 b1 b2 a b x b (w.setCells (w0.heap.size + 1) 0 (dC b)) :=
  ⟨h.hs.setB b, h.r1.sets_apart (dC b) (by have := h.l1; omega) 0, h.r2.sets_apart (dC b) (by have := h.l2; omega) 0, h.l1, h.l2⟩
theorem H4.call {w0 w w' : World} {b1 b2 : Nat} {a b x y : Dg} (h : H4 w0 b1 b2 a b x y w) (hb : Below w.heap.size w w') : H4 w0 b1 b2 a b x y w' := ⟨h.hs.call hb, h.r1.call hb, h.r2.call hb, h.l1, h.l2⟩
theorem HS.lt {w0 w : World} {x y : Dg} (h : HS w0 x y w) : w0.heap.size + 1 < w.heap.size := h.rb.lt
set_option maxRecDepth 100000 in
set_option maxHeartbeats 16000000 in
theorem halves_any (s : ByteArray) (w : World) (hs : s.size ≤ 1000) :
    Calls Tryd.prog 32 #[.string s] w (HalvPost s w) := by
  have H0 := Lib.hid (HS.new w)
  have PA := Lib.hid (fun (x : ByteArray) w' h => Dw.rparse_any x w' h)
  generalize hw1 : (w.alloc (.cells (dC zeroG).toArray 50)).alloc (.cells (dC zeroG).toArray 50) = w1 at *
  have HW := Lib.hid hw1
  clear hw1
  go_enter Tryd.func32, Tryd.ntmps32
  go_upto_region 1 with fail
  have HW' := HW.out
  simp only [dC, Dw.desigC, zeroG] at HW'
  rw [HW']
  clear HW' HW
  go_wp2_with fail
  go_loop [4] (fun i => ∃ k : Nat, k ≤ s.size ∧ i = .int .i64 k ∧ Hid (NoEq s k)) (fun i => s.size - (intOf i).toNat)
  case atStart => exact ⟨0, Nat.zero_le _, rfl, Lib.hid (fun j hj => absurd hj (by omega))⟩
  case round =>
    obtain ⟨k, hk, rfl, NO⟩ := hrel
    by_cases hlt : k + 3 ≤ s.size
    · have i1 : (k : Int) + 3 ≤ (s.size : Int) := by omega
      obtain ⟨M, hM⟩ : ∃ M, s.extract k (k + 3) = M := ⟨_, rfl⟩
      have ex : s.extract k ((k : Int) + 3).toNat = M := by rw [← hM]; rfl
      by_cases h : M.data.toList = eqW
      · have f1 : (M.toList == [32, 61, 32]) = true := by rw [Lib.toList_data, h]; rfl
        have HA : Hid (∀ p r, (∀ x ∈ p, x ≠ 61) → s.data.toList = p ++ (eqW ++ r) → p = (s.extract 0 k).data.toList ∧ r = (s.extract (k + 3) s.size).data.toList) := Lib.hid (fun p r hp e => half_at (by rw [hM]; exact h) NO.out hp e)
        have HM := Lib.hid hM
        obtain ⟨L, hL⟩ : ∃ L, s.extract 0 k = L := ⟨_, rfl⟩
        obtain ⟨R, hR⟩ : ∃ R, s.extract (k + 3) s.size = R := ⟨_, rfl⟩
        have zL : L.size ≤ 1000 := by rw [← hL, ByteArray.size_extract]; omega
        have zR : R.size ≤ 1000 := by rw [← hR, ByteArray.size_extract]; omega
        rw [hL, hR] at HA
        clear NO h hM
        go_wp2_with fail
        refine (PA.out L _ zL).mono ?_
        rintro e w2 ⟨a, ja, rfl, hpa, hb⟩
        have H2 := Lib.hid (H0.out.call hb)
        clear hb H0
        have HPA := Lib.hid hpa
        clear hpa
        have bn := (Below.refl w2.heap.size w2).alloc (Nat.le_refl _) (.cells (dC a).toArray 50)
        have R1 := Lib.hid (Rw.new w2 (dC a) 50)
        have H2b := Lib.hid (H2.out.call bn)
        have L1 := Lib.hid H2.out.lt
        clear bn H2
        go_wp2_with (refine wpList_store_new rfl _ (.tmp 5) (.tmp 27) rfl _ (dC a).toArray rfl rfl infoDg rfl ?_ ?_; simp [Value.oneCell'])
        refine (PA.out R _ zR).mono ?_
        rintro e w3 ⟨b, jb, rfl, hpb, hb⟩
        have R1c := Lib.hid (R1.out.call hb)
        have H3 := Lib.hid (H2b.out.call hb)
        have HPB := Lib.hid hpb
        have bn := (Below.refl w3.heap.size w3).alloc (Nat.le_refl _) (.cells (dC b).toArray 50)
        have HF : Hid (H4 w w2.heap.size w3.heap.size a b zeroG zeroG (w3.alloc (.cells (dC b).toArray 50))) := Lib.hid ⟨H3.out.call bn, R1c.out.call bn, Rw.new w3 (dC b) _, L1.out, H3.out.lt⟩
        clear bn H3 R1c R1 H2b hb hpb L1 PA
        go_wp2_with (refine wpList_store_new rfl _ (.tmp 7) (.tmp 35) rfl _ (dC b).toArray rfl rfl infoDg rfl ?_ ?_; simp [Value.oneCell'])
        generalize w3.alloc (.cells (dC b).toArray 50) = w4 at *
        have HD := Lib.hid (HF.out.call (Below.refl _ _).drew)
        clear HF
        refine wp_region_held_drew (S := fun wx => ∃ x y, H4 w w2.heap.size w3.heap.size a b x y wx) (by kernel_rfl) ⟨_, _, HD.out⟩ (fun hHeld => ?_)
        refine wpAnyH_take (i := 0) (oi := ?oi0) (v := ?v0) ?hi0 (by kernel_rfl) (by kernel_rfl) (by kernel_rfl) ?hq0 ?hy0 hHeld ?rest0
        case hi0 => ((try simp only [List.getElem?_toArray, List.getElem?_cons_succ, List.getElem?_cons_zero]); (try rfl))
        case hq0 => exact fun _ _ _ h => h
        case hy0 => exact Or.inl ⟨by rfl, by intro wx hSw; obtain ⟨_, _, h⟩ := hSw; have q0 := h.r1.cell (j := 0) (v := .int .i64 a.n) rfl; have q1 := h.r1.cell (j := 1) (v := .int .i64 a.y) rfl; have q2 := h.r1.cell (j := 2) (v := .int .u8 a.h) rfl; have q3 := h.r1.cell (j := 3) (v := .int .u8 a.s) rfl; have q4 := h.r1.cell (j := 4) (v := .int .i64 a.c) rfl; clear h; go_simp; try with_reducible rfl⟩
        try simp only [Act.put, List.setIfInBounds_toArray, List.set_cons_zero, List.set_cons_succ]
        refine wpAnyH_take (i := 1) (oi := ?oi1) (v := ?v1) ?hi1 (by kernel_rfl) (by kernel_rfl) (by kernel_rfl) ?hq1 ?hy1 hHeld ?rest1
        case hi1 => ((try simp only [List.getElem?_toArray, List.getElem?_cons_succ, List.getElem?_cons_zero]); (try rfl))
        case hq1 => exact fun _ _ _ h => h
        case hy1 => exact Or.inl ⟨by rfl, by intro wx hSw; obtain ⟨_, _, h⟩ := hSw; have q0 := h.r2.cell (j := 0) (v := .int .i64 b.n) rfl; have q1 := h.r2.cell (j := 1) (v := .int .i64 b.y) rfl; have q2 := h.r2.cell (j := 2) (v := .int .u8 b.h) rfl; have q3 := h.r2.cell (j := 3) (v := .int .u8 b.s) rfl; have q4 := h.r2.cell (j := 4) (v := .int .i64 b.c) rfl; clear h; go_simp; try with_reducible rfl⟩
        try simp only [Act.put, List.setIfInBounds_toArray, List.set_cons_zero, List.set_cons_succ]
        refine wpAnyH_ready (rs := [2]) (by kernel_rfl) (by simp) ?_
        refine AllReadyH.cons rfl (fun K' hK => ?_) AllReadyH.nil
        rw [if_pos (by rfl)]
        have TH := HD.out.hs.ra.th
        have HE := Lib.hid HD.out.setA
        clear HD hHeld
        refine wp_store_mid _ _ _ rfl w.heap.size 0 (dC a).toArray rfl rfl TH infoDg (dgone a) ?_
        rw [List.toList_toArray]
        clear TH
        refine hK.out _ _ ⟨_, _, HE.out⟩ (fun hHeld => ?_)
        clear hK
        generalize World.setCells _ w.heap.size 0 (dC a) = w5 at *
        try simp only [Act.put, List.setIfInBounds_toArray, List.set_cons_zero, List.set_cons_succ]
        refine wpAnyH_ready (rs := [3]) (by kernel_rfl) (by simp) ?_
        refine AllReadyH.cons rfl (fun K' hK => ?_) AllReadyH.nil
        rw [if_pos (by rfl)]
        have TH := HE.out.hs.rb.th
        have HG := Lib.hid HE.out.setB
        clear HE hHeld
        refine wp_store_mid _ _ _ rfl (w.heap.size + 1) 0 (dC b).toArray rfl rfl TH infoDg (dgone b) ?_
        rw [List.toList_toArray]
        clear TH
        refine hK.out _ _ ⟨_, _, HG.out⟩ (fun hHeld => ?_)
        clear hK
        generalize World.setCells _ (w.heap.size + 1) 0 (dC b) = w6 at *
        try simp only [Act.put, List.setIfInBounds_toArray, List.set_cons_zero, List.set_cons_succ]
        refine wpAnyH_done (by kernel_rfl) ?_ _
        clear hHeld
        have HI : Hid (HalvIs s.data.toList a b) := Lib.hid (fun p r hp e => by
          obtain ⟨e1, e2⟩ := HA.out p r hp e
          rw [e1, e2]
          exact ⟨⟨ja, HPA.out⟩, jb, HPB.out⟩)
        have da := Lib.hid (parse_bd HPA.out)
        have db := Lib.hid (parse_bd HPB.out)
        clear HA HPA HPB
        go_wp2_with fail
        exact bodyPost_ret (ret_cell_cell Tryd.results32 _ _ w.heap.size (w.heap.size + 1) (dC a) (dC b) _ rfl HG.out.hs.ra.row rfl HG.out.hs.rb.row Tryd.underlying50 rfl infoDg infoDg) rfl ⟨a, b, rfl, HI.out, da.out, db.out, HG.out.hs.below⟩
      · have f1 : (M.toList == [32, 61, 32]) = false := beq_eq_false_iff_ne.2 (by rw [Lib.toList_data]; exact h)
        have NX : Hid (NoEq s (k + 1)) := Lib.hid (NO.out.next (by rw [hM]; exact h))
        clear h NO
        go_wp2_with fail
        exact ⟨⟨k + 1, by omega, rfl, NX⟩, by simp [intOf]; omega⟩
    · have i1 : ¬ (k : Int) + 3 ≤ (s.size : Int) := by omega
      have HI : Hid (HalvIs s.data.toList zeroG zeroG) := Lib.hid (fun p r _ e => (half_no NO.out (by omega) e).elim)
      have ta := Lib.hid H0.out.ra.th
      have H2 := Lib.hid (H0.out.setA zeroG)
      obtain ⟨wa, hwa⟩ : ∃ wa, w1.setCells w.heap.size 0 (dC zeroG) = wa := ⟨_, rfl⟩
      rw [hwa] at H2
      have tb := Lib.hid H2.out.rb.th
      have H3 := Lib.hid (H2.out.setB zeroG)
      obtain ⟨wb, hwb⟩ : ∃ wb, wa.setCells (w.heap.size + 1) 0 (dC zeroG) = wb := ⟨_, rfl⟩
      rw [hwb] at H3
      have HWA := Lib.hid hwa
      have HWB := Lib.hid hwb
      clear NO H2 H0 PA hwa hwb
      go_wp2_with (first | (refine wpList_store_mid rfl _ (.tmp 2) (.tmp 39) rfl w.heap.size 0 (dC zeroG).toArray rfl rfl ta.out infoDg (dgone zeroG) ?_; rw [List.toList_toArray, HWA.out]) | (refine wpList_store_mid rfl _ (.tmp 3) (.tmp 40) rfl (w.heap.size + 1) 0 (dC zeroG).toArray rfl rfl tb.out infoDg (dgone zeroG) ?_; rw [List.toList_toArray, HWB.out]))
      exact bodyPost_ret (ret_cell_cell Tryd.results32 _ _ w.heap.size (w.heap.size + 1) (dC zeroG) (dC zeroG) _ rfl H3.out.ra.row rfl H3.out.rb.row Tryd.underlying50 rfl infoDg infoDg) rfl ⟨zeroG, zeroG, rfl, HI.out, (by decide : DB zeroG), (by decide : DB zeroG), H3.out.below⟩
end Cgw
end Go.Proofs.YtafeigpmldgifaaDoor
/-
  Plain law: what the reference reads a line as is its change, if it is the line of one.
-/
namespace Go.Proofs.YtafeigpmldgifaaDoor
namespace Cgp
open Go.RowKit Lw Go.Proofs.YtafeigpmldgifaaDoor.Dp Go.Proofs.YtafeigpmldgifaaDoor.Cgw

/-- A candidate: if the line is some change's, it is that one. -/
def RCand (l : List UInt8) (c : Cg) : Prop := ∀ e, okC e → lineC e = l → c = e
theorem line_word {e : Cg} {w r : List UInt8} (hw : ∀ x ∈ w, x ≠ 32) (h : lineC e = w ++ 32 :: r) : wordC e = w ∧ restC e = r := by
  have e1 := cut_line e
  rw [h, cut_byte hw] at e1
  exact ⟨(congrArg Prod.fst e1).symm, (congrArg (fun x => x.2.1) e1).symm⟩
theorem cand_1 {l r : List UInt8} {a : Dg} {j : Int} (h : l = addW ++ 32 :: r) (p : ParseIs r a j) : RCand l ⟨1, a, zeroG, 0⟩ := fun e g hl => by
  obtain ⟨h1, h2⟩ := line_word (by decide) (hl.trans h)
  have k1 : e.k = 1 := by rw [← kind_word g, h1]; decide
  obtain ⟨k, a', b', n'⟩ := e
  simp only at k1
  subst k1
  obtain ⟨ga, _, hb, hn⟩ := okC_1.1 g
  have ht : textG a' = r := by rw [← h2]; rfl
  have pa : ParseIs (textG a') a j := by rw [ht]; exact p
  rw [parse_of ga pa, hb, hn]
theorem cand_2 {l r : List UInt8} {a b : Dg} (h : l = joinW ++ 32 :: r) (p : HalvIs r a b) : RCand l ⟨2, a, b, 0⟩ := fun e g hl => by
  obtain ⟨h1, h2⟩ := line_word (by decide) (hl.trans h)
  have k1 : e.k = 2 := by rw [← kind_word g, h1]; decide
  obtain ⟨k, a', b', n'⟩ := e
  simp only at k1
  subst k1
  obtain ⟨ga, gb, _, hn⟩ := okC_2.1 g
  have ht : r = textG a' ++ (eqW ++ textG b') := by rw [← h2]; rfl
  obtain ⟨⟨j, pa⟩, i, pb⟩ := p _ _ (fun x hx => (text_ne ga x hx).1) ht
  rw [parse_of ga pa, parse_of gb pb, hn]
theorem cand_3 {l r : List UInt8} {a b : Dg} (h : l = numW ++ 32 :: r) (p : HalvIs r a b) : RCand l ⟨3, a, b, 0⟩ := fun e g hl => by
  obtain ⟨h1, h2⟩ := line_word (by decide) (hl.trans h)
  have k1 : e.k = 3 := by rw [← kind_word g, h1]; decide
  obtain ⟨k, a', b', n'⟩ := e
  simp only at k1
  subst k1
  obtain ⟨ga, gb, _, hn⟩ := okC_3.1 g
  have ht : r = textG a' ++ (eqW ++ textG b') := by rw [← h2]; rfl
  obtain ⟨⟨j, pa⟩, i, pb⟩ := p _ _ (fun x hx => (text_ne ga x hx).1) ht
  rw [parse_of ga pa, parse_of gb pb, hn]
theorem cand_4 {l r : List UInt8} {n : Int} (h : l = undoW ++ 32 :: r) (p : ∀ m : Nat, m ≤ 9223372036854775807 → r = Lib.itoa (m : Int) → n = m) : RCand l ⟨4, zeroG, zeroG, n⟩ := fun e g hl => by
  obtain ⟨h1, h2⟩ := line_word (by decide) (hl.trans h)
  have k1 : e.k = 4 := by rw [← kind_word g, h1]; decide
  obtain ⟨k, a', b', n'⟩ := e
  simp only at k1
  subst k1
  obtain ⟨ha, hb, n0, n1⟩ := okC_4.1 g
  have ht : r = Lib.itoa n' := by rw [← h2]; rfl
  obtain ⟨m, rfl⟩ := Int.eq_ofNat_of_zero_le n0
  rw [p m (by omega) ht, ha, hb]
theorem cand_0 {l : List UInt8} (h1 : ∀ t, l ≠ addW ++ 32 :: t) (h2 : ∀ t, l ≠ joinW ++ 32 :: t) (h3 : ∀ t, l ≠ numW ++ 32 :: t) (h4 : ∀ t, l ≠ undoW ++ 32 :: t) (c : Cg) : RCand l c := fun e g hl => by
  rcases okC_k g with k | k | k | k
  · exact absurd (by rw [← hl, lineC, wordC_1 k]) (h1 (restC e))
  · exact absurd (by rw [← hl, lineC, wordC_2 k]) (h2 (restC e))
  · exact absurd (by rw [← hl, lineC, wordC_3 k]) (h3 (restC e))
  · exact absurd (by rw [← hl, lineC, wordC_4 k]) (h4 (restC e))
theorem RCand.yes {l : List UInt8} {c : Cg} (g : okC c) (h : lineC c = l) : RdIs l c 0 := Or.inl ⟨g, h, rfl⟩
theorem RCand.no {l : List UInt8} {c : Cg} (h : RCand l c) (n : ¬ (okC c ∧ lineC c = l)) : RdIs l zeroC 12 := Or.inr ⟨fun e g hl => by
  have := h e g hl
  subst this
  exact n ⟨g, hl⟩, rfl, rfl⟩
end Cgp
end Go.Proofs.YtafeigpmldgifaaDoor
