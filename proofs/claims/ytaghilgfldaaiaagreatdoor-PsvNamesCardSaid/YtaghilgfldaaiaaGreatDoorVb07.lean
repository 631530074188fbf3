/-
  Lemmas and walks, texts joined: VSpl, OAllPl, VTab, VEql, VAlPl, VRound, VDec, ORLine, VRFld, OGreat, OBox, ORCheck, OAllW, Shelf3, ORCut, MRParse, ORRead, OPrAll, OApp, VOwn, VNote, VCkN.
-/
import Derived.Lib.SplitLaws
import Derived.ChangeKeysEq
import Derived.DeepKeys
import Derived.Recover
import Derived.Defers
import Derived.RegionTactic
import Derived.BigRegion
import Derived.BigQuiet
import Derived.Deep.RegionHeld3
import Derived.Deep.DeepCutAuto
import Derived.LoopTactic
import Derived.Deep.MidRow
import Derived.Shelf.Strings.Builder2
import Derived.Shelf.Strings.BuilderF
import Derived.IntWalk
import Derived.OwnWalk
import Derived.Test.YtaghilgfldaaiaaGreatDoorVb04
import Derived.Test.YtaghilgfldaaiaaGreatDoorVb05
import Derived.Test.YtaghilgfldaaiaaGreatDoorVb06
import Derived.Test.YtaghilgfldaaiaaGreatDoorVb02
set_option linter.unusedSimpArgs false
set_option linter.unusedVariables false
/-
  Plain law: a string cut at each of one byte; no walk here.
-/
namespace Go.Proofs.YtaghilgfldaaiaaGreatDoor
namespace Vp
open Go.RowKit Lw

def pieces (c : UInt8) : List UInt8 → List (List UInt8)
  | [] => [[]]
  | x :: r => if x = c then [] :: pieces c r else (x :: (pieces c r).headD []) :: (pieces c r).tail
theorem pieces_ne (c : UInt8) : ∀ l, pieces c l ≠ []
  | [] => by simp [pieces]
  | x :: r => by unfold pieces; split <;> simp
theorem pieces_none {c : UInt8} : ∀ {l : List UInt8}, c ∉ l → pieces c l = [l]
  | [], _ => rfl
  | x :: r, h => by
    have h1 : ¬ x = c := fun e => h (by rw [e]; exact List.mem_cons_self ..)
    have h2 : c ∉ r := fun e => h (List.mem_cons_of_mem _ e)
    unfold pieces
    rw [if_neg h1, pieces_none h2]
    rfl
theorem pieces_cut {c : UInt8} : ∀ {a : List UInt8} (b : List UInt8), c ∉ a → pieces c (a ++ c :: b) = a :: pieces c b
  | [], b, _ => by show pieces c (c :: b) = _; rw [pieces, if_pos rfl]
  | x :: r, b, h => by
    have h1 : ¬ x = c := fun e => h (by rw [e]; exact List.mem_cons_self ..)
    have h2 : c ∉ r := fun e => h (List.mem_cons_of_mem _ e)
    show pieces c (x :: (r ++ c :: b)) = _
    rw [pieces, if_neg h1, pieces_cut b h2]
    rfl
theorem pieces_mem {c : UInt8} : ∀ {l p : List UInt8}, p ∈ pieces c l → p.length ≤ l.length ∧ c ∉ p ∧ ∀ x ∈ p, x ∈ l
  | [], p, h => by
    have : p = [] := List.mem_singleton.1 h
    subst this
    exact ⟨Nat.le_refl _, by simp, fun x hx => hx⟩
  | x :: r, p, h => by
    by_cases e : x = c
    · rw [pieces, if_pos e] at h
      rcases List.mem_cons.1 h with rfl | h
      · exact ⟨Nat.zero_le _, by simp, fun x hx => by cases hx⟩
      · obtain ⟨h1, h2, h3⟩ := pieces_mem h
        exact ⟨Nat.le_succ_of_le h1, h2, fun y hy => List.mem_cons_of_mem _ (h3 y hy)⟩
    · rw [pieces, if_neg e] at h
      have hd : (pieces c r).headD [] ∈ pieces c r := by
        cases hp : pieces c r with
        | nil => exact absurd hp (pieces_ne c r)
        | cons a t => exact List.mem_cons_self ..
      rcases List.mem_cons.1 h with rfl | h
      · obtain ⟨h1, h2, h3⟩ := pieces_mem hd
        refine ⟨Nat.succ_le_succ h1, fun g => ?_, fun y hy => ?_⟩
        · rcases List.mem_cons.1 g with g | g
          · exact e g.symm
          · exact h2 g
        · rcases List.mem_cons.1 hy with rfl | hy
          · exact List.mem_cons_self ..
          · exact List.mem_cons_of_mem _ (h3 y hy)
      · obtain ⟨h1, h2, h3⟩ := pieces_mem (List.mem_of_mem_tail h)
        exact ⟨Nat.le_succ_of_le h1, h2, fun y hy => List.mem_cons_of_mem _ (h3 y hy)⟩
theorem pieces_len (c : UInt8) : ∀ l : List UInt8, (pieces c l).length = l.count c + 1
  | [] => rfl
  | x :: r => by
    have ih := pieces_len c r
    unfold pieces
    split
    · rename_i e
      subst e
      rw [List.length_cons, ih, List.count_cons_self]
    · rename_i e
      rw [List.count_cons_of_ne e]
      cases hp : pieces c r with
      | nil => exact absurd hp (pieces_ne c r)
      | cons a t =>
        rw [hp] at ih
        simpa using ih
theorem indexByte_split : ∀ {l : List UInt8} {c : UInt8} {i : Nat}, Lib.indexByte l c = i → l = l.take i ++ c :: l.drop (i + 1) ∧ c ∉ l.take i := by
  intro l c i h
  obtain ⟨h1, h2⟩ := Lib.indexByte_some h
  obtain ⟨hl, he⟩ := List.getElem?_eq_some_iff.1 h1
  refine ⟨?_, fun g => ?_⟩
  · conv => lhs; rw [← List.take_append_drop i l]
    rw [List.drop_eq_getElem_cons hl, he]
  · obtain ⟨k, hk, e⟩ := List.mem_take_iff_getElem.1 g
    exact h2 k (by omega) (by rw [List.getElem?_eq_getElem (by omega), e])
theorem splitK_pieces (c : UInt8) : ∀ (n : Nat) (l : List UInt8), l.length ≤ n → Lib.splitK [c] 0 (Lib.count l [c]) l = pieces c l
  | n, l, hn => by
    by_cases hm : Lib.indexByte l c = -1
    · have hi : Lib.index l [c] = -1 := by rw [Lib.index_one]; exact hm
      rw [Lib.count_miss hi]
      have : c ∉ l := fun g => by
        obtain ⟨k, hk, e⟩ := List.getElem_of_mem g
        exact Lib.indexByte_none hm k (by rw [List.getElem?_eq_getElem hk, e])
      rw [pieces_none this]
      rfl
    · have ge := Lib.indexByte_ge l c
      obtain ⟨i, hi⟩ : ∃ i : Nat, Lib.indexByte l c = i := ⟨(Lib.indexByte l c).toNat, by omega⟩
      obtain ⟨e1, e2⟩ := indexByte_split hi
      have hx : Lib.index l [c] = (i : Int) := by rw [Lib.index_one]; exact hi
      have hlen : i < l.length := by
        have := congrArg List.length e1
        rw [List.length_append, List.length_cons, List.length_take, List.length_drop] at this
        omega
      rw [Lib.count_hit (by simp) hx, Nat.add_comm 1, Lib.splitK, if_neg (by rw [hx, beq_iff_eq]; omega), hx]
      simp only [Int.toNat_natCast, Nat.add_zero, List.length_cons, List.length_nil, Nat.zero_add]
      match n, hn with
      | 0, hn => omega
      | n + 1, hn =>
        rw [splitK_pieces c n (l.drop (i + 1)) (by rw [List.length_drop]; omega)]
        conv => rhs; rw [e1]
        rw [pieces_cut _ e2]
theorem split_pieces (c : UInt8) (s : ByteArray) : Lib.splitB ⟨#[c]⟩ 0 (Lib.countB s ⟨#[c]⟩) s = (pieces c s.data.toList).map stL := by
  have h := Lib.splitB_data ⟨#[c]⟩ 0 (Lib.countB s ⟨#[c]⟩) s
  have e : Lib.countB s ⟨#[c]⟩ = Lib.count s.data.toList [c] := by first | rfl | exact Lib.countB_data _ _ | exact (Lib.countB_eq _ _)
  rw [e] at h ⊢
  rw [show (⟨#[c]⟩ : ByteArray).data.toList = [c] from rfl, splitK_pieces c _ s.data.toList (Nat.le_refl _)] at h
  rw [← h, List.map_map]
  conv => lhs; rw [← List.map_id (Lib.splitB _ _ _ _)]
  rfl
theorem split_len (c : UInt8) (s : ByteArray) : Lib.countB s ⟨#[c]⟩ + 1 = (pieces c s.data.toList).length := by
  rw [← Lib.splitB_all ⟨#[c]⟩ (Nat.le_refl 1) 0 _ s rfl, split_pieces, List.length_map]
/-- Lines, one behind another. -/
def joinC (c : UInt8) (l : List (List UInt8)) : List UInt8 := Lib.join l [c]
theorem joinC_one (c : UInt8) (a : List UInt8) : joinC c [a] = a := by simp [joinC, Lib.join]
theorem joinC_cons (c : UInt8) (a b : List UInt8) (l : List (List UInt8)) : joinC c (a :: b :: l) = a ++ c :: joinC c (b :: l) := by
  unfold joinC Lib.join
  rw [List.intercalate_cons_cons]
  simp
end Vp
end Go.Proofs.YtaghilgfldaaiaaGreatDoor
/-
  Plain law of lists of observations: what PrintAll, ParseAll say; no walk here.
-/
namespace Go.Proofs.YtaghilgfldaaiaaGreatDoor
namespace Op
open Go.RowKit Lw Go.Proofs.YtaghilgfldaaiaaGreatDoor.Ap Go.Proofs.YtaghilgfldaaiaaGreatDoor.Mp Go.Proofs.YtaghilgfldaaiaaGreatDoor.At Go.Proofs.YtaghilgfldaaiaaGreatDoor.Ow Go.Proofs.YtaghilgfldaaiaaGreatDoor.Mw

def nlS : ByteArray := ⟨#[10]⟩
/-- The error of a list. -/
def allC (l : List Ob) : Int := if 500 < l.length then 4 else if ∀ o ∈ l, okO o then 0 else 8
theorem allC_zero {l : List Ob} (h : l.length ≤ 500) (g : ∀ o ∈ l, okO o) : allC l = 0 := by unfold allC; rw [if_neg (by omega), if_pos g]
theorem allC_many {l : List Ob} (h : 500 < l.length) : allC l = 4 := by unfold allC; rw [if_pos h]
theorem allC_bad {l : List Ob} {i : Nat} (h : l.length ≤ 500) (hi : i < l.length) (g : ¬ okO l[i]) : allC l = 8 := by
  unfold allC; rw [if_neg (by omega), if_neg (fun k => g (k _ (List.getElem_mem hi)))]
theorem allC_ok {l : List Ob} (h : allC l = 0) : l.length ≤ 500 ∧ ∀ o ∈ l, okO o := by
  unfold allC at h
  by_cases c : 500 < l.length
  · rw [if_pos c] at h; cases h
  · rw [if_neg c] at h
    by_cases d : ∀ o ∈ l, okO o
    · exact ⟨by omega, d⟩
    · rw [if_neg d] at h; cases h
/-- The lines of the first k observations. -/
def LinesTo (l : List Ob) : Nat → ByteArray → Prop
  | 0, s => s = ByteArray.empty
  | k + 1, s => ∃ a b o, LinesTo l k a ∧ l[k]? = some o ∧ PrintIs o b 0 ∧ s = a ++ (b ++ nlS)
theorem LinesTo.uniq {l : List Ob} : ∀ {k : Nat} {s s' : ByteArray}, LinesTo l k s → LinesTo l k s' → s = s'
  | 0, _, _, h, h' => h.trans h'.symm
  | _ + 1, _, _, ⟨_, _, _, h1, h2, h3, h4⟩, ⟨_, _, _, g1, g2, g3, g4⟩ => by
    obtain rfl := LinesTo.uniq h1 g1
    obtain rfl := Option.some.inj (h2.symm.trans g2)
    obtain ⟨rfl, _⟩ := h3.uniq g3
    rw [h4, g4]
theorem print0_size {o : Ob} {s : ByteArray} (h : PrintIs o s 0) : s.size = 80 := by
  rcases h with ⟨ok, ⟨day, hd, rfl⟩, _⟩ | ⟨_, _, h⟩
  · obtain ⟨n1, n2, _, G⟩ := line_seg ok hd
    rw [G.size]
  · cases h
theorem LinesTo.size {l : List Ob} : ∀ {k : Nat} {s : ByteArray}, LinesTo l k s → s.size = 81 * k
  | 0, _, h => by rw [h]; rfl
  | k + 1, _, ⟨_, _, _, h1, _, h3, h4⟩ => by
    rw [h4, ByteArray.size_append, ByteArray.size_append, h1.size, print0_size h3, show nlS.size = 1 from rfl]; omega
/-- What PrintAll returns. -/
def PrintAllIs (l : List Ob) (s : ByteArray) (c : Int) : Prop := (allC l = 0 ∧ LinesTo l l.length s ∧ c = 0) ∨ (allC l ≠ 0 ∧ s = ByteArray.empty ∧ c = allC l)
theorem PrintAllIs.uniq {l : List Ob} {s s' : ByteArray} {c c' : Int} (a : PrintAllIs l s c) (b : PrintAllIs l s' c') : s = s' ∧ c = c' := by
  rcases a with ⟨a1, a2, a3⟩ | ⟨a1, a2, a3⟩ <;> rcases b with ⟨b1, b2, b3⟩ | ⟨b1, b2, b3⟩
  · exact ⟨a2.uniq b2, by omega⟩
  · exact absurd a1 b1
  · exact absurd b1 a1
  · exact ⟨by rw [a2, b2], by omega⟩
/-- A line of a file. -/
def StepAt (s : ByteArray) (k : Nat) (o : Ob) : Prop := 81 * k + 81 ≤ s.size ∧ Good (s.extract (81 * k) (81 * k + 80)) o ∧ bt s (81 * k + 80) = 10
/-- The first k lines are read. -/
def PartTo (s : ByteArray) : Nat → List Ob → Prop
  | 0, l => l = []
  | k + 1, l => ∃ l' o, PartTo s k l' ∧ StepAt s k o ∧ l = l' ++ [o]
theorem PartTo.uniq {s : ByteArray} : ∀ {k : Nat} {l l' : List Ob}, PartTo s k l → PartTo s k l' → l = l'
  | 0, _, _, h, h' => h.trans h'.symm
  | _ + 1, _, _, ⟨_, _, h1, h2, h3⟩, ⟨_, _, g1, g2, g3⟩ => by
    obtain rfl := PartTo.uniq h1 g1
    obtain rfl := h2.2.1.uniq g2.2.1
    rw [h3, g3]
theorem PartTo.len {s : ByteArray} : ∀ {k : Nat} {l : List Ob}, PartTo s k l → l.length = k ∧ 81 * k ≤ s.size
  | 0, _, h => by rw [h]; exact ⟨rfl, by omega⟩
  | k + 1, _, ⟨_, _, h1, h2, h3⟩ => by
    obtain ⟨e1, e2⟩ := h1.len
    rw [h3]
    refine ⟨by simp [e1], ?_⟩
    have := h2.1
    omega
theorem PartTo.step {s : ByteArray} : ∀ {k : Nat} {l : List Ob}, PartTo s k l → ∀ j, j < k → ∃ o, StepAt s j o
  | 0, _, _, j, hj => by omega
  | k + 1, _, ⟨_, o, h1, h2, _⟩, j, hj => by
    by_cases e : j = k
    · subst e; exact ⟨o, h2⟩
    · exact h1.step j (by omega)
/-- What ParseAll returns. -/
def ParseAllIs (s : ByteArray) (l : List Ob) (c : Int) : Prop := ∃ k l', PartTo s k l' ∧
  ((81 * k = s.size ∧ k ≤ 500 ∧ l = l' ∧ c = 0) ∨ (81 * k = s.size ∧ 500 < k ∧ l = [] ∧ c = 4) ∨ (81 * k < s.size ∧ (∀ o, ¬ StepAt s k o) ∧ l = [] ∧ c = 12))
theorem ParseAllIs.uniq {s : ByteArray} {l l' : List Ob} {c c' : Int} (a : ParseAllIs s l c) (b : ParseAllIs s l' c') : l = l' ∧ c = c' := by
  obtain ⟨k, m, a1, a2⟩ := a
  obtain ⟨k', m', b1, b2⟩ := b
  have e : k = k' := by
    rcases Nat.lt_trichotomy k k' with h | h | h
    · obtain ⟨o, ho⟩ := b1.step k h
      have := b1.len.2
      have := ho.1
      rcases a2 with ⟨e, _⟩ | ⟨e, _⟩ | ⟨_, e, _⟩
      · omega
      · omega
      · exact absurd ho (e o)
    · exact h
    · obtain ⟨o, ho⟩ := a1.step k' h
      have := a1.len.2
      have := ho.1
      rcases b2 with ⟨e, _⟩ | ⟨e, _⟩ | ⟨_, e, _⟩
      · omega
      · omega
      · exact absurd ho (e o)
  subst e
  obtain rfl := a1.uniq b1
  rcases a2 with ⟨a3, a4, a5, a6⟩ | ⟨a3, a4, a5, a6⟩ | ⟨a3, a4, a5, a6⟩ <;> rcases b2 with ⟨b3, b4, b5, b6⟩ | ⟨b3, b4, b5, b6⟩ | ⟨b3, b4, b5, b6⟩
  · exact ⟨a5.trans b5.symm, by omega⟩
  · omega
  · omega
  · omega
  · exact ⟨a5.trans b5.symm, by omega⟩
  · omega
  · omega
  · omega
  · exact ⟨a5.trans b5.symm, by omega⟩
end Op
end Go.Proofs.YtaghilgfldaaiaaGreatDoor
/-
  Plain law of tables: what is printed, what is read; no walk here.
-/
namespace Go.Proofs.YtaghilgfldaaiaaGreatDoor
namespace Vp
open Go.RowKit Lw Go.Proofs.YtaghilgfldaaiaaGreatDoor.Ap Go.Proofs.YtaghilgfldaaiaaGreatDoor.Op Go.Proofs.YtaghilgfldaaiaaGreatDoor.Mp Go.Proofs.YtaghilgfldaaiaaGreatDoor.Mw Go.Proofs.YtaghilgfldaaiaaGreatDoor.At

/-! ### Fields without separators -/
def cl (l : List UInt8) : Prop := ∀ c ∈ l, c ≠ 10 ∧ c ≠ 124
instance (l : List UInt8) : Decidable (cl l) := by unfold cl; infer_instance
/-! ### Tables -/
def noteP (s : ByteArray) : Prop := (∀ c ∈ s.data.toList, 32 ≤ (c.toNat : Int) ∧ (c.toNat : Int) ≤ 126) ∧ s.size ≤ 100 ∧ Vw.trimS s = s
instance (s : ByteArray) : Decidable (noteP s) := by unfold noteP; infer_instance
def checkN (l : List ByteArray) : Int := if 50 < l.length then 4 else if ∀ s ∈ l, noteP s then 0 else 8
theorem checkN_many {l : List ByteArray} (h : 50 < l.length) : checkN l = 4 := by unfold checkN; rw [if_pos h]
theorem checkN_zero {l : List ByteArray} (h : l.length ≤ 50) (g : ∀ s ∈ l, noteP s) : checkN l = 0 := by unfold checkN; rw [if_neg (by omega), if_pos g]
theorem checkN_bad {l : List ByteArray} (h : l.length ≤ 50) (g : ¬ ∀ s ∈ l, noteP s) : checkN l = 8 := by unfold checkN; rw [if_neg (by omega), if_neg g]
theorem checkN_ok {l : List ByteArray} (h : checkN l = 0) : l.length ≤ 50 ∧ ∀ s ∈ l, noteP s := by
  unfold checkN at h
  by_cases h1 : 50 < l.length
  · rw [if_pos h1] at h; omega
  · rw [if_neg h1] at h
    by_cases h2 : ∀ s ∈ l, noteP s
    · exact ⟨by omega, h2⟩
    · rw [if_neg h2] at h; omega
def noteL (s : ByteArray) : List UInt8 := Lib.trimRightB (35 :: 32 :: s.data.toList) 32
def colB : List ByteArray := [⟨#[110, 97, 109, 101]⟩, ⟨#[115, 116, 110]⟩, ⟨#[111, 98, 115, 84, 105, 109, 101]⟩, ⟨#[114, 97]⟩, ⟨#[100, 101, 99]⟩, ⟨#[115, 105, 103, 109, 97]⟩, ⟨#[109, 97, 103]⟩, ⟨#[98, 97, 110, 100]⟩]
def headL : List UInt8 := joinC 124 (colB.map (·.data.toList))
def linesL (notes : List ByteArray) (rows : List (List UInt8)) : List (List UInt8) := notes.map noteL ++ headL :: rows
def flatL (l : List (List UInt8)) : List UInt8 := l.flatMap (· ++ [10])
theorem flatL_snoc (l : List (List UInt8)) (x : List UInt8) : flatL (l ++ [x]) = flatL l ++ x ++ [10] := by simp [flatL]
/-- A row's text. -/
def RowTx (o : Ob) (r : List UInt8) : Prop := ∃ T, TextIs o.t 6 T 0 ∧ r = joinC 124 ((fieldL o T).map (·.data.toList))
def RowsTx (l : List Ob) (rows : List (List UInt8)) : Prop := rows.length = l.length ∧ ∀ i (h : i < l.length) (g : i < rows.length), RowTx (l[i]'h) (rows[i]'g)
/-- What Print returns. -/
def PrintTIs (notes : List ByteArray) (l : List Ob) (s : ByteArray) (c : Int) : Prop :=
  (checkN notes = 0 ∧ allC l = 0 ∧ c = 0 ∧ ∃ rows, RowsTx l rows ∧ s.data.toList = flatL (linesL notes rows)) ∨ (checkN notes ≠ 0 ∧ s = ByteArray.empty ∧ c = checkN notes) ∨ (checkN notes = 0 ∧ allC l ≠ 0 ∧ s = ByteArray.empty ∧ c = allC l)
def noteR : List (List UInt8) → Option (List ByteArray × List (List UInt8))
  | [] => some ([], [])
  | x :: r => if x.head? = some 35 then (if noteP (Vw.trimS (stL x.tail)) then (noteR r).map (fun p => (Vw.trimS (stL x.tail) :: p.1, p.2)) else none) else some ([], x :: r)
def colIx (s : ByteArray) : Option Nat := colB.findIdx? (fun x => decide (x = s))
def headStep (r : Option (List Nat)) (x : List UInt8) : Option (List Nat) := r.bind fun ord => (colIx (Vw.trimS (stL x))).bind fun k => if k ∈ ord then none else some (ord ++ [k])
def mustP (ord : List Nat) : Prop := 0 ∈ ord ∧ 1 ∈ ord ∧ 2 ∈ ord ∧ 3 ∈ ord ∧ 4 ∈ ord
instance (ord : List Nat) : Decidable (mustP ord) := by unfold mustP; infer_instance
def headR (l : List UInt8) : Option (List Nat) := ((pieces 124 l).foldl headStep (some [])).bind fun ord => if mustP ord then some ord else none
def rowX (order : List Nat) (x : List UInt8) : Option Ob := rowR order ((pieces 124 x).map fun p => Vw.trimS (stL p))
def rowsR (order : List Nat) : List (List UInt8) → Option (List Ob)
  | [] => some []
  | x :: r => (rowX order x).bind fun o => (rowsR order r).map (o :: ·)
def tabR (lines : List (List UInt8)) : Option (List ByteArray × List Ob) := (noteR lines).bind fun p => match p.2 with
  | [] => none
  | h :: rows => (headR h).bind fun order => (rowsR order rows).map fun m => (p.1, m)
/-- What Parse returns. -/
def ParseTIs (s : ByteArray) (n : List ByteArray) (l : List Ob) (c : Int) : Prop :=
  (∃ body, s.data.toList = body ++ [10] ∧ tabR (pieces 10 body) = some (n, l) ∧ n.length ≤ 50 ∧ l.length ≤ 500 ∧ c = 0) ∨
  (∃ body m k, s.data.toList = body ++ [10] ∧ tabR (pieces 10 body) = some (m, k) ∧ (50 < m.length ∨ 500 < k.length) ∧ n = [] ∧ l = [] ∧ c = 4) ∨
  ((∀ body, s.data.toList = body ++ [10] → tabR (pieces 10 body) = none) ∧ n = [] ∧ l = [] ∧ c = 12)
theorem body_uniq {s : ByteArray} {a b : List UInt8} (h : s.data.toList = a ++ [10]) (g : s.data.toList = b ++ [10]) : a = b := by
  rw [h] at g
  exact (List.append_inj' g rfl).1
theorem ParseTIs.uniq {s : ByteArray} {n n' : List ByteArray} {l l' : List Ob} {c c' : Int} (a : ParseTIs s n l c) (b : ParseTIs s n' l' c') : n = n' ∧ l = l' ∧ c = c' := by
  rcases a with ⟨p, a1, a2, a3, a4, a5⟩ | ⟨p, m, k, a1, a2, a3, a4, a5, a6⟩ | ⟨a1, a2, a3, a4⟩ <;> rcases b with ⟨q, b1, b2, b3, b4, b5⟩ | ⟨q, m', k', b1, b2, b3, b4, b5, b6⟩ | ⟨b1, b2, b3, b4⟩
  · obtain rfl := body_uniq a1 b1
    rw [a2] at b2
    injection b2 with b2
    injection b2 with e1 e2
    exact ⟨e1, e2, by omega⟩
  · obtain rfl := body_uniq a1 b1
    rw [a2] at b2
    injection b2 with b2
    injection b2 with e1 e2
    rw [← e1, ← e2] at b3
    omega
  · rw [b1 p a1] at a2; cases a2
  · obtain rfl := body_uniq a1 b1
    rw [a2] at b2
    injection b2 with b2
    injection b2 with e1 e2
    rw [e1, e2] at a3
    omega
  · exact ⟨by rw [a4, b4], by rw [a5, b5], by omega⟩
  · rw [b1 p a1] at a2; cases a2
  · rw [a1 q b1] at b2; cases b2
  · rw [a1 q b1] at b2; cases b2
  · exact ⟨by rw [a2, b2], by rw [a3, b3], by omega⟩

/-! ### What is printed is read back -/
theorem trimR_snoc {l : List UInt8} {c : UInt8} (h : c ≠ 32) : Lib.trimRightB (l ++ [c]) 32 = l ++ [c] := by
  unfold Lib.trimRightB
  rw [List.reverse_append, List.reverse_singleton, List.singleton_append]
  have : (c == 32) = false := beq_eq_false_iff_ne.2 h
  simp [this]
theorem trimR_all {l : List UInt8} : ∀ n, Lib.trimRightB (l ++ List.replicate n 32) 32 = Lib.trimRightB l 32 := fun n => by
  unfold Lib.trimRightB
  rw [List.reverse_append, List.reverse_replicate]
  congr 1
  induction n with
  | zero => rfl
  | succ n ih => rw [List.replicate_succ, List.cons_append, List.dropWhile_cons]; simp [ih]
theorem trim_last {l : List UInt8} (h : Lib.trimB l 32 = l) : l = [] ∨ ∃ r c, l = r ++ [c] ∧ c ≠ 32 := by
  rcases List.eq_nil_or_concat l with rfl | ⟨r, c, rfl⟩
  · exact Or.inl rfl
  · refine Or.inr ⟨r, c, by simp, fun e => ?_⟩
    subst e
    have hl : (Lib.trimB (r ++ [32]) 32).length ≤ r.length := by
      have e : Lib.trimRightB (r ++ [32]) 32 = Lib.trimRightB r 32 := trimR_all 1
      have d : ∀ l : List UInt8, (l.dropWhile (· == 32)).length ≤ l.length := fun l => (List.dropWhile_suffix _).length_le
      unfold Lib.trimB
      rw [e]
      unfold Lib.trimLeftB Lib.trimRightB
      have a := d (r.reverse.dropWhile (· == 32)).reverse
      have b := d r.reverse
      rw [List.length_reverse] at a b
      omega
    rw [List.concat_eq_append] at h
    rw [h, List.length_append] at hl
    simp only [List.length_cons, List.length_nil] at hl
    omega
theorem trim_one_sp {l : List UInt8} (h : Lib.trimB l 32 = l) : Lib.trimB (32 :: l) 32 = l := by
  have e : Lib.trimRightB (32 :: l) 32 = 32 :: l ∨ l = [] := by
    rcases trim_last h with rfl | ⟨r, c, rfl, hc⟩
    · exact Or.inr rfl
    · exact Or.inl (trimR_snoc (l := 32 :: r) hc)
  rcases e with e | rfl
  · unfold Lib.trimB Lib.trimLeftB
    rw [e, List.dropWhile_cons]
    have f : Lib.trimRightB l 32 = l := by
      rcases trim_last h with rfl | ⟨r, c, rfl, hc⟩
      · rfl
      · exact trimR_snoc hc
    unfold Lib.trimB Lib.trimLeftB at h
    rw [f] at h
    simpa using h
  · rfl
theorem note_line {s : ByteArray} (h : noteP s) : noteL s = (if s.data.toList = [] then [35] else 35 :: 32 :: s.data.toList) := by
  have t : Lib.trimB s.data.toList 32 = s.data.toList := by
    have := congrArg (fun x : ByteArray => x.data.toList) h.2.2
    exact this
  unfold noteL
  rcases trim_last t with e | ⟨r, c, e, hc⟩
  · rw [e, if_pos rfl]
    rfl
  · rw [e, if_neg (by simp)]
    exact trimR_snoc (l := 35 :: 32 :: r) hc
theorem note_read {s : ByteArray} (h : noteP s) : (noteL s).head? = some 35 ∧ Vw.trimS (stL (noteL s).tail) = s ∧ 10 ∉ noteL s ∧ (noteL s).length ≤ 102 := by
  have t : Lib.trimB s.data.toList 32 = s.data.toList := congrArg (fun x : ByteArray => x.data.toList) h.2.2
  have sz : s.data.toList.length = s.size := rfl
  have n10 : 10 ∉ s.data.toList := fun g => by
    have := (h.1 10 g).1
    exact absurd this (by decide)
  rw [note_line h]
  by_cases e : s.data.toList = []
  · rw [if_pos e]
    refine ⟨rfl, ?_, by decide, by decide⟩
    unfold Vw.trimS
    have : s = stL [] := by
      obtain ⟨⟨l⟩⟩ := s
      have e : l = [] := e
      rw [e]; rfl
    rw [this]
    rfl
  · rw [if_neg e]
    refine ⟨rfl, ?_, ?_, ?_⟩
    · unfold Vw.trimS
      show stL (Lib.trimB (32 :: s.data.toList) 32) = s
      rw [trim_one_sp t]
      rfl
    · intro g
      rcases List.mem_cons.1 g with g | g
      · exact absurd g (by decide)
      · rcases List.mem_cons.1 g with g | g
        · exact absurd g (by decide)
        · exact n10 g
    · have := h.2.1
      simp only [List.length_cons]
      omega
end Vp
end Go.Proofs.YtaghilgfldaaiaaGreatDoor
/-
  Observations as values: whether they are equal.
-/
namespace Go.Proofs.YtaghilgfldaaiaaGreatDoor
namespace Vw
open Go.RowKit Lw Go.Proofs.YtaghilgfldaaiaaGreatDoor.Op

theorem obs_ext {a b : Ob} (h1 : a.name = b.name) (h2 : a.site = b.site) (h3 : a.t = b.t) (h4 : a.ra = b.ra) (h5 : a.dec = b.dec) (h6 : a.sg = b.sg) (h7 : a.mag = b.mag) (h8 : a.band = b.band) : a = b := by
  cases a; cases b
  simp only at h1 h2 h3 h4 h5 h6 h7 h8
  rw [h1, h2, h3, h4, h5, h6, h7, h8]
instance : DecidableEq Ob := fun a b =>
  if h : a.name = b.name ∧ a.site = b.site ∧ a.t = b.t ∧ a.ra = b.ra ∧ a.dec = b.dec ∧ a.sg = b.sg ∧ a.mag = b.mag ∧ a.band = b.band then isTrue (obs_ext h.1 h.2.1 h.2.2.1 h.2.2.2.1 h.2.2.2.2.1 h.2.2.2.2.2.1 h.2.2.2.2.2.2.1 h.2.2.2.2.2.2.2)
  else isFalse (fun e => h (by subst e; exact ⟨rfl, rfl, rfl, rfl, rfl, rfl, rfl, rfl⟩))
theorem eq_step {P : Program} (w : World) (d : Nat) (xs ys : Array Value) (f : Field) (fs : List Field) (hn : f.name ≠ "_") (hp : P.plainKey f.type = true) (x y : Value) (hx : xs[f.offset]? = some x) (hy : ys[f.offset]? = some y) (r : Bool)
    (hr : (Op.equalIn d f.type x y).run P w = .ok r w) (r' : Bool) (h : (Op.eqFields d xs ys fs).run P w = .ok r' w) : (Op.eqFields d xs ys (f :: fs)).run P w = .ok (r && r') w := by
  simp only [Op.eqFields, hn, ne_eq, not_false_eq_true, if_true, Sem.run_bind, run_part_plain w hp hx, run_part_plain w hp hy, hr, Result.andThen_ok]
  cases r
  · simp
  · simpa using h
def eqB (a b : Ob) : Bool := (a.name.toList == b.name.toList) && ((a.site.toList == b.site.toList) && ((a.t == b.t) && ((a.ra == b.ra) && ((a.dec == b.dec) && ((a.sg == b.sg) && ((a.mag == b.mag) && ((a.band == b.band) && true)))))))
theorem eqB_eq (a b : Ob) : eqB a b = decide (a = b) := by
  unfold eqB
  by_cases h : a = b
  · subst h
    simp
  · rw [decide_eq_false h]
    apply Bool.eq_false_iff.2
    intro e
    simp only [Bool.and_eq_true, beq_iff_eq] at e
    obtain ⟨e1, e2, e3, e4, e5, e6, e7, e8, _⟩ := e
    exact h (obs_ext (by rw [ByteArray.toList_eq, ByteArray.toList_eq] at e1; exact ByteArray.ext (Array.ext' e1)) (by rw [ByteArray.toList_eq, ByteArray.toList_eq] at e2; exact ByteArray.ext (Array.ext' e2)) e3 e4 e5 e6 e7 e8)
theorem fields_of {P : Program} {t : TypeId} {fs : Array Field} (h : P.underlying t = some (.struct fs)) : P.fieldsOf t = fs := by simp [Program.fieldsOf, h]
set_option maxRecDepth 100000 in
theorem obs_eql (a b : Ob) (w : World) : (Op.equalIn 10000 33 (obsV a) (obsV b)).run Tryz.prog w = .ok (decide (a = b)) w := by
  have hfs := fields_of Tryz.underlying33
  have e := run_equalIn_struct (P := Tryz.prog) w 9999 33 #[.string a.name, .string a.site, .int .i64 a.t, .int .i64 a.ra, .int .i64 a.dec, .int .i64 a.sg, .int .i64 a.mag, .int .u8 a.band] #[.string b.name, .string b.site, .int .i64 b.t, .int .i64 b.ra, .int .i64 b.dec, .int .i64 b.sg, .int .i64 b.mag, .int .u8 b.band] (by rw [hfs]; exact Tryz.underlying33) (by kernel_rfl)
  rw [e, hfs, ← eqB_eq]
  refine eq_step w 9999 _ _ _ _ (by decide) (by kernel_rfl) _ _ rfl rfl _ (run_equalIn_string w 9998 _ _ _ Tryz.underlying9) _ ?_
  refine eq_step w 9999 _ _ _ _ (by decide) (by kernel_rfl) _ _ rfl rfl _ (run_equalIn_string w 9998 _ _ _ Tryz.underlying9) _ ?_
  refine eq_step w 9999 _ _ _ _ (by decide) (by kernel_rfl) _ _ rfl rfl _ (run_equalIn_int w 9998 _ .i64 .i64 _ _ Tryz.underlying2) _ ?_
  refine eq_step w 9999 _ _ _ _ (by decide) (by kernel_rfl) _ _ rfl rfl _ (run_equalIn_int w 9998 _ .i64 .i64 _ _ Tryz.underlying2) _ ?_
  refine eq_step w 9999 _ _ _ _ (by decide) (by kernel_rfl) _ _ rfl rfl _ (run_equalIn_int w 9998 _ .i64 .i64 _ _ Tryz.underlying2) _ ?_
  refine eq_step w 9999 _ _ _ _ (by decide) (by kernel_rfl) _ _ rfl rfl _ (run_equalIn_int w 9998 _ .i64 .i64 _ _ Tryz.underlying2) _ ?_
  refine eq_step w 9999 _ _ _ _ (by decide) (by kernel_rfl) _ _ rfl rfl _ (run_equalIn_int w 9998 _ .i64 .i64 _ _ Tryz.underlying3) _ ?_
  refine eq_step w 9999 _ _ _ _ (by decide) (by kernel_rfl) _ _ rfl rfl _ (run_equalIn_int w 9998 _ .u8 .u8 _ _ Tryz.underlying5) _ ?_
  simp [Op.eqFields]
end Vw
end Go.Proofs.YtaghilgfldaaiaaGreatDoor
/-
  Plain law of tables: the chapter's example; tables that are constants; no walk here.
-/
namespace Go.Proofs.YtaghilgfldaaiaaGreatDoor
namespace Vp
open Go.RowKit Lw Go.Proofs.YtaghilgfldaaiaaGreatDoor.Ap Go.Proofs.YtaghilgfldaaiaaGreatDoor.Op Go.Proofs.YtaghilgfldaaiaaGreatDoor.Mp Go.Proofs.YtaghilgfldaaiaaGreatDoor.Mw Go.Proofs.YtaghilgfldaaiaaGreatDoor.At Go.Proofs.YtaghilgfldaaiaaGreatDoor.Ow

def tG : ByteArray := ⟨#[50, 48, 50, 54, 45, 49, 49, 45, 49, 54, 84, 48, 51, 58, 48, 48, 58, 48, 48, 90]⟩
def tG6 : ByteArray := ⟨#[50, 48, 50, 54, 45, 49, 49, 45, 49, 54, 84, 48, 51, 58, 48, 48, 58, 48, 48, 46, 48, 48, 48, 48, 48, 48, 90]⟩
def oG : Ob := ⟨⟨#[120]⟩, ⟨#[70, 53, 49]⟩, 848070069184000, 54000000000, -3600000000, 200000, 9999, 32⟩
theorem k_timeG : ParseIs tG 848070069184000 0 := parse_k (by decide +kernel) (by decide +kernel)
theorem k_textG : TextIs 848070069184000 6 tG6 0 := text_k (dd := 6) (by decide) (y := 2026) (m := 11) (d := 16) (h := 3) (i := 0) (s := 0) (u := 0) (by decide +kernel) (by decide +kernel) (by decide +kernel)
def sG : ByteArray := ⟨([110, 97, 109, 101, 124, 115, 116, 110, 124, 111, 98, 115, 84, 105, 109, 101, 124, 114, 97, 124, 100, 101, 99, 124, 115, 105, 103, 109, 97, 124, 109, 97, 103, 124, 98, 97, 110, 100, 10, 120, 124, 70, 53, 49, 124, 50, 48, 50, 54, 45, 49, 49, 45, 49].append [54, 84, 48, 51, 58, 48, 48, 58, 48, 48, 46, 48, 48, 48, 48, 48, 48, 90, 124, 49, 53, 46, 48, 48, 48, 48, 48, 48, 48, 48, 48, 124, 45, 49, 46, 48, 48, 48, 48, 48, 48, 48, 48, 48, 124, 50, 48, 48, 48, 48, 48, 124, 124, 10]).toArray⟩
def sG2 : ByteArray := ⟨([100, 101, 99, 32, 124, 32, 114, 97, 32, 124, 32, 110, 97, 109, 101, 32, 124, 32, 115, 116, 110, 32, 124, 32, 111, 98, 115, 84, 105, 109, 101, 32, 124, 32, 115, 105, 103, 109, 97, 10, 45, 49, 46, 48, 32, 124, 32].append [49, 53, 46, 48, 32, 124, 32, 120, 32, 124, 32, 70, 53, 49, 32, 124, 32, 50, 48, 50, 54, 45, 49, 49, 45, 49, 54, 84, 48, 51, 58, 48, 48, 58, 48, 48, 90, 32, 124, 32, 50, 48, 48, 48, 48, 48, 10]).toArray⟩
theorem RowTx.uniq {o : Ob} {r s : List UInt8} (h : RowTx o r) (g : RowTx o s) : r = s := by
  obtain ⟨T, hT, rfl⟩ := h
  obtain ⟨U, hU, rfl⟩ := g
  rw [(hT.uniq hU).1]
theorem RowsTx.uniq {l : List Ob} {r s : List (List UInt8)} (h : RowsTx l r) (g : RowsTx l s) : r = s :=
  List.ext_getElem (by rw [h.1, g.1]) fun i h1 h2 => (h.2 i (by rw [← h.1]; exact h1) h1).uniq (g.2 i (by rw [← h.1]; exact h1) h2)
theorem str_toL {s t : ByteArray} (h : s.data.toList = t.data.toList) : s = t := by
  obtain ⟨⟨a⟩⟩ := s
  obtain ⟨⟨b⟩⟩ := t
  have h : a = b := h
  rw [h]
theorem PrintTIs.uniq {n : List ByteArray} {l : List Ob} {s s' : ByteArray} {c c' : Int} (a : PrintTIs n l s c) (b : PrintTIs n l s' c') : s = s' ∧ c = c' := by
  rcases a with ⟨a1, a2, a3, r, a4, a5⟩ | ⟨a1, a2, a3⟩ | ⟨a1, a2, a3, a4⟩ <;> rcases b with ⟨b1, b2, b3, q, b4, b5⟩ | ⟨b1, b2, b3⟩ | ⟨b1, b2, b3, b4⟩
  · obtain rfl := a4.uniq b4
    exact ⟨str_toL (by rw [a5, b5]), by omega⟩
  · omega
  · omega
  · omega
  · exact ⟨by rw [a2, b2], by omega⟩
  · omega
  · omega
  · omega
  · exact ⟨by rw [a3, b3], by omega⟩
/-- A table that is a constant: what is read, by computing. -/
theorem tab_k {s : ByteArray} {n : List ByteArray} {l : List Ob} (h1 : s.data.toList = s.data.toList.dropLast ++ [10]) (h2 : tabR (pieces 10 s.data.toList.dropLast) = some (n, l)) (h3 : n.length ≤ 50) (h4 : l.length ≤ 500) : ParseTIs s n l 0 :=
  Or.inl ⟨_, h1, h2, h3, h4, rfl⟩
def SmallC (s : ByteArray) : Prop := ∀ body n h rows, s.data.toList = body ++ [10] → noteR (pieces 10 body) = some (n, h :: rows) → ∀ x ∈ rows, ∀ p ∈ pieces 124 x, p.length ≤ 100
def smallB (s : ByteArray) : Bool := match noteR (pieces 10 s.data.toList.dropLast) with
  | some (_, _ :: rows) => rows.all fun x => (pieces 124 x).all fun p => decide (p.length ≤ 100)
  | _ => true
theorem small_k {s : ByteArray} (h : smallB s = true) : SmallC s := by
  intro body n x rows hb hn y hy p hp
  have e : s.data.toList.dropLast = body := by rw [hb, List.dropLast_concat]
  unfold smallB at h
  rw [e, hn] at h
  have h : (rows.all fun x => (pieces 124 x).all fun p => decide (p.length ≤ 100)) = true := h
  rw [List.all_eq_true] at h
  have h := h y hy
  rw [List.all_eq_true] at h
  exact of_decide_eq_true (h p hp)
theorem k_sG : ParseTIs sG [] [oG] 0 := tab_k (by decide +kernel) (by decide +kernel) (by decide) (by decide)
theorem k_sG2 : ParseTIs sG2 [] [oG] 0 := tab_k (by decide +kernel) (by decide +kernel) (by decide) (by decide)
theorem small_sG : SmallC sG := small_k (by decide +kernel)
theorem small_sG2 : SmallC sG2 := small_k (by decide +kernel)
theorem k_okG : okO oG := by decide +kernel
theorem k_printG : PrintTIs [] [oG] sG 0 := Or.inl ⟨by decide, by decide +kernel, rfl, [joinC 124 ((fieldL oG tG6).map (·.data.toList))], ⟨rfl, fun i h _ => by
  have : i = 0 := by simpa using h
  subst this
  exact ⟨tG6, k_textG, rfl⟩⟩, by decide +kernel⟩
end Vp
end Go.Proofs.YtaghilgfldaaiaaGreatDoor
/-
  The walk of Round of psv.
-/
namespace Go.Proofs.YtaghilgfldaaiaaGreatDoor
namespace Vw
open Go.RowKit Lw Go.Proofs.YtaghilgfldaaiaaGreatDoor.Ap Go.Proofs.YtaghilgfldaaiaaGreatDoor.Vp Go.Proofs.YtaghilgfldaaiaaGreatDoor.Op Go.Proofs.YtaghilgfldaaiaaGreatDoor.Ow Go.Proofs.YtaghilgfldaaiaaGreatDoor.Mp Go.Proofs.YtaghilgfldaaiaaGreatDoor.At

theorem vcatch_idle (p q : Addr) (w : World) : CallsD Tryz.prog 36 #[.pointer (some p), .pointer (some q)] .returning w fun e u' w' => e = .returned (.tuple #[]) ∧ u' = .returning ∧ w' = w := by
  refine callsD_of_wpS Tryz.func36 rfl fun c₀ cs hu => ?_
  apply wpS_seq
  apply wpS_region
  simp [wpOpsS, go_sem, recoverD, hu, Tryz.ntmps36, Exit.thenS]
  refine wpS_of_wp ?_
  go_wp2
  cases c₀
  simp_all [bodyPostS, results, Tryz.results36]
section
variable {P : Program}
theorem ret_cells {fn : Func} {p q : Tmp} {ty ty2 : TypeId} (h : fn.results = #[.cell p ty, .cell q ty2]) (tmps : Array Value) (w : World) (b c : Nat) (cs : List Value) (z : Value) (d : TypeDesc)
    (hp : tmps.getD p undef = .pointer (some ⟨b, 0, none⟩)) (hq : tmps.getD q undef = .pointer (some ⟨c, 0, none⟩)) (hr : w.rangeAt b 0 cs) (hu : P.underlying ty = some d) (hd : d.isRow = true) (hi : (P.info? ty).map (·.size) = some cs.length)
    (hz : (loadVar ty2 ⟨c, 0, none⟩).run P w = .ok z w) :
    (results fn tmps).run P w = .ok (.tuple #[.agg cs.toArray, z]) w := by
  have hp' : tmps[p]?.getD undef = .pointer (some ⟨b, 0, none⟩) := by simpa using hp
  have hq' : tmps[q]?.getD undef = .pointer (some ⟨c, 0, none⟩) := by simpa using hq
  simp [results, h, hp', hq', asAddr, run_loadVar_mid w b 0 ty cs d hr hu hd hi, hz, Result.andThen]
end
/-- What Round keeps. -/
structure NX (w0 : World) (o q : Ob) (c : Int) (w : World) : Prop where
  bx : Rw w w0.heap.size (obsC o)
  rs : Rw w (w0.heap.size + 1) (obsC q)
  er : Rw w (w0.heap.size + 2) [.int .i64 c]
  below : Below w0.heap.size w0 w
theorem NX.call {w0 w w' : World} {o q : Ob} {c : Int} (h : NX w0 o q c w) (hb : Below w.heap.size w w') : NX w0 o q c w' := ⟨h.bx.call hb, h.rs.call hb, h.er.call hb, below_then h.below hb⟩
theorem NX.new (w : World) (o : Ob) : NX w o zeroO 0 (((w.alloc (.cells (obsC o).toArray 33)).alloc (.cells (obsC zeroO).toArray 33)).alloc (.cells #[.int .i64 0] 25)) := by
  have a1 := (Below.refl w.heap.size w).alloc (Nat.le_refl _) (.cells (obsC o).toArray 33)
  have r1 := Rw.new w (obsC o) 33
  have e1 : (w.alloc (.cells (obsC o).toArray 33)).heap.size = w.heap.size + 1 := by simp
  generalize w.alloc (.cells (obsC o).toArray 33) = v1 at *
  have a2 := (Below.refl v1.heap.size v1).alloc (Nat.le_refl _) (.cells (obsC zeroO).toArray 33)
  have r2 := Rw.new v1 (obsC zeroO) 33
  have e2 : (v1.alloc (.cells (obsC zeroO).toArray 33)).heap.size = v1.heap.size + 1 := by simp
  generalize v1.alloc (.cells (obsC zeroO).toArray 33) = v2 at *
  have a3 := (Below.refl v2.heap.size v2).alloc (Nat.le_refl _) (.cells #[.int .i64 0] 25)
  have r3 := Rw.new v2 [.int .i64 0] 25
  rw [e1] at r2 e2
  rw [e2] at r3
  exact ⟨(r1.call a2).call a3, r2.call a3, r3, below_then (below_then a1 a2) a3⟩
theorem NX.res {w0 w : World} {o q : Ob} {c : Int} (h : NX w0 o q c w) (q' : Ob) : NX w0 o q' c (w.setCells (w0.heap.size + 1) 0 (obsC q')) := by
  have l1 : w0.heap.size + 1 ≠ w0.heap.size := by omega
  have l3 : w0.heap.size + 2 ≠ w0.heap.size + 1 := by omega
  exact ⟨h.bx.sets_apart (obsC q') (Ne.symm l1) 0, h.rs.sets (obsC q') rfl, h.er.sets_apart (obsC q') l3 0, below_setCells (w0.heap.size + 1) (Nat.le_succ _) (obsC q') 0 w h.below⟩
theorem NX.err {w0 w : World} {o q : Ob} {c : Int} (h : NX w0 o q c w) (c' : Int) : NX w0 o q c' (w.setCell ⟨w0.heap.size + 1 + 1, 0, none⟩ (.int .i64 c')) := by
  have l2 : w0.heap.size + 2 ≠ w0.heap.size := by omega
  have l3 : w0.heap.size + 2 ≠ w0.heap.size + 1 := by omega
  exact ⟨h.bx.apart (Ne.symm l2) 0 _, h.rs.apart (Ne.symm l3) 0 _, h.er.set 0 _ (by simp), h.below.setCell (p := ⟨w0.heap.size + 2, 0, none⟩) (by show w0.heap.size ≤ w0.heap.size + 2; omega) _⟩
/-- What Round returns. -/
def VRoundIs (o q : Ob) (c : Int) : Prop := (okO o ∧ q = roundP o ∧ c = 0) ∨ (¬ okO o ∧ q = zeroO ∧ c = 8)
theorem VRoundIs.uniq {o q q' : Ob} {c c' : Int} (a : VRoundIs o q c) (b : VRoundIs o q' c') : q = q' ∧ c = c' := by
  rcases a with ⟨a1, a2, a3⟩ | ⟨a1, a2, a3⟩ <;> rcases b with ⟨b1, b2, b3⟩ | ⟨b1, b2, b3⟩
  · exact ⟨by rw [a2, b2], by omega⟩
  · exact absurd a1 b1
  · exact absurd b1 a1
  · exact ⟨by rw [a2, b2], by omega⟩
def VRoundPost (o : Ob) (w : World) (e : Ending) (w' : World) : Prop := ∃ (q : Ob) (c : Int), e = .returned (.tuple #[obsV q, .int .i64 c]) ∧ VRoundIs o q c ∧ Below w.heap.size w w'
def ord8 : List Nat := [0, 1, 2, 3, 4, 5, 6, 7]
def ordC : List Value := ord8.map fun (n : Nat) => Value.int .i64 (n : Int)
theorem StA.of_row {w : World} {f : Nat} {l : List ByteArray} (h : Rw w f (strC l)) : StA w (some ⟨f, 0, none⟩) l := Or.inr ⟨f, 0, rfl, h.lt, fun i hi => by
  rw [Nat.zero_add]
  exact h.cell (by unfold strC; rw [List.getElem?_map, List.getElem?_eq_getElem hi]; rfl)⟩
theorem InA.of_row {w : World} {g : Nat} (h : Rw w g ordC) : InA w (some ⟨g, 0, none⟩) ord8 := Or.inr ⟨g, 0, rfl, h.lt, fun i hi => by
  rw [Nat.zero_add]
  exact h.cell (by unfold ordC; rw [List.getElem?_map, List.getElem?_eq_getElem hi]; rfl)⟩
theorem row_fields {o : Ob} {T : ByteArray} (ok : okO o) (hT : TextIs o.t 6 T 0) (f g : Nat) (w : World) (hM : MX w) (hE : ES w) (hf : Rw w f (strC (fieldL o T))) (hg : Rw w g ordC) :
    Calls Tryz.prog 37 #[.slice (some ⟨f, 0, none⟩) 8 8, .slice (some ⟨g, 0, none⟩) 8 8] w fun e w' => e = .returned (obsV (roundP o)) ∧ Below w.heap.size w w' := by
  refine (row_any (some ⟨f, 0, none⟩) 8 (fieldL o T) (some ⟨g, 0, none⟩) 8 ord8 w hM hE (StA.of_row hf) (InA.of_row hg) (by decide) (field_size ok hT) (by show (8 : Nat) ≤ _; omega) (by decide)).mono ?_
  rintro e w' ⟨h, hb⟩
  have R := row_round ok hT
  refine ⟨?_, hb⟩
  rcases h with ⟨q, h, rfl, _⟩ | ⟨h, _⟩
  · have : some q = some (roundP o) := h.symm.trans R
    rw [Option.some.inj this]
  · exact absurd (h.symm.trans R) (by simp)
set_option maxRecDepth 100000 in
set_option maxHeartbeats 16000000 in
theorem vround_any (o : Ob) (w : World) (hT : Gt.Tab w) (hE : ES w) (hM : MX w) (hb : OB o) : Calls Tryz.prog 14 #[obsV o] w (VRoundPost o w) := by
  have X0 := Lib.hid (NX.new w o)
  have FI := Lib.hid (fun w' (h : Gt.Tab w') (g : ES w') => fields_any o w' h g hb)
  have HT := Lib.hid (hT.below X0.out.below)
  have HE := Lib.hid (hE.below X0.out.below)
  have HM := Lib.hid (hM.below X0.out.below)
  clear hT hE hM hb
  have hmf : ∀ (fn : Fn) (first cap : Array Value) (w : World), (Instr.makeFunc fn first cap).run Tryz.prog w = .ok (.func fn first cap) w := fun _ _ _ _ => rfl
  go_enter_defers Tryz.func14, Tryz.ntmps14
  have R := X0.out.bx.row
  go_wp2_with (refine wpList_load_mid rfl _ (.tmp 1) rfl w.heap.size 0 rfl (obsC o) _ R Tryz.underlying33 rfl info8 ?_)
  refine (FI.out _ HT.out HE.out).mono ?_
  rintro e w1 ⟨h, hb⟩
  have X1 := Lib.hid (X0.out.call hb)
  have HE1 := Lib.hid (HE.out.below hb)
  have HM1 := Lib.hid (HM.out.below hb)
  clear hb X0 R FI HT HE HM
  rcases h with ⟨T, ok, ht, rfl⟩ | ⟨no, rfl⟩
  · go_upto_region 5 with (refine wpList_store_new rfl _ (.tmp 4) (.tmp 9) rfl _ (strC (fieldL o T)).toArray rfl rfl infoF rfl (str_one (fieldL o T)) ?_)
    go_wp2_with fail
    have a2 := (Below.refl w1.heap.size w1).alloc (Nat.le_refl _) (.cells (strC (fieldL o T)).toArray 69)
    have r2 := Rw.new w1 (strC (fieldL o T)) 69
    have e2 : (w1.alloc (.cells (strC (fieldL o T)).toArray 69)).heap.size = w1.heap.size + 1 := by simp
    obtain ⟨v2, hv2⟩ : ∃ v, w1.alloc (.cells (strC (fieldL o T)).toArray 69) = v := ⟨_, rfl⟩
    rw [hv2] at a2 r2 e2 ⊢
    clear hv2
    have a3 := (Below.refl v2.heap.size v2).alloc (Nat.le_refl _) (.cells ordC.toArray 3)
    have r3 := Rw.new v2 ordC 3
    rw [e2] at r3
    have R2 := r2.call a3
    have b3 := below_then a2 a3
    have RF := Lib.hid (row_fields ok ht w1.heap.size (w1.heap.size + 1) _ (HM1.out.below b3) (HE1.out.below b3) R2 r3)
    have X2 := Lib.hid (X1.out.call b3)
    have OK := Lib.hid ok
    clear a2 r2 e2 a3 r3 R2 b3 X1 HE1 HM1 ht ok
    refine RF.out.mono ?_
    rintro e w4 ⟨rfl, hb⟩
    have X4 := Lib.hid (X2.out.call hb)
    clear hb X2 RF
    have TH := X4.out.rs.th
    have X5 := Lib.hid (X4.out.res (roundP o))
    obtain ⟨w5, hw5⟩ : ∃ w5, w4.setCells (w.heap.size + 1) 0 (obsC (roundP o)) = w5 := ⟨_, rfl⟩
    rw [hw5] at X5
    have HW5 := Lib.hid hw5
    clear hw5
    have ce : w5.cell? ⟨w.heap.size + 1 + 1, 0, none⟩ = some (.int .i64 0) := X5.out.er.cell (j := 0) rfl
    have fe : w5.frozen? ⟨w.heap.size + 1 + 1, 0, none⟩ = false := X5.out.er.free (j := 0) (by simp)
    have X6 := Lib.hid (X5.out.err 0)
    go_wp2_with (refine wpList_store_mid rfl _ (.tmp 2) (.tmp 18) rfl (w.heap.size + 1) 0 (obsC (roundP o)).toArray rfl rfl TH info8 (by simp [Value.oneCell']) ?_; rw [List.toList_toArray, HW5.out])
    obtain ⟨w6, hw6⟩ : ∃ w6, w5.setCell ⟨w.heap.size + 1 + 1, 0, none⟩ (.int .i64 0) = w6 := ⟨_, rfl⟩
    rw [hw6] at X6 ⊢
    refine leaves_cons (f := 36) (args := #[.pointer (some ⟨w.heap.size + 1, 0, none⟩), .pointer (some ⟨w.heap.size + 1 + 1, 0, none⟩)]) (by simp) (by simp [go_sem]) ?_
    refine (vcatch_idle ⟨w.heap.size + 1, 0, none⟩ ⟨w.heap.size + 1 + 1, 0, none⟩ _).mono ?_
    rintro e u' w'' ⟨rfl, rfl, rfl⟩
    have c6 : w''.cell? ⟨w.heap.size + 1 + 1, 0, none⟩ = some (.int .i64 0) := X6.out.er.cell (j := 0) rfl
    exact ⟨_, ret_cells Tryz.results14 _ _ (w.heap.size + 1) (w.heap.size + 1 + 1) (obsC (roundP o)) (.int .i64 0) _ rfl rfl X6.out.rs.row Tryz.underlying33 rfl info8 (by simp [go_sem, c6]), roundP o, 0, rfl, Or.inl ⟨OK.out, rfl, rfl⟩, X6.out.below⟩
  · have a2 := (Below.refl w1.heap.size w1).alloc (Nat.le_refl _) (.cells (strC zeroF).toArray 69)
    have NO := Lib.hid no
    have X4 := Lib.hid (X1.out.call a2)
    clear a2 X1 HE1 HM1 no
    obtain ⟨w4, hw4⟩ : ∃ w4, w1.alloc (.cells (strC zeroF).toArray 69) = w4 := ⟨_, rfl⟩
    rw [hw4] at X4
    have HW4 := Lib.hid hw4
    clear hw4
    have TH := X4.out.rs.th
    have X5 := Lib.hid (X4.out.res zeroO)
    obtain ⟨w5, hw5⟩ : ∃ w5, w4.setCells (w.heap.size + 1) 0 (obsC zeroO) = w5 := ⟨_, rfl⟩
    rw [hw5] at X5
    have HW5 := Lib.hid hw5
    clear hw5
    have ce : w5.cell? ⟨w.heap.size + 1 + 1, 0, none⟩ = some (.int .i64 0) := X5.out.er.cell (j := 0) rfl
    have fe : w5.frozen? ⟨w.heap.size + 1 + 1, 0, none⟩ = false := X5.out.er.free (j := 0) (by simp)
    have X6 := Lib.hid (X5.out.err 8)
    go_upto_region 3 with (refine wpList_store_new rfl _ (.tmp 4) (.tmp 9) rfl _ (strC zeroF).toArray rfl rfl infoF rfl (str_one zeroF) ?_)
    rw [HW4.out]
    go_wp2_with (refine wpList_store_mid rfl _ (.tmp 2) (.tmp 13) rfl (w.heap.size + 1) 0 (obsC zeroO).toArray rfl rfl TH info8 (by simp [Value.oneCell']) ?_; rw [List.toList_toArray, HW5.out])
    obtain ⟨w6, hw6⟩ : ∃ w6, w5.setCell ⟨w.heap.size + 1 + 1, 0, none⟩ (.int .i64 8) = w6 := ⟨_, rfl⟩
    rw [hw6] at X6 ⊢
    have c6 : w6.cell? ⟨w.heap.size + 1 + 1, 0, none⟩ = some (.int .i64 8) := X6.out.er.cell (j := 0) rfl
    exact ⟨_, ret_cells Tryz.results14 _ _ (w.heap.size + 1) (w.heap.size + 1 + 1) (obsC zeroO) (.int .i64 8) _ rfl rfl X6.out.rs.row Tryz.underlying33 rfl info8 (by simp [go_sem, c6]), zeroO, 8, rfl, Or.inr ⟨NO.out, rfl, rfl⟩, X6.out.below⟩
end Vw
end Go.Proofs.YtaghilgfldaaiaaGreatDoor
/-
  The walks of the reference's digits: digitsOf and decimal, with at least so many.
-/
namespace Go.Proofs.YtaghilgfldaaiaaGreatDoor
namespace Vw
open Go.RowKit Lw Go.Proofs.YtaghilgfldaaiaaGreatDoor.Ap Go.Proofs.YtaghilgfldaaiaaGreatDoor.Vp Go.Proofs.YtaghilgfldaaiaaGreatDoor.Op Go.Proofs.YtaghilgfldaaiaaGreatDoor.Ow Go.Proofs.YtaghilgfldaaiaaGreatDoor.Mp Go.Proofs.YtaghilgfldaaiaaGreatDoor.Mw Go.Proofs.YtaghilgfldaaiaaGreatDoor.At

/-- A number's text, as its last digits. -/
theorem dec_dd : ∀ (m n : Nat), n < 10 ^ (m + 1) → (m = 0 ∨ 10 ^ m ≤ n) → Lib.decDigits n = decL n (m + 1)
  | 0, n, h, _ => by
    unfold Lib.decDigits
    rw [dif_pos (by omega)]
    show _ = [dg (n % 10)]
    rw [Nat.mod_eq_of_lt (by omega)]
    rfl
  | m + 1, n, h, g => by
    have hp : 1 ≤ 10 ^ m := Nat.pow_pos (by omega)
    have h2 : 10 ^ (m + 1) ≤ n := by
      rcases g with g | g
      · omega
      · exact g
    rw [Nat.pow_succ] at h h2
    have ih := dec_dd m (n / 10) (by omega) (by omega)
    unfold Lib.decDigits
    rw [dif_neg (by omega), ih, decL]
    rfl
theorem len_ex : ∀ (M n : Nat), n < 10 ^ (M + 1) → ∃ m, m ≤ M ∧ n < 10 ^ (m + 1) ∧ (m = 0 ∨ 10 ^ m ≤ n)
  | 0, n, h => ⟨0, Nat.le_refl _, h, Or.inl rfl⟩
  | M + 1, n, h => by
    by_cases g : n < 10 ^ (M + 1)
    · obtain ⟨m, a, b, c⟩ := len_ex M n g
      exact ⟨m, by omega, b, c⟩
    · exact ⟨M + 1, Nat.le_refl _, h, Or.inr (by omega)⟩
/-- The padded text of a number, as its last digits. -/
theorem pad_dec (n d : Nat) (hd : 1 ≤ d) (h : n < 10 ^ d) : Gt.padL (n : Int) d = decL n d := by
  have e1 : ∀ (m k : Nat), m < 10 ^ (k + 1) → decL m (k + 1 + 1) = 48 :: decL m (k + 1) := fun m k hm => by
    have := dec_cons (k + 1) m
    rw [Nat.div_eq_of_lt hm] at this
    exact this
  have e2 : ∀ (j m k : Nat), m < 10 ^ (k + 1) → decL m (k + 1 + j) = Lib.repeatL [48] j ++ decL m (k + 1) := fun j => by
    induction j with
    | zero => exact fun m k _ => rfl
    | succ j ih =>
      intro m k hm
      have hp : 10 ^ (k + 1) ≤ 10 ^ (k + j + 1) := Nat.pow_le_pow_right (by omega) (by omega)
      have e := e1 m (k + j) (by omega)
      rw [show k + 1 + (j + 1) = k + j + 1 + 1 by omega, e, show k + j + 1 = k + 1 + j by omega, ih m k hm]
      rfl
  obtain ⟨D, rfl⟩ : ∃ D, d = D + 1 := ⟨d - 1, by omega⟩
  obtain ⟨m, a, b, c⟩ := len_ex D n h
  have e := dec_dd m n b c
  unfold Gt.padL
  rw [itoa_pos, e, decL_len]
  have := e2 (D - m) n m b
  rw [show m + 1 + (D - m) = D + 1 by omega] at this
  rw [this, show D + 1 - (m + 1) = D - m by omega]
end Vw
end Go.Proofs.YtaghilgfldaaiaaGreatDoor
/-
  The walk of line of the reference of observations.
-/
namespace Go.Proofs.YtaghilgfldaaiaaGreatDoor
namespace Ow
open Go.RowKit Lw Go.Proofs.YtaghilgfldaaiaaGreatDoor.Ap Go.Proofs.YtaghilgfldaaiaaGreatDoor.Op Go.Proofs.YtaghilgfldaaiaaGreatDoor.Mp Go.Proofs.YtaghilgfldaaiaaGreatDoor.Mw Go.Proofs.YtaghilgfldaaiaaGreatDoor.At

/-- The same with the cells that are read. -/
abbrev LS (w0 : World) (b : Nat) (o : Ob) (w : World) : Prop := w.cell? ⟨b, 6, none⟩ = some (.int .i64 o.mag) ∧ w.cell? ⟨b, 7, none⟩ = some (.int .u8 o.band) ∧ OX w0 b o w
theorem OX.ls {w0 w : World} {b : Nat} {o : Ob} (h : OX w0 b o w) : LS w0 b o w := by
  have a := h.row 6 _ rfl
  have c := h.row 7 _ rfl
  rw [Nat.zero_add] at a c
  exact ⟨a, c, h⟩
end Ow
end Go.Proofs.YtaghilgfldaaiaaGreatDoor
/-
  The walk of the reference's Fields.
-/
namespace Go.Proofs.YtaghilgfldaaiaaGreatDoor
namespace Vw
open Go.RowKit Lw Go.Proofs.YtaghilgfldaaiaaGreatDoor.Ap Go.Proofs.YtaghilgfldaaiaaGreatDoor.Vp Go.Proofs.YtaghilgfldaaiaaGreatDoor.Op Go.Proofs.YtaghilgfldaaiaaGreatDoor.Ow Go.Proofs.YtaghilgfldaaiaaGreatDoor.Mp Go.Proofs.YtaghilgfldaaiaaGreatDoor.Mw Go.Proofs.YtaghilgfldaaiaaGreatDoor.At

/-- What the reference's Fields keeps. -/
structure GX (w0 : World) (o : Ob) (w : World) : Prop where
  bx : Rw w w0.heap.size (obsC o)
  below : Below w0.heap.size w0 w
theorem GX.call {w0 w w' : World} {o : Ob} (h : GX w0 o w) (hb : Below w.heap.size w w') : GX w0 o w' := ⟨h.bx.call hb, below_then h.below hb⟩
theorem GX.new (w : World) (o : Ob) : GX w o (w.alloc (.cells (obsC o).toArray 33)) := ⟨Rw.new w (obsC o) 33, (Below.refl _ _).alloc (Nat.le_refl _) _⟩
end Vw
end Go.Proofs.YtaghilgfldaaiaaGreatDoor
/-
  The walk of Great of the reference of observations.
-/
namespace Go.Proofs.YtaghilgfldaaiaaGreatDoor
namespace Ow
open Go.RowKit Lw Go.Proofs.YtaghilgfldaaiaaGreatDoor.Ap Go.Proofs.YtaghilgfldaaiaaGreatDoor.Op Go.Proofs.YtaghilgfldaaiaaGreatDoor.Mp Go.Proofs.YtaghilgfldaaiaaGreatDoor.Mw

/-- Observations in a row of memory. -/
def ObsAt (w : World) (b off : Nat) (l : List Ob) : Prop := ∀ i (h : i < l.length), w.rangeAt b (off + i * 8) (obsC (l[i]'h))
theorem ObsAt.below {w w' : World} {b off : Nat} {l : List Ob} (h : ObsAt w b off l) (hb : Below w.heap.size w w') (lt : b < w.heap.size) : ObsAt w' b off l := fun i hi => rangeAt_below (h i hi) hb lt
/-- An observation with long names. -/
def longP (o : Ob) : Prop := 100 < o.name.size ∨ 100 < o.site.size
instance (o : Ob) : Decidable (longP o) := by unfold longP; infer_instance
def greatB (l : List Ob) (most : Int) : Bool := decide ((∃ o ∈ l, longP o) ∨ (most < l.length ∧ (l.length : Int) ≤ 500) ∨ 510 < (l.length : Int))
theorem great_yes {l : List Ob} {most : Int} {i : Nat} (h : i < l.length) (g : longP l[i]) : greatB l most = true := decide_eq_true (Or.inl ⟨_, List.getElem_mem h, g⟩)
theorem great_no {l : List Ob} {most : Int} (h : ∀ i (hi : i < l.length), ¬ longP (l[i]'hi)) : greatB l most = decide ((most < l.length ∧ (l.length : Int) ≤ 500) ∨ 510 < (l.length : Int)) := by
  refine decide_eq_decide.2 ⟨fun g => ?_, fun g => Or.inr g⟩
  rcases g with ⟨o, ho, g⟩ | g
  · obtain ⟨i, hi, rfl⟩ := List.getElem_of_mem ho
    exact absurd g (h i hi)
  · exact g
set_option maxRecDepth 100000 in
set_option maxHeartbeats 4000000 in
theorem great_any (b off cap : Nat) (l : List Ob) (most : Int) (w : World) (hl : ObsAt w b off l) (hm : l.length ≤ 1000000) (hn : ∀ o ∈ l, o.name.size ≤ maxLen ∧ o.site.size ≤ maxLen) :
    Calls Tryz.prog 9 #[.slice (some ⟨b, off, none⟩) l.length cap, .int .i64 most] w fun e w' => e = .returned (.bool (greatB l most)) ∧ w = w' := by
  have HL := Lib.hid hl
  have HN := Lib.hid hn
  have GY := Lib.hid (fun i (h : i < l.length) (g : longP l[i]) => great_yes (most := most) h g)
  obtain ⟨n, hnl⟩ : ∃ n, l.length = n := ⟨_, rfl⟩
  have GN : Hid ((∀ i (hi : i < l.length), ¬ longP (l[i]'hi)) → greatB l most = decide ((most < (n : Int) ∧ (n : Int) ≤ 500) ∨ 510 < (n : Int))) := Lib.hid fun h => by rw [great_no h, hnl]
  clear hl hn
  generalize greatB l most = gb at *
  rw [hnl] at hm ⊢
  have NL := Lib.hid hnl
  clear hnl
  go_enter Tryz.func9, Tryz.ntmps9
  go_wp2_with fail
  go_loop [5] (fun i => ∃ k : Nat, k ≤ n ∧ i = .int .i64 k ∧ Hid (∀ j (h : j < l.length), j < k → ¬ longP (l[j]'h))) (fun i => n - (intOf i).toNat)
  case atStart => exact ⟨0, Nat.zero_le _, rfl, Lib.hid (fun j _ h => by omega)⟩
  case round =>
    obtain ⟨k, hk, rfl, D⟩ := hrel
    by_cases hlt : k < n
    · have hkl : k < l.length := by rw [NL.out]; exact hlt
      have r := HL.out k hkl
      have q0 := r 0 _ rfl
      have q1 := r 1 _ rfl
      rw [Nat.add_zero] at q0
      have i1 : (k : Int) < (n : Int) := by omega
      have GYk := Lib.hid (GY.out k hkl)
      have DK := Lib.hid (fun (g : ¬ longP (l[k]'hkl)) => (show ∀ j (h : j < l.length), j < k + 1 → ¬ longP (l[j]'h) from fun j h hj => by
        by_cases e : j = k
        · subst e; exact g
        · exact D.out j h (by omega)))
      have zz := HN.out _ (List.getElem_mem hkl)
      unfold longP maxLen at *
      clear r D
      generalize (l[k]'hkl).name = nm at *
      generalize (l[k]'hkl).site = st at *
      obtain ⟨z1, z2⟩ := zz
      by_cases g1 : 100 < nm.size
      · have e := Lib.hid (GYk.out (Or.inl g1))
        have g1' : (100 : Int) < nm.size := by omega
        clear GYk DK
        go_wp2_with fail
        go_ret
        exact ⟨by rw [e.out]; rfl, rfl⟩
      · have g1' : ¬ (100 : Int) < nm.size := by omega
        by_cases g2 : 100 < st.size
        · have e := Lib.hid (GYk.out (Or.inr g2))
          have g2' : (100 : Int) < st.size := by omega
          clear GYk DK
          go_wp2_with fail
          go_ret
          exact ⟨by rw [e.out]; rfl, rfl⟩
        · have g2' : ¬ (100 : Int) < st.size := by omega
          have D2 := Lib.hid (DK.out (fun h => h.elim g1 g2))
          clear GYk DK
          go_wp2_with fail
          go_round
          case rel => exact ⟨k + 1, by omega, by go_num, D2⟩
          case measure => simp [intOf]; omega
    · obtain rfl : k = n := by omega
      have E := Lib.hid (GN.out (fun i hi => D.out i hi (by have := NL.out; omega)))
      clear GN D GY HN
      by_cases c1 : most < (k : Int)
      · by_cases c2 : (k : Int) ≤ 500
        · rw [decide_eq_true (Or.inl ⟨c1, c2⟩)] at E
          go_wp2_with fail
          go_ret
          exact ⟨by rw [E.out]; rfl, rfl⟩
        · by_cases c3 : 510 < (k : Int)
          · rw [decide_eq_true (Or.inr c3)] at E
            go_wp2_with fail
            go_ret
            exact ⟨by rw [E.out]; rfl, rfl⟩
          · rw [decide_eq_false (fun h => h.elim (fun x => c2 x.2) c3)] at E
            go_wp2_with fail
            go_ret
            exact ⟨by rw [E.out]; rfl, rfl⟩
      · by_cases c3 : 510 < (k : Int)
        · rw [decide_eq_true (Or.inr c3)] at E
          go_wp2_with fail
          go_ret
          exact ⟨by rw [E.out]; rfl, rfl⟩
        · rw [decide_eq_false (fun h => h.elim (fun x => c1 x.1) c3)] at E
          go_wp2_with fail
          go_ret
          exact ⟨by rw [E.out]; rfl, rfl⟩
end Ow
end Go.Proofs.YtaghilgfldaaiaaGreatDoor
/-
  An observation in a box: what stays at calls, and at stores into its cells.
-/
namespace Go.Proofs.YtaghilgfldaaiaaGreatDoor
namespace Ow
open Go.RowKit Lw Go.Proofs.YtaghilgfldaaiaaGreatDoor.Ap Go.Proofs.YtaghilgfldaaiaaGreatDoor.Op Go.Proofs.YtaghilgfldaaiaaGreatDoor.Mp Go.Proofs.YtaghilgfldaaiaaGreatDoor.Mw

structure Box (b : Nat) (o : Ob) (w : World) : Prop where
  lt : b < w.heap.size
  row : w.rangeAt b 0 (obsC o)
  th : w.there b 0 8
theorem Box.call {w w' : World} {b : Nat} {o : Ob} (h : Box b o w) (hb : Below w.heap.size w w') : Box b o w' := ⟨Nat.lt_of_lt_of_le h.lt hb.size, rangeAt_below h.row hb h.lt, there_below h.th hb h.lt⟩
theorem Box.new (w : World) (o : Ob) : Box w.heap.size o (w.alloc (.cells (obsC o).toArray 33)) := ⟨by simp, rangeAt_new w _ _, there_new w _ _ 8 (by show 8 ≤ 8; omega)⟩
theorem Box.set {w : World} {b : Nat} {o : Ob} (h : Box b o w) (i : Nat) (v : Value) (o' : Ob) (_hi : i < 8) (e : obsC o' = (obsC o).set i v) : Box b o' (w.setCell ⟨b, i, none⟩ v) := by
  have out := World.cell?_setCells_out b [v] i w
  have inn := World.cell?_setCells_in b [v] i w (fun j hj => by
    have hj : j < 1 := hj
    have := (h.th (i + j) (by omega)).1
    rwa [Nat.zero_add] at this)
  have ew : w.setCells b i [v] = w.setCell ⟨b, i, none⟩ v := rfl
  have fz : ∀ p, (w.setCell ⟨b, i, none⟩ v).frozen? p = w.frozen? p := fun p => by rw [← ew, World.frozen?_setCells]
  rw [ew] at out inn
  refine ⟨?_, ?_, ?_⟩
  · have := sets_size b [v] i w
    rw [ew] at this
    rw [this]; exact h.lt
  · intro j x hx
    rw [e] at hx
    rw [Nat.zero_add]
    by_cases hj : j = i
    · subst hj
      have hl : j < (obsC o).length := _hi
      rw [List.getElem?_set_self hl] at hx
      have := inn 0 (by show 0 < 1; omega)
      rw [Nat.add_zero] at this
      rw [this]; exact hx
    · rw [List.getElem?_set_ne (fun h => hj h.symm)] at hx
      rw [out _ (fun _ _ => by show j < i ∨ i + 1 ≤ j; omega)]
      have := h.row j x hx
      rwa [Nat.zero_add] at this
  · intro j hj
    refine ⟨?_, by rw [fz]; exact (h.th j hj).2⟩
    rw [Nat.zero_add]
    by_cases hj2 : j = i
    · subst hj2
      have := inn 0 (by show 0 < 1; omega)
      rw [Nat.add_zero] at this
      rw [this]; rfl
    · rw [out _ (fun _ _ => by show j < i ∨ i + 1 ≤ j; omega)]
      have := (h.th j hj).1
      rwa [Nat.zero_add] at this
theorem Box.apart {w : World} {b c : Nat} {o : Ob} (h : Box b o w) (hc : b ≠ c) (i : Nat) (v : Value) : Box b o (w.setCell ⟨c, i, none⟩ v) := by
  have out := World.cell?_setCells_out c [v] i w
  have ew : w.setCells c i [v] = w.setCell ⟨c, i, none⟩ v := rfl
  have fz : ∀ p, (w.setCell ⟨c, i, none⟩ v).frozen? p = w.frozen? p := fun p => by rw [← ew, World.frozen?_setCells]
  rw [ew] at out
  refine ⟨?_, ?_, ?_⟩
  · have := sets_size c [v] i w
    rw [ew] at this
    rw [this]; exact h.lt
  · intro j x hx
    rw [out _ (fun e => absurd e hc)]
    exact h.row j x hx
  · intro j hj
    rw [fz, out _ (fun e => absurd e hc)]
    exact h.th j hj
theorem OX.apart {w0 w : World} {b c : Nat} {o : Ob} (h : OX w0 b o w) (hc : b ≠ c) (h0 : w0.heap.size ≤ c) (i : Nat) (v : Value) : OX w0 b o (w.setCell ⟨c, i, none⟩ v) := by
  have out := World.cell?_setCells_out c [v] i w
  have ew : w.setCells c i [v] = w.setCell ⟨c, i, none⟩ v := rfl
  rw [ew] at out
  refine ⟨h.below.setCell (p := ⟨c, i, none⟩) h0 v, ?_, ?_⟩
  · have := sets_size c [v] i w
    rw [ew] at this
    rw [this]; exact h.lt
  · intro j x hx
    rw [out _ (fun e => absurd e hc)]
    exact h.row j x hx
theorem OX.draws {w0 w : World} {b : Nat} {o : Ob} (h : OX w0 b o w) (n : Nat) : OX w0 b o (w.drewN n) := h.call (drewN_below2 (Below.refl _ _) n)
theorem Box.draws {w : World} {b : Nat} {o : Ob} (h : Box b o w) (n : Nat) : Box b o (w.drewN n) := h.call (drewN_below2 (Below.refl _ _) n)
end Ow
end Go.Proofs.YtaghilgfldaaiaaGreatDoor
/-
  The walk of Check of the reference of observations.
-/
namespace Go.Proofs.YtaghilgfldaaiaaGreatDoor
namespace Ow
open Go.RowKit Lw Go.Proofs.YtaghilgfldaaiaaGreatDoor.Ap Go.Proofs.YtaghilgfldaaiaaGreatDoor.Op Go.Proofs.YtaghilgfldaaiaaGreatDoor.Mp Go.Proofs.YtaghilgfldaaiaaGreatDoor.Mw

set_option maxRecDepth 100000 in
set_option maxHeartbeats 16000000 in
theorem rcheck_any (o : Ob) (w : World) (h0 : -9223372036854775808 ≤ o.t) (h1 : o.t ≤ 9223372036854775807) (b0 : 0 ≤ o.band) (b1 : o.band ≤ 255) (n1 : o.name.size ≤ maxLen) (n2 : o.site.size ≤ maxLen) :
    Calls Tryz.prog 17 #[obsV o] w fun e w' => e = .returned (.int .i64 (checkC o)) ∧ Below w.heap.size w w' := by
  have K1 := Lib.hid (fun (a : preB o = true) (b : magP o.mag o.band) => check_ok a b)
  have K2 := Lib.hid (fun (b : ¬ magP o.mag o.band) => check_m b)
  have K3 := Lib.hid (fun (b : preB o = false) => check_p b)
  have PD := Lib.hid (show preA o = decide (timeP o.t ∧ nameP o.name ∧ o.site.size = 3 ∧ wordP o.site.data.toList) from rfl)
  have PB := Lib.hid (preB_of o)
  have X0 := OX.new w o
  obtain ⟨nm, st, tt, ra, dec, sg, mg, bd⟩ := o
  simp only at h0 h1 b0 b1 n1 n2 K1 K2 PD PB
  generalize checkC ⟨nm, st, tt, ra, dec, sg, mg, bd⟩ = cc at *
  generalize preB ⟨nm, st, tt, ra, dec, sg, mg, bd⟩ = pb at *
  generalize preA ⟨nm, st, tt, ra, dec, sg, mg, bd⟩ = pa at *
  have C1 := Lib.hid (fun w' => rtime_any tt w' h0 h1)
  have C2 := Lib.hid (fun w' => rname_any nm w' n1)
  have C3 := Lib.hid (fun w' => rword_any st w' n2)
  have q0 := X0.row 0 _ rfl
  have q1 := X0.row 1 _ rfl
  have q2 := X0.row 2 _ rfl
  have q3 := X0.row 3 _ rfl
  have q4 := X0.row 4 _ rfl
  have q5 := X0.row 5 _ rfl
  have q6 := X0.row 6 _ rfl
  have q7 := X0.row 7 _ rfl
  simp only [Nat.zero_add] at q0 q1 q2 q3 q4 q5 q6 q7
  have XX := Lib.hid X0
  have NB := Lib.hid (show nameB nm = true ↔ nameP nm from decide_eq_true_iff)
  have WB := Lib.hid (show wordB st.data.toList = true ↔ wordP st.data.toList from decide_eq_true_iff)
  clear X0 h0 h1 n1
  unfold maxLen at n2
  generalize nameB nm = nb at *
  generalize wordB st.data.toList = wb at *
  go_enter Tryz.func17, Tryz.ntmps17
  go_wp2_with fail
  refine (C1.out _).mono ?_
  rintro e w1 ⟨y, m, d, h, i, s, u, c, rfl, hc, hb⟩
  have bb := below_then hb ((Below.refl _ w1).alloc (Nat.le_refl _) (.cells (dateC y m d h i s u).toArray 75))
  have X1 := XX.out.call bb
  have lt1 : w.heap.size < w1.heap.size := by have := hb.size; simp at this; omega
  clear q0 q1 q2 q3 q4 q5 q6 q7
  have q0 := (XX.out.call hb).row 0 _ rfl
  have q1 := (XX.out.call hb).row 1 _ rfl
  have q2 := (XX.out.call hb).row 2 _ rfl
  have q3 := (XX.out.call hb).row 3 _ rfl
  have q4 := (XX.out.call hb).row 4 _ rfl
  have q5 := (XX.out.call hb).row 5 _ rfl
  have q6 := (XX.out.call hb).row 6 _ rfl
  have q7 := (XX.out.call hb).row 7 _ rfl
  simp only [Nat.zero_add] at q0 q1 q2 q3 q4 q5 q6 q7
  have XX1 := Lib.hid X1
  have HC := Lib.hid hc
  clear hb bb X1 XX C1 hc
  go_upto_region 2 with (refine wpList_store_new rfl _ (.tmp 3) (.tmp 9) rfl _ _ rfl rfl info7 rfl ?_ ?_; simp [Value.oneCell'])
  go_cut [60] (fun q wx => q = .bool (!pb) ∧ OX w w.heap.size ⟨nm, st, tt, ra, dec, sg, mg, bd⟩ wx)
  case first =>
    clear K1 K2 K3
    cases nb
    · have P := Lib.hid (PD.out.trans (decide_eq_false fun g => by have := NB.out.2 g.2.1; cases this))
      have P2 := Lib.hid (PB.out.trans (by rw [P.out]; rfl : _ = false))
      clear PD PB P
      go_wp2_with (first | (refine (C2.out _).mono ?_; rintro e w2 ⟨rfl, rfl⟩) | (refine wpList_store_new rfl _ (.tmp 3) (.tmp 9) rfl _ _ rfl rfl info7 rfl ?_ ?_; simp [Value.oneCell']))
      go_meet
      exact ⟨by rw [P2.out]; rfl, XX1.out⟩
    · by_cases h3 : st.size = 3
      · have k3 : (st.size : Int) = 3 := by omega
        cases wb
        · have P := Lib.hid (PD.out.trans (decide_eq_false fun g => by have := WB.out.2 g.2.2.2; cases this))
          have P2 := Lib.hid (PB.out.trans (by rw [P.out]; rfl : _ = false))
          clear PD PB P
          go_wp2_with (first | (refine (C2.out _).mono ?_; rintro e w2 ⟨rfl, rfl⟩) | (refine (C3.out _).mono ?_; rintro e w3 ⟨rfl, rfl⟩) | (refine wpList_store_new rfl _ (.tmp 3) (.tmp 9) rfl _ _ rfl rfl info7 rfl ?_ ?_; simp [Value.oneCell']))
          go_meet
          exact ⟨by rw [P2.out]; rfl, XX1.out⟩
        · rcases HC.out with ⟨ht, rfl⟩ | ⟨ht, rfl⟩
          · have P := Lib.hid (PD.out.trans (decide_eq_true ⟨ht, NB.out.1 (by first | rfl | trivial), h3, WB.out.1 (by first | rfl | trivial)⟩))
            have P1 := Lib.hid (PB.out.trans (by rw [P.out, Bool.true_and] : _ = decide (rngP ra dec sg)))
            clear PD PB P ht HC
            rcases rng_cases ra dec sg with g | ⟨g, g'⟩
            · have P2 := Lib.hid (P1.out.trans (decide_eq_true g))
              obtain ⟨r1, r2, r3, r4, r5, r6⟩ := g
              clear P1
              go_wp2_with (first | (refine (C2.out _).mono ?_; rintro e w2 ⟨rfl, rfl⟩) | (refine (C3.out _).mono ?_; rintro e w3 ⟨rfl, rfl⟩) | (refine wpList_store_new rfl _ (.tmp 3) (.tmp 9) rfl _ _ rfl rfl info7 rfl ?_ ?_; simp [Value.oneCell']))
              go_meet
              exact ⟨by first | (rw [P2.out]; rfl) | (rw [P2.out]; congr 1; simp; omega), XX1.out⟩
            · have P2 := Lib.hid (P1.out.trans (decide_eq_false g))
              clear P1 g
              rcases g' with r1 | ⟨r1, r2⟩ | ⟨r1, r2, r3⟩ | ⟨r1, r2, r3, r4⟩ | ⟨r1, r2, r3, r4, r5⟩ | ⟨r1, r2, r3, r4, r5, r6⟩
              all_goals
                go_wp2_with (first | (refine (C2.out _).mono ?_; rintro e w2 ⟨rfl, rfl⟩) | (refine (C3.out _).mono ?_; rintro e w3 ⟨rfl, rfl⟩) | (refine wpList_store_new rfl _ (.tmp 3) (.tmp 9) rfl _ _ rfl rfl info7 rfl ?_ ?_; simp [Value.oneCell']))
                go_meet
                exact ⟨by first | (rw [P2.out]; rfl) | (rw [P2.out]; congr 1; simp; omega), XX1.out⟩
          · have P := Lib.hid (PD.out.trans (decide_eq_false fun g => ht g.1))
            have P2 := Lib.hid (PB.out.trans (by rw [P.out]; rfl : _ = false))
            clear PD PB P ht HC
            go_wp2_with (first | (refine (C2.out _).mono ?_; rintro e w2 ⟨rfl, rfl⟩) | (refine (C3.out _).mono ?_; rintro e w3 ⟨rfl, rfl⟩) | (refine wpList_store_new rfl _ (.tmp 3) (.tmp 9) rfl _ _ rfl rfl info7 rfl ?_ ?_; simp [Value.oneCell']))
            go_meet
            exact ⟨by rw [P2.out]; rfl, XX1.out⟩
      · have P := Lib.hid (PD.out.trans (decide_eq_false fun g => h3 g.2.2.1))
        have P2 := Lib.hid (PB.out.trans (by rw [P.out]; rfl : _ = false))
        have k3 : ¬ (st.size : Int) = 3 := by omega
        clear PD PB P
        go_wp2_with (first | (refine (C2.out _).mono ?_; rintro e w2 ⟨rfl, rfl⟩) | (refine wpList_store_new rfl _ (.tmp 3) (.tmp 9) rfl _ _ rfl rfl info7 rfl ?_ ?_; simp [Value.oneCell']))
        go_meet
        exact ⟨by rw [P2.out]; rfl, XX1.out⟩
  case rest =>
    obtain ⟨rfl, X4⟩ := hcut
    clear q0 q1 q2 q3 q4 q5 q6 q7
    have q0 := X4.row 0 _ rfl
    have q1 := X4.row 1 _ rfl
    have q2 := X4.row 2 _ rfl
    have q3 := X4.row 3 _ rfl
    have q4 := X4.row 4 _ rfl
    have q5 := X4.row 5 _ rfl
    have q6 := X4.row 6 _ rfl
    have q7 := X4.row 7 _ rfl
    simp only [Nat.zero_add] at q0 q1 q2 q3 q4 q5 q6 q7
    have XX4 := Lib.hid X4
    clear X4 XX1 HC PD PB C2 C3 NB WB lt1
    cases pb
    · have E := Lib.hid (K3.out rfl)
      clear K1 K2 K3
      go_wp2_with fail
      go_ret
      exact ⟨by rw [E.out]; rfl, XX4.out.below⟩
    · have L1 := Lib.hid (fun w' => rletter_any bd w')
      rcases mag_cases mg bd with ⟨rfl, rfl, g⟩ | ⟨h9, rfl, h1, g⟩ | ⟨h9, rfl, h1, h2, g⟩ | ⟨h9, rfl, h1, h2, g⟩ | ⟨hb, h1, g⟩ | ⟨hb, h1, h2, h9, g⟩ | ⟨hb, rfl, g⟩ | ⟨hb, h1, h2, h9, g⟩
      · have E := Lib.hid (K1.out rfl g)
        clear K1 K2 K3 g
        go_wp2_with fail
        go_ret
        exact ⟨by rw [E.out]; rfl, XX4.out.below⟩
      · have E := Lib.hid (K2.out g)
        clear K1 K2 K3 g
        have hm2 : (mg == 9999) = false := beq_eq_false_iff_ne.2 h9
        go_wp2_with fail
        go_ret
        exact ⟨by rw [E.out]; rfl, XX4.out.below⟩
      · have E := Lib.hid (K2.out g)
        clear K1 K2 K3 g
        have hm2 : (mg == 9999) = false := beq_eq_false_iff_ne.2 h9
        go_wp2_with fail
        go_ret
        exact ⟨by rw [E.out]; rfl, XX4.out.below⟩
      · have E := Lib.hid (K1.out rfl g)
        have el : ltB 32 = false := by decide
        rw [el] at L1
        clear K1 K2 K3 g el
        have hm2 : (mg == 9999) = false := beq_eq_false_iff_ne.2 h9
        go_wp2_with (refine (L1.out _).mono ?_; rintro e w5 ⟨rfl, rfl⟩)
        go_ret
        exact ⟨by rw [E.out]; rfl, XX4.out.below⟩
      · have E := Lib.hid (K2.out g)
        clear K1 K2 K3 g
        have h9 : mg ≠ 9999 := by omega
        have hb2 : (bd == 32) = false := beq_eq_false_iff_ne.2 hb
        have hb3 : (bd != 32) = true := by simpa using hb
        have hm2 : (mg == 9999) = false := beq_eq_false_iff_ne.2 h9
        go_wp2_with fail
        go_ret
        exact ⟨by rw [E.out]; rfl, XX4.out.below⟩
      · have E := Lib.hid (K2.out g)
        clear K1 K2 K3 g
        have hb2 : (bd == 32) = false := beq_eq_false_iff_ne.2 hb
        have hb3 : (bd != 32) = true := by simpa using hb
        have hm2 : (mg == 9999) = false := beq_eq_false_iff_ne.2 h9
        go_wp2_with fail
        go_ret
        exact ⟨by rw [E.out]; rfl, XX4.out.below⟩
      · have E := Lib.hid (K2.out g)
        clear K1 K2 K3 g
        have hb2 : (bd == 32) = false := beq_eq_false_iff_ne.2 hb
        have hb3 : (bd != 32) = true := by simpa using hb
        go_wp2_with fail
        go_ret
        exact ⟨by rw [E.out]; rfl, XX4.out.below⟩
      · rcases lt_cases bd with ⟨hl, el⟩ | ⟨hl, el⟩
        · have E := Lib.hid (K1.out rfl (g.2 hl))
          rw [el] at L1
          clear K1 K2 K3 g hl el
          have hb2 : (bd == 32) = false := beq_eq_false_iff_ne.2 hb
          have hb3 : (bd != 32) = true := by simpa using hb
          have hm2 : (mg == 9999) = false := beq_eq_false_iff_ne.2 h9
          go_wp2_with (refine (L1.out _).mono ?_; rintro e w5 ⟨rfl, rfl⟩)
          go_ret
          exact ⟨by rw [E.out]; rfl, XX4.out.below⟩
        · have E := Lib.hid (K2.out (fun x => hl (g.1 x)))
          rw [el] at L1
          clear K1 K2 K3 g hl el
          have hb2 : (bd == 32) = false := beq_eq_false_iff_ne.2 hb
          have hb3 : (bd != 32) = true := by simpa using hb
          have hm2 : (mg == 9999) = false := beq_eq_false_iff_ne.2 h9
          go_wp2_with (refine (L1.out _).mono ?_; rintro e w5 ⟨rfl, rfl⟩)
          go_ret
          exact ⟨by rw [E.out]; rfl, XX4.out.below⟩
end Ow
end Go.Proofs.YtaghilgfldaaiaaGreatDoor
/-
  Slices of observations; the walks of checkAll of obs, and of All, Same of the reference.
-/
namespace Go.Proofs.YtaghilgfldaaiaaGreatDoor
namespace Ow
open Go.RowKit Lw Go.Proofs.YtaghilgfldaaiaaGreatDoor.Ap Go.Proofs.YtaghilgfldaaiaaGreatDoor.Op Go.Proofs.YtaghilgfldaaiaaGreatDoor.Mp Go.Proofs.YtaghilgfldaaiaaGreatDoor.Mw Go.Proofs.YtaghilgfldaaiaaGreatDoor.At

/-- A slice's address, and the observations that it holds. -/
def SlA (w : World) (x : Option Addr) (l : List Ob) : Prop := l = [] ∨ ∃ b off, x = some ⟨b, off, none⟩ ∧ b < w.heap.size ∧ ObsAt w b off l
theorem SlA.below {w w' : World} {x : Option Addr} {l : List Ob} (h : SlA w x l) (hb : Below w.heap.size w w') : SlA w' x l := by
  rcases h with h | ⟨b, off, h1, h2, h3⟩
  · exact Or.inl h
  · exact Or.inr ⟨b, off, h1, Nat.lt_of_lt_of_le h2 hb.size, h3.below hb h2⟩
theorem SlA.get {w : World} {x : Option Addr} {l : List Ob} (h : SlA w x l) {i : Nat} (hi : i < l.length) : ∃ b off, x = some ⟨b, off, none⟩ ∧ b < w.heap.size ∧ ObsAt w b off l := by
  rcases h with rfl | h
  · simp at hi
  · exact h
/-- The bounds of a list. -/
def OBs (l : List Ob) : Prop := ∀ i (h : i < l.length), OB (l[i]'h)
end Ow
end Go.Proofs.YtaghilgfldaaiaaGreatDoor
/-
  The library contracts of a builder, laid at this program.
-/
namespace Go.Proofs
open Go.Shelf
def Tryz.lays105b_ren : Go.Shelf.Ren := ⟨fun | 105 => 176 | 212 => 202 | 99 => 50 | 165 => 106 | 166 => 56 | 170 => 203 | 169 => 60 | 263 => 219 | 264 => 220 | 206 => 95 | 240 => 105 | 241 => 152 | 276 => 151 | 277 => 194 | n => n, fun | 9 => 9 | 3 => 3 | 4 => 4 | 20 => 20 | 0 => 0 | 46 => 150 | 109 => 205 | 5 => 5 | 72 => 95 | 76 => 98 | 51 => 179 | 146 => 223 | 53 => 181 | 148 => 225 | 70 => 93 | 37 => 82 | 75 => 97 | 127 => 141 | 164 => 167 | 80 => 102 | n => n, fun | n => n⟩
theorem Tryz.Builder_Extra_105b : Builder.Extra Tryz.prog Tryz.lays105b_ren := {
  sizeBuilder := by kernel_rfl
  liesBuilder := by kernel_rfl
  t5 := Tryz.underlying5
  a5 := Tryz.isAgg5
  z5 := Tryz.sizeOf5
  v5 := Tryz.zeroValue5
  infoByte := by kernel_rfl
  cellsByte := by kernel_rfl
  sizeByte := by kernel_rfl
  neB5 := by decide }
theorem Tryz.lays105b_166 : Go.Proofs.Lays.n166 Tryz.prog Tryz.lays105b_ren := {
  mixed := by kernel_rfl
  f166 := Tryz.func56.trans (congrArg some (by kernel_rfl))
  f240 := Tryz.func105.trans (congrArg some (by kernel_rfl))
  f276 := Tryz.func151.trans (congrArg some (by kernel_rfl))
  t0 := Tryz.underlying0
  a0 := Tryz.isAgg0
  z0 := Tryz.sizeOf0
  v0 := Tryz.zeroValue0
  t3 := Tryz.underlying3
  a3 := Tryz.isAgg3
  z3 := Tryz.sizeOf3
  v3 := Tryz.zeroValue3
  t4 := Tryz.underlying4
  a4 := Tryz.isAgg4
  z4 := Tryz.sizeOf4
  v4 := Tryz.zeroValue4
  t9 := Tryz.underlying9
  a9 := Tryz.isAgg9
  z9 := Tryz.sizeOf9
  v9 := Tryz.zeroValue9
  t20 := Tryz.underlying20
  a20 := Tryz.isAgg20
  z20 := Tryz.sizeOf20
  v20 := Tryz.zeroValue20
  t37 := Tryz.underlying82
  a37 := Tryz.isAgg82
  z37 := Tryz.sizeOf82
  v37 := Tryz.zeroValue82
  t70 := Tryz.underlying93
  a70 := Tryz.isAgg93
  z70 := Tryz.sizeOf93
  v70 := Tryz.zeroValue93
  t72 := Tryz.underlying95
  a72 := Tryz.isAgg95
  z72 := Tryz.sizeOf95
  v72 := Tryz.zeroValue95
  t75 := Tryz.underlying97
  a75 := Tryz.isAgg97
  z75 := Tryz.sizeOf97
  v75 := Tryz.zeroValue97
  t164 := Tryz.underlying167
  a164 := Tryz.isAgg167
  z164 := Tryz.sizeOf167
  v164 := Tryz.zeroValue167 }
theorem Tryz.lays105b_169 : Go.Proofs.Lays.n169 Tryz.prog Tryz.lays105b_ren := {
  mixed := by kernel_rfl
  f169 := Tryz.func60.trans (congrArg some (by kernel_rfl))
  t0 := Tryz.underlying0
  a0 := Tryz.isAgg0
  z0 := Tryz.sizeOf0
  v0 := Tryz.zeroValue0
  t3 := Tryz.underlying3
  a3 := Tryz.isAgg3
  z3 := Tryz.sizeOf3
  v3 := Tryz.zeroValue3
  t9 := Tryz.underlying9
  a9 := Tryz.isAgg9
  z9 := Tryz.sizeOf9
  v9 := Tryz.zeroValue9
  t37 := Tryz.underlying82
  a37 := Tryz.isAgg82
  z37 := Tryz.sizeOf82
  v37 := Tryz.zeroValue82
  t70 := Tryz.underlying93
  a70 := Tryz.isAgg93
  z70 := Tryz.sizeOf93
  v70 := Tryz.zeroValue93
  t72 := Tryz.underlying95
  a72 := Tryz.isAgg95
  z72 := Tryz.sizeOf95
  v72 := Tryz.zeroValue95
  t127 := Tryz.underlying141
  a127 := Tryz.isAgg141
  z127 := Tryz.sizeOf141
  v127 := Tryz.zeroValue141 }
open Go.RowKit in
theorem Tryz.Builder_WriteString (B b : Nat) (bs : List Value) (s : ByteArray) (w : World) (h : Lib.IsBuilder 95 5 B b bs w) (hlen : bs.length + s.size ≤ 140737488355328) (hBw : B ≤ w.heap.size) :
    Calls Tryz.prog 56 #[.pointer (some ⟨b, 0, none⟩), .string s] w fun e w' => e = .returned (.tuple #[.int .i64 s.size, .nilIface]) ∧ (Lib.BuilderAt 95 5 B b (.pointer (some ⟨b, 0, none⟩)) (bs ++ Lib.strCells s) w' ∧ Below B w w') := Any.Builder_WriteString Tryz.lays105b_166 Tryz.Builder_Extra_105b B b bs s w h hlen hBw
open Go.RowKit in
theorem Tryz.Builder_String_any (B b : Nat) (l : List UInt8) (w : World) (h : Lib.IsBuilder 95 5 B b (Lib.byteCells l) w) (hBw : B ≤ w.heap.size) :
    Calls Tryz.prog 60 #[.pointer (some ⟨b, 0, none⟩)] w fun e w' => e = .returned (.string ⟨l.toArray⟩) ∧ Below B w w' := (Any.Builder_String_any_f Tryz.lays105b_169 Tryz.Builder_Extra_105b B b l w (Lib.IsBuilderF.of h) hBw).mono fun e w' h => ⟨h.1, h.2.2⟩
end Go.Proofs
/-
  The walks of cut, blank, decimals of the reference of observations.
-/
namespace Go.Proofs.YtaghilgfldaaiaaGreatDoor
namespace Ow
open Go.RowKit Lw Go.Proofs.YtaghilgfldaaiaaGreatDoor.Ap Go.Proofs.YtaghilgfldaaiaaGreatDoor.Op Go.Proofs.YtaghilgfldaaiaaGreatDoor.Mp Go.Proofs.YtaghilgfldaaiaaGreatDoor.Mw Go.Proofs.YtaghilgfldaaiaaGreatDoor.At

theorem cutL_sp (l : List UInt8) : cutL (l ++ [32]) = cutL l := by
  unfold cutL
  rw [List.reverse_append, List.reverse_singleton, List.singleton_append, List.dropWhile_cons_of_pos (by rfl)]
theorem last_of {S : ByteArray} {m : Nat} (h : S.size = m + 1) (hm : m < S.size) : S.data.toList = (S.extract 0 m).data.toList ++ [S[m]'hm] := by
  rw [ext_L S 0 m (by omega), List.drop_zero, Nat.sub_zero]
  have := take_snoc S m hm
  rw [← this, List.take_of_length_le (by rw [← size_L]; omega)]
end Ow
end Go.Proofs.YtaghilgfldaaiaaGreatDoor
/-
  The walk of Parse of the reference.
-/
namespace Go.Proofs.YtaghilgfldaaiaaGreatDoor
namespace Ap
open Go.RowKit Lw Go.Proofs.YtaghilgfldaaiaaGreatDoor.Mp

theorem rinfo7 : (Tryz.prog.info? 75).map (·.size) = some 7 := by kernel_rfl
/-- The end of the walk: the date is made and taken. -/
theorem parse_end {s : ByteArray} (tp : textP s) : ∀ a c, FromIs (nm s 0 4) (nm s 5 7) (nm s 8 10) (nm s 11 13) (nm s 14 16) (nm s 17 19) (microV s) a c → (c = 0 ∧ ParseIs s a 0) ∨ (c = 2 ∧ ParseIs s 0 12) := fun a c hf => by
  rcases hf with ⟨f1, f2, f3⟩ | ⟨f1, f2, f3⟩
  · exact Or.inl ⟨f3, Or.inl ⟨⟨tp, f1⟩, f2, rfl⟩⟩
  · exact Or.inr ⟨f3, Or.inr ⟨fun k => f1 k.2, rfl, rfl⟩⟩
end Ap
end Go.Proofs.YtaghilgfldaaiaaGreatDoor
/-
  The walk of read of the reference of observations.
-/
namespace Go.Proofs.YtaghilgfldaaiaaGreatDoor
namespace Ow
open Go.RowKit Lw Go.Proofs.YtaghilgfldaaiaaGreatDoor.Ap Go.Proofs.YtaghilgfldaaiaaGreatDoor.Op Go.Proofs.YtaghilgfldaaiaaGreatDoor.Mp Go.Proofs.YtaghilgfldaaiaaGreatDoor.Mw Go.Proofs.YtaghilgfldaaiaaGreatDoor.At

/-- The condition of read. -/
def badP (c1 c2 c3 : Int) (d1 d2 d3 : Nat) : Prop := c1 ≠ 0 ∨ c2 ≠ 0 ∨ c3 ≠ 0 ∨ d1 < 3 ∨ 6 < d1 ∨ d2 < 1 ∨ 3 < d2 ∨ 2 < d3
instance (c1 c2 c3 : Int) (d1 d2 d3 : Nat) : Decidable (badP c1 c2 c3 d1 d2 d3) := by unfold badP; infer_instance
end Ow
end Go.Proofs.YtaghilgfldaaiaaGreatDoor
/-
  The walks of PrintAll of obs and of the reference.
-/
namespace Go.Proofs.YtaghilgfldaaiaaGreatDoor
namespace Ow
open Go.RowKit Lw Go.Proofs.YtaghilgfldaaiaaGreatDoor.Ap Go.Proofs.YtaghilgfldaaiaaGreatDoor.Op Go.Proofs.YtaghilgfldaaiaaGreatDoor.Mp Go.Proofs.YtaghilgfldaaiaaGreatDoor.Mw Go.Proofs.YtaghilgfldaaiaaGreatDoor.At

theorem ownsRow_below {w w' : World} {base : Nat} {e : TypeId} {size : Nat} {v : Value} {n : Nat} {xs : List Value} (h : w.ownsRow base e size v n xs) (hb : Below w.heap.size w w') : w'.ownsRow base e size v n xs := by
  obtain ⟨h1, h2⟩ := h
  refine ⟨h1, ?_⟩
  rcases h2 with h2 | ⟨g, cap, cur, hv, hg, hh, r⟩
  · exact Or.inl h2
  · refine Or.inr ⟨g, cap, cur, hv, hg, ?_, r⟩
    have lt : g < w.heap.size := by
      rcases Nat.lt_or_ge g w.heap.size with h | h
      · exact h
      · rw [Array.getElem?_eq_none h] at hh; cases hh
    rw [hb.block g lt]; exact hh
theorem builder_below {w w' : World} {T e : TypeId} {B b : Nat} {bs : List Value} (h : Lib.IsBuilder T e B b bs w) (hb : Below w.heap.size w w') : Lib.IsBuilder T e B b bs w' := by
  have key : ∀ p, Lib.BuilderAt T e B b p bs w → Lib.BuilderAt T e B b p bs w' := fun p ⟨h0, v, hh, ho, hn⟩ => by
    have lt : b < w.heap.size := by
      rcases Nat.lt_or_ge b w.heap.size with h | h
      · exact h
      · rw [Array.getElem?_eq_none h] at hh; cases hh
    exact ⟨h0, v, by rw [hb.block b lt]; exact hh, ownsRow_below ho hb, hn⟩
  exact h.elim (fun x => Or.inl (key _ x)) (fun x => Or.inr (key _ x))
/-- A builder that holds a string. -/
def Bd (B : Nat) (s : ByteArray) (w : World) : Prop := Lib.IsBuilder 95 5 B B (Lib.byteCells s.data.toList) w ∧ B ≤ w.heap.size
theorem Bd.below {B : Nat} {s : ByteArray} {w w' : World} (h : Bd B s w) (hb : Below w.heap.size w w') : Bd B s w' := ⟨builder_below h.1 hb, Nat.le_trans h.2 hb.size⟩
theorem Bd.new (w : World) : Bd w.heap.size ByteArray.empty (w.alloc (.cells #[.pointer none, .slice none 0 0] 95)) :=
  ⟨Or.inl ⟨Nat.le_refl _, .slice none 0 0, heap_alloc_new w _, World.ownsRow_nil _ _ _ _, by simp [Value.ownBlock]⟩, by simp⟩
theorem bd_write {B : Nat} {s t : ByteArray} {w : World} (h : Bd B s w) (hl : s.size + t.size ≤ 140737488355328) : Calls Tryz.prog 56 #[.pointer (some ⟨B, 0, none⟩), .string t] w fun e w' => e = .returned (.tuple #[.int .i64 t.size, .nilIface]) ∧ Bd B (s ++ t) w' ∧ Below B w w' := by
  refine (Tryz.Builder_WriteString B B (Lib.byteCells s.data.toList) t w h.1 (by rw [Lib.byteCells_length, ← size_L]; exact hl) h.2).mono ?_
  rintro e w' ⟨rfl, hB, hb⟩
  refine ⟨rfl, ⟨Or.inr ?_, Nat.le_trans h.2 hb.size⟩, hb⟩
  have e : Lib.byteCells (s ++ t).data.toList = Lib.byteCells s.data.toList ++ Lib.strCells t := by
    rw [Lib.strCells_eq, ← Lib.byteCells_append]
    congr 1
  rw [e]
  exact hB
theorem bd_str {B : Nat} {s : ByteArray} {w : World} (h : Bd B s w) : Calls Tryz.prog 60 #[.pointer (some ⟨B, 0, none⟩)] w fun e w' => e = .returned (.string s) ∧ Below B w w' := by
  refine (Tryz.Builder_String_any B B s.data.toList w h.1 h.2).mono ?_
  rintro e w' ⟨rfl, hb⟩
  exact ⟨by rw [mk_toL], hb⟩
end Ow
end Go.Proofs.YtaghilgfldaaiaaGreatDoor
/-
  append of an observation to a slice that the call owns.
-/
namespace Go.Proofs.YtaghilgfldaaiaaGreatDoor
namespace Ow
open Go.RowKit Lw Go.Proofs.YtaghilgfldaaiaaGreatDoor.Ap Go.Proofs.YtaghilgfldaaiaaGreatDoor.Op Go.Proofs.YtaghilgfldaaiaaGreatDoor.Mp Go.Proofs.YtaghilgfldaaiaaGreatDoor.Mw Go.Proofs.YtaghilgfldaaiaaGreatDoor.At

theorem infoO : (Tryz.prog.info? 33).map (fun i => (i.zero, i.size, i.bytes)) = some (some (.agg #[.string .empty, .string .empty, .int .i64 0, .int .i64 0, .int .i64 0, .int .i64 0, .int .i64 0, .int .u8 0]), 8, 80) := by kernel_rfl
/-- The cells of a list. -/
def flatO (l : List Ob) : List Value := l.flatMap obsC
theorem flatO_snoc (l : List Ob) (o : Ob) : flatO (l ++ [o]) = flatO l ++ obsC o := by simp [flatO]
theorem flatO_get {l : List Ob} {i : Nat} (hi : i < l.length) {j : Nat} {v : Value} (h : (obsC l[i])[j]? = some v) : (flatO l)[i * 8 + j]? = some v := by
  have hj : j < 8 := by
    have := (List.getElem?_eq_some_iff.1 h).1
    exact this
  induction l generalizing i with
  | nil => simp at hi
  | cons a l ih =>
    have e : flatO (a :: l) = obsC a ++ flatO l := rfl
    have la : (obsC a).length = 8 := rfl
    match i, hi, h with
    | 0, _, h =>
      rw [e, Nat.zero_mul, Nat.zero_add, List.getElem?_append_left (by omega)]
      exact h
    | i + 1, hi, h =>
      have hi' : i < l.length := by simpa using hi
      rw [e, List.getElem?_append_right (by omega), la, show (i + 1) * 8 + j - 8 = i * 8 + j by omega]
      exact ih hi' (by simpa using h)
/-- A slice of the call's own. -/
def OwnO (w : World) (B : Nat) (v : Value) (l : List Ob) : Prop := w.ownsRow B 33 8 v l.length (flatO l) ∧ B ≤ w.heap.size
def OwnR (w : World) (B : Nat) (v : Value) (l : List Ob) : Prop := w.ownsRow B 108 8 v l.length (flatO l) ∧ B ≤ w.heap.size
theorem OwnO.nil (w : World) (B : Nat) (h : B ≤ w.heap.size) : OwnO w B (.slice none 0 0) [] := ⟨World.ownsRow_nil _ _ _ _, h⟩
theorem OwnR.nil (w : World) (B : Nat) (h : B ≤ w.heap.size) : OwnR w B (.slice none 0 0) [] := ⟨World.ownsRow_nil _ _ _ _, h⟩
theorem OwnO.below {w w' : World} {B : Nat} {v : Value} {l : List Ob} (h : OwnO w B v l) (hb : Below w.heap.size w w') : OwnO w' B v l := ⟨ownsRow_below h.1 hb, Nat.le_trans h.2 hb.size⟩
theorem OwnR.below {w w' : World} {B : Nat} {v : Value} {l : List Ob} (h : OwnR w B v l) (hb : Below w.heap.size w w') : OwnR w' B v l := ⟨ownsRow_below h.1 hb, Nat.le_trans h.2 hb.size⟩
theorem owns_form {w : World} {B : Nat} {t : TypeId} {v : Value} {l : List Ob} (h : w.ownsRow B t 8 v l.length (flatO l)) : (l = [] ∧ v = .slice none 0 0) ∨ ∃ g cap, v = .slice (some ⟨g, 0, none⟩) l.length cap ∧ B ≤ g ∧ g < w.heap.size ∧ ObsAt w g 0 l := by
  have hc := fun (g : Nat) (hg : v.ownBlock = some g) => h.cells hg
  rcases h.2 with ⟨hv, hn⟩ | ⟨g, cap, cur, hv, hb, hh, r⟩
  · exact Or.inl ⟨List.length_eq_zero_iff.1 hn, hv⟩
  · have lt : g < w.heap.size := by
      rcases Nat.lt_or_ge g w.heap.size with h | h
      · exact h
      · rw [Array.getElem?_eq_none h] at hh; cases hh
    refine Or.inr ⟨g, cap, hv, hb, lt, fun i hi j x hx => ?_⟩
    have e := hc g (by rw [hv]; rfl) (i * 8 + j) x (flatO_get hi hx)
    rw [Addr.add_mid] at e
    rw [Nat.zero_add] at e
    rw [Nat.zero_add]
    exact e
/-- A value that is a slice of observations. -/
def SlV (w : World) (v : Value) (l : List Ob) : Prop := ∃ x cap, v = .slice x l.length cap ∧ SlA w x l
theorem slV_of {w : World} {B : Nat} {t : TypeId} {v : Value} {l : List Ob} (h : w.ownsRow B t 8 v l.length (flatO l)) : SlV w v l := by
  rcases owns_form h with ⟨rfl, rfl⟩ | ⟨g, cap, rfl, _, lt, hg⟩
  · exact ⟨none, 0, rfl, Or.inl rfl⟩
  · exact ⟨_, cap, rfl, Or.inr ⟨g, 0, rfl, lt, hg⟩⟩
theorem SlV.below {w w' : World} {v : Value} {l : List Ob} (h : SlV w v l) (hb : Below w.heap.size w w') : SlV w' v l := by
  obtain ⟨x, cap, e, h⟩ := h
  exact ⟨x, cap, e, h.below hb⟩
theorem SlV.nil (w : World) : SlV w (.slice none 0 0) [] := ⟨none, 0, rfl, Or.inl rfl⟩
theorem news_of {w : World} {b : Nat} {o : Ob} (h : w.rangeAt b 0 (obsC o)) : ∀ j u, (obsC o)[j]? = some u → w.cell? ((⟨b, 0, none⟩ : Addr).add j) = some u := fun j u hj => by
  rw [Addr.add_mid]; exact h j u hj
theorem obsC_one (o : Ob) : ∀ u ∈ obsC o, u.oneCell' = true := fun u hu => by
  simp only [List.mem_cons, List.not_mem_nil, or_false] at hu
  rcases hu with rfl | rfl | rfl | rfl | rfl | rfl | rfl | rfl <;> rfl
end Ow
end Go.Proofs.YtaghilgfldaaiaaGreatDoor
/-
  A slice of the call's own, whose elements are one cell each: append.
-/
namespace Go.Proofs.YtaghilgfldaaiaaGreatDoor
namespace Vw
open Go.RowKit Lw Go.Proofs.YtaghilgfldaaiaaGreatDoor.Op Go.Proofs.YtaghilgfldaaiaaGreatDoor.Ow

def Own1 (t : TypeId) (w : World) (B : Nat) (v : Value) (vs : List Value) : Prop := w.ownsRow B t 1 v vs.length vs ∧ B ≤ w.heap.size
theorem Own1.nil (t : TypeId) (w : World) (B : Nat) (h : B ≤ w.heap.size) : Own1 t w B (.slice none 0 0) [] := ⟨World.ownsRow_nil _ _ _ _, h⟩
theorem own1_lt {w : World} {g : Nat} {o : Obj} (hh : w.heap[g]? = some o) : g < w.heap.size := by
  rcases Nat.lt_or_ge g w.heap.size with h | h
  · exact h
  · rw [Array.getElem?_eq_none h] at hh; cases hh
theorem ownsRow_below1 {w w' : World} {B size n : Nat} {t : TypeId} {v : Value} {xs : List Value} (h : w.ownsRow B t size v n xs) (hb : Below w.heap.size w w') : w'.ownsRow B t size v n xs := by
  obtain ⟨h1, h2⟩ := h
  refine ⟨h1, ?_⟩
  rcases h2 with h2 | ⟨g, cap, cur, hv, hg, hh, r⟩
  · exact Or.inl h2
  · exact Or.inr ⟨g, cap, cur, hv, hg, by rw [hb.block g (own1_lt hh)]; exact hh, r⟩
theorem Own1.below {t : TypeId} {w w' : World} {B : Nat} {v : Value} {l : List Value} (h : Own1 t w B v l) (hb : Below w.heap.size w w') : Own1 t w' B v l := ⟨ownsRow_below1 h.1 hb, Nat.le_trans h.2 hb.size⟩
theorem Own1.form {t : TypeId} {w : World} {B : Nat} {v : Value} {l : List Value} (h : Own1 t w B v l) : (l = [] ∧ v = .slice none 0 0) ∨ ∃ g cap, v = .slice (some ⟨g, 0, none⟩) l.length cap ∧ l.length ≤ cap ∧ B ≤ g ∧ g < w.heap.size ∧ ∀ (j : Nat) x, l[j]? = some x → w.cell? ⟨g, j, none⟩ = some x := by
  have hc := fun (g : Nat) (hg : v.ownBlock = some g) => h.1.cells hg
  rcases h.1.2 with ⟨hv, hn⟩ | ⟨g, cap, cur, hv, hb, hh, r⟩
  · exact Or.inl ⟨List.length_eq_zero_iff.1 hn, hv⟩
  · refine Or.inr ⟨g, cap, hv, r.1, hb, own1_lt hh, fun j x hx => ?_⟩
    have e := hc g (by rw [hv]; rfl) j x hx
    rw [Addr.add_mid, Nat.zero_add] at e
    exact e
theorem Own1.formN {t : TypeId} {w : World} {B n : Nat} {v : Value} {l : List Value} (h : Own1 t w B v l) (hn : l.length = n) (h0 : 0 < n) : ∃ g cap, v = .slice (some ⟨g, 0, none⟩) n cap ∧ n ≤ cap ∧ B ≤ g ∧ g < w.heap.size ∧ ∀ (j : Nat) x, l[j]? = some x → w.cell? ⟨g, j, none⟩ = some x := by
  rcases h.form with ⟨e, _⟩ | ⟨g, cap, h1, h2, h3⟩
  · rw [e] at hn
    exact absurd hn (by rw [List.length_nil]; omega)
  · rw [hn] at h1 h2
    exact ⟨g, cap, h1, h2, h3⟩
theorem wp_app1 {P : Program} {S t : TypeId} {z : Value} {bytes : Nat} (hu : P.underlying S = some (.slice t)) (hin : (P.info? t).map (fun i => (i.zero, i.size, i.bytes)) = some (some z, 1, bytes)) (hz : z.cells.size = 1) (hby : bytes ≤ 100)
    {ops : Array Oper} {rest : List Oper} {o : Oper} {a : Act} {Q : Exit → Act → World → Prop} (w : World) (hgd : o.guard = none) (s x : Operand)
    (ho : o.op = .call { callee := .builtin .append, args := #[s, x], argTypes := #[S, S] })
    (B : Nat) (v : Value) (l : List Value) (C : Array Value) (m c : Nat) (hs : a.eval s = v) (hx : a.eval x = .slice (some ⟨w.heap.size, 0, none⟩) m c) (hm : C.size = m) (hC : ∀ u ∈ C.toList, u.oneCell' = true) (hown : Own1 t w B v l) (hl : l.length ≤ 1000000) (hm2 : m ≤ 1000)
    (h : ∀ v' w', Own1 t w' B v' (l ++ C.toList) → Below B w w' → wpList P ops Q rest (a.put o.dst v') w') : wpList P ops Q (o :: rest) a (w.alloc (.cells C t)) := by
  obtain ⟨i0, hi, hz0, hz1, hz2⟩ := info_parts hin
  have ho' := hown.1.alloc (.cells C t)
  have nw : ∀ j u, C.toList[j]? = some u → (w.alloc (.cells C t)).cell? ((⟨w.heap.size, 0, none⟩ : Addr).add j) = some u := fun j u hj => by
    rw [Addr.add_mid]
    exact rangeAt_new w C.toList t j u hj
  have b1 : Below B w (w.alloc (.cells C t)) := (Below.refl _ _).alloc hown.2 _
  have lc : C.toList.length = m := by rw [Array.length_toList, hm]
  refine wpList_append_own _ hgd s x S ho B t i0 _ 1 bytes hu hi hz0 hz1 hz2 hz (by decide) v l.length l hs ho' ⟨w.heap.size, 0, none⟩ m c C.toList hx (by rw [lc, Nat.mul_one]) nw hC (by unfold maxLen; omega) (Nat.le_trans (Nat.mul_le_mul_left _ hby) (by omega)) (Nat.le_trans hown.2 b1.size) ?_
  intro v' w' h1 h2 _
  have hb : Below B w w' := b1.trans ((Below.refl B _).grown h2 (Nat.le_trans hown.2 b1.size) (fun k hk => (hown.1.lt k hk).1))
  refine h v' w' ⟨?_, Nat.le_trans hown.2 hb.size⟩ hb
  rw [List.length_append, lc]
  exact h1
theorem infoS : (Tryz.prog.info? 9).map (fun i => (i.zero, i.size, i.bytes)) = some (some (.string .empty), 1, 16) := by kernel_rfl
theorem strC_snoc (l : List ByteArray) (x : ByteArray) : strC l ++ [.string x] = strC (l ++ [x]) := by unfold strC; simp
end Vw
end Go.Proofs.YtaghilgfldaaiaaGreatDoor
/-
  The walks of isNote, Check, checkAll and names of psv.
-/
namespace Go.Proofs.YtaghilgfldaaiaaGreatDoor
namespace Vw
open Go.RowKit Lw Go.Proofs.YtaghilgfldaaiaaGreatDoor.Ap Go.Proofs.YtaghilgfldaaiaaGreatDoor.Vp Go.Proofs.YtaghilgfldaaiaaGreatDoor.Op Go.Proofs.YtaghilgfldaaiaaGreatDoor.Ow Go.Proofs.YtaghilgfldaaiaaGreatDoor.Mp Go.Proofs.YtaghilgfldaaiaaGreatDoor.Mw Go.Proofs.YtaghilgfldaaiaaGreatDoor.At

theorem rune_high {s : ByteArray} {k : Nat} (hlt : k < s.size) : (Utf8.decode s k = ((s[k]'hlt).toNat, 1)) ∨ (128 ≤ ((s[k]'hlt).toNat : Int) ∧ 128 ≤ ((Utf8.decode s k).1 : Int) ∧ ((Utf8.decode s k).1 : Int) ≤ 2147483647) := by
  by_cases ha : (s[k]'hlt).toNat < 128
  · exact Or.inl (decode_ascii s k hlt ha)
  · have := (decode_high s k hlt (by omega)).1
    have := decode_le s k
    exact Or.inr ⟨by omega, by omega, by omega⟩
def prP (l : List UInt8) : Prop := ∀ c ∈ l, 32 ≤ (c.toNat : Int) ∧ (c.toNat : Int) ≤ 126
theorem prP_snoc {l : List UInt8} {c : UInt8} (h : prP l) (g : 32 ≤ (c.toNat : Int)) (g2 : (c.toNat : Int) ≤ 126) : prP (l ++ [c]) := fun x hx => by
  rcases List.mem_append.1 hx with hx | hx
  · exact h x hx
  · rw [List.mem_singleton.1 hx]; exact ⟨g, g2⟩
theorem trimS_eq (s : ByteArray) : (⟨(Lib.trimB s.data.toList 32).toArray⟩ : ByteArray) = trimS s := rfl
set_option maxRecDepth 100000 in
set_option maxHeartbeats 4000000 in
theorem isnote_any (s : ByteArray) (w : World) (hs : s.size ≤ maxLen) :
    Calls Tryz.prog 52 #[.string s] w fun e w' => e = .returned (.bool (decide (noteP s))) ∧ Below w.heap.size w w' := by
  have zl : s.data.toList.length = s.size := rfl
  unfold maxLen at hs
  have NO : Hid (∀ c ∈ s.data.toList, (c.toNat : Int) < 32 ∨ 126 < (c.toNat : Int) → decide (noteP s) = false) := Lib.hid (fun c hc h => decide_eq_false (fun g => by have := g.1 c hc; omega))
  have NL : Hid (100 < s.size → decide (noteP s) = false) := Lib.hid (fun h => decide_eq_false (fun g => by have := g.2.1; omega))
  have NT : Hid (trimS s ≠ s → decide (noteP s) = false) := Lib.hid (fun h => decide_eq_false (fun g => h g.2.2))
  have YES : Hid (prP (s.data.toList.take s.size) → s.size ≤ 100 → trimS s = s → decide (noteP s) = true) := Lib.hid (fun a b c => by
    rw [List.take_of_length_le (by omega)] at a
    exact decide_eq_true ⟨a, b, c⟩)
  have TR := Lib.hid (fun w' => Tryz.strings_Trim_one s 32 (by decide) w' hs)
  rw [trimS_eq] at TR
  obtain ⟨T, hT⟩ : ∃ T, trimS s = T := ⟨_, rfl⟩
  rw [hT] at TR NT YES
  clear hT
  generalize decide (noteP s) = D at *
  go_enter Tryz.func52, Tryz.ntmps52
  go_wp2_with fail
  go_loopw [] (fun w' => ∃ k : Nat, k ≤ s.size ∧ w' = w.iter s k ∧ Hid (prP (s.data.toList.take k))) (fun w' => s.size - w'.iterPos w.heap.size)
  case atStart => exact ⟨0, Nat.zero_le _, rfl, Lib.hid (by intro c hc; simp at hc)⟩
  case round =>
    obtain ⟨k, hk, rfl, P⟩ := hrel
    by_cases hlt : k < s.size
    · have hnx : ∀ ty, (Instr.next (.pointer (some ⟨w.heap.size, 0, none⟩)) true ty).run Tryz.prog (w.iter s k) = _ := fun ty => run_next_any w s k ty hlt
      have bb := byte_bd s[k]
      have hm : (s[k]'hlt) ∈ s.data.toList := by
        have : (s[k]'hlt) = s.data.toList[k]'(by omega) := rfl
        rw [this]
        exact List.getElem_mem _
      rcases rune_high hlt with hr | ⟨d, r1, r2⟩
      · rw [hr] at hnx
        by_cases c1 : (s[k].toNat : Int) < 32
        · obtain rfl := NO.out _ hm (Or.inl c1)
          clear NO NL NT YES hm TR
          go_wp2_with fail
          go_ret
          exact ⟨rfl, Gp.below_iter w s _⟩
        · by_cases c2 : (126 : Int) < (s[k].toNat : Int)
          · obtain rfl := NO.out _ hm (Or.inr c2)
            clear NO NL NT YES hm TR
            go_wp2_with fail
            go_ret
            exact ⟨rfl, Gp.below_iter w s _⟩
          · have P2 := Lib.hid (show prP (s.data.toList.take (k + 1)) by rw [take_snoc s k hlt]; exact prP_snoc P.out (by omega) (by omega))
            clear NO NL NT YES hm TR P
            go_wp2_with fail
            go_roundw
            case rel => exact ⟨k + 1, by omega, rfl, P2⟩
            case measure => simp; omega
      · obtain rfl := NO.out _ hm (Or.inr (by omega))
        clear NO NL NT YES hm TR
        generalize (Utf8.decode s k).1 = r at *
        have c1 : ¬ (r : Int) < 32 := by omega
        have c2 : (126 : Int) < (r : Int) := by omega
        go_wp2_with fail
        go_ret
        exact ⟨rfl, Gp.below_iter w s _⟩
    · obtain rfl : k = s.size := by omega
      have hnx : ∀ ty, (Instr.next (.pointer (some ⟨w.heap.size, 0, none⟩)) true ty).run Tryz.prog (w.iter s s.size) = _ := fun ty => run_next_end w s s.size ty hlt
      by_cases h1 : s.size ≤ 100
      · have i1 : (s.size : Int) ≤ 100 := by omega
        clear NO NL
        have BI := Lib.hid (Gp.below_iter w s s.size)
        go_wp2_with fail
        refine (TR.out _).mono ?_
        rintro e w2 ⟨rfl, hw⟩
        have B2 := Lib.hid (show Below w.heap.size w w2 by rcases hw with rfl | rfl; exact BI.out; exact BI.out.drew)
        clear hw TR
        by_cases ht : T = s
        · obtain rfl := YES.out P.out h1 ht
          have t1 : (T.toList == s.toList) = true := by rw [ht]; exact beq_self_eq_true _
          clear NT YES ht
          go_wp2_with fail
          go_ret
          exact ⟨rfl, B2.out⟩
        · obtain rfl := NT.out ht
          have t1 : (T.toList == s.toList) = false := beq_eq_false_iff_ne.2 (fun h => ht (by rw [ByteArray.toList_eq, ByteArray.toList_eq] at h; exact toL_inj h))
          clear ht
          clear NT YES
          go_wp2_with fail
          go_ret
          exact ⟨rfl, B2.out⟩
      · have i1 : ¬ (s.size : Int) ≤ 100 := by omega
        obtain rfl := NL.out (by omega)
        clear NO NL NT YES TR
        go_wp2_with fail
        go_ret
        exact ⟨rfl, Gp.below_iter w s _⟩
set_option maxRecDepth 100000 in
set_option maxHeartbeats 1000000 in
theorem notnote_any (s : ByteArray) (w : World) (hs : s.size ≤ maxLen) :
    Calls Tryz.prog 104 #[.string s] w fun e w' => e = .returned (.bool (!decide (noteP s))) ∧ Below w.heap.size w w' := by
  have IN := Lib.hid (isnote_any s w hs)
  generalize decide (noteP s) = D at *
  go_enter Tryz.func104, Tryz.ntmps104
  go_wp2_with fail
  refine IN.out.mono ?_
  rintro e w1 ⟨rfl, hb⟩
  go_wp2_with fail
  go_ret
  exact ⟨rfl, hb⟩
set_option maxRecDepth 100000 in
set_option maxHeartbeats 8000000 in
theorem vcheckall_any (x : Option Addr) (cap : Nat) (l : List Ob) (w : World) (hE : ES w) (hl : SlA w x l) (hm : l.length ≤ 1000000) (hb : OBs l) :
    Calls Tryz.prog 55 #[.slice x l.length cap] w fun e w' => e = .returned (.int .i64 (allC l)) ∧ Below w.heap.size w w' := by
  have HL := Lib.hid (fun w' (h : Below w.heap.size w w') => hl.below h)
  have HE := Lib.hid (fun w' (h : Below w.heap.size w w') => hE.below h)
  have CK := Lib.hid (fun i (h : i < l.length) w' (g : ES w') => check_any (l[i]'h) w' g (hb i h).t0 (hb i h).t1 (hb i h).b0 (hb i h).b1 (hb i h).n1 (hb i h).n2)
  obtain ⟨n, hnl⟩ : ∃ n, l.length = n := ⟨_, rfl⟩
  have GM : Hid (500 < n → allC l = 4) := Lib.hid (fun h => allC_many (by omega))
  have GB : Hid (n ≤ 500 → ∀ i (h : i < l.length), ¬ okO (l[i]'h) → allC l = 8) := Lib.hid (fun a i h g => allC_bad (by omega) h g)
  have GZ : Hid (n ≤ 500 → (∀ i (h : i < l.length), okO (l[i]'h)) → allC l = 0) := Lib.hid (fun a g => allC_zero (by omega) (fun o ho => by
    obtain ⟨i, hi, rfl⟩ := List.getElem_of_mem ho
    exact g i hi))
  generalize allC l = K at *
  rw [hnl] at hm ⊢
  have NL := Lib.hid hnl
  clear hl hE hb hnl
  by_cases h5 : 500 < n
  · have h5' : (500 : Int) < (n : Int) := by omega
    obtain rfl := GM.out h5
    clear CK GM GB GZ HL HE NL
    go_enter Tryz.func55, Tryz.ntmps55
    go_wp2_with fail
    go_ret
    exact ⟨rfl, Below.refl _ _⟩
  · have h5' : ¬ (500 : Int) < (n : Int) := by omega
    clear GM
    go_enter Tryz.func55, Tryz.ntmps55
    go_wp2_with fail
    go_loopw [11] (fun i wr => ∃ k : Nat, k ≤ n ∧ i = .int .i64 k ∧ Hid (∀ j (h : j < l.length), j < k → okO (l[j]'h)) ∧ Hid (Below w.heap.size w wr)) (fun i _ => n - (intOf i).toNat)
    case atStart => exact ⟨0, Nat.zero_le _, rfl, Lib.hid (fun j _ h => by omega), Lib.hid (Below.refl _ _)⟩
    case round =>
      obtain ⟨k, hk, rfl, D, B⟩ := hrel
      by_cases hlt : k < n
      · have hkl : k < l.length := by rw [NL.out]; exact hlt
        obtain ⟨b, off, rfl, lt, row⟩ := (HL.out _ B.out).get hkl
        have R := Lib.hid (row k hkl)
        have CKk := Lib.hid (CK.out k hkl)
        have GBk := Lib.hid (fun (g : ¬ okO (l[k]'hkl)) => GB.out (by omega) k hkl g)
        have DK := Lib.hid (fun (g : okO (l[k]'hkl)) => (show ∀ j (h : j < l.length), j < k + 1 → okO (l[j]'h) from fun j h hj => by
          by_cases e : j = k
          · subst e; exact g
          · exact D.out j h (by omega)))
        have i1 : (k : Int) < (n : Int) := by omega
        clear D GB GZ row lt CK
        generalize l[k]'hkl = o at *
        have X0 := Lib.hid (Box.new wr o)
        have B1 := Lib.hid (B.out.alloc B.out.size (.cells (obsC o).toArray 33))
        have E1 := Lib.hid (HE.out _ B1.out)
        clear B
        go_wp2_with (first | (refine wpList_store_new rfl _ (.tmp 4) (.tmp 14) rfl _ _ rfl rfl info8 rfl ?_ ?_; simp [Value.oneCell']) | (refine wpList_load_mid rfl _ (.tmp 13) rfl b (off + k * 8) rfl (obsC o) _ R.out Tryz.underlying33 rfl info8 ?_) | (refine wpList_load_mid rfl _ (.tmp 4) rfl wr.heap.size 0 rfl (obsC o) _ X0.out.row Tryz.underlying33 rfl info8 ?_))
        refine (CKk.out _ E1.out).mono ?_
        rintro e w2 ⟨rfl, hb2⟩
        have B2 := Lib.hid (below_then B1.out hb2)
        clear hb2 B1 E1 CKk X0 R
        by_cases ok : okO o
        · rw [show checkC o = 0 from if_pos ok]
          have D2 := Lib.hid (DK.out ok)
          clear DK GBk
          go_wp2_with fail
          go_roundw
          case rel => exact ⟨k + 1, by omega, by go_num, D2, B2⟩
          case measure => simp [intOf]; omega
        · rw [show checkC o = 8 from if_neg ok]
          obtain rfl := GBk.out ok
          clear DK
          go_wp2_with fail
          go_ret
          exact ⟨rfl, B2.out⟩
      · obtain rfl : k = n := by omega
        obtain rfl := GZ.out (by omega) (fun i hi => D.out i hi (by have := NL.out; omega))
        clear GZ D GB HL CK
        go_wp2_with fail
        go_ret
        exact ⟨rfl, B.out⟩
set_option maxRecDepth 100000 in
set_option maxHeartbeats 1000000 in
theorem names_any (w : World) : Calls Tryz.prog 58 #[] w fun e w' => e = .returned (flV colB) ∧ Below w.heap.size w w' := by
  have l1 := (Below.refl w.heap.size w).alloc (Nat.le_refl _) (.cells (strC colB).toArray 69)
  have r1 := Rw.new w (strC colB) 69
  obtain ⟨v1, hv1⟩ : ∃ v, w.alloc (.cells (strC colB).toArray 69) = v := ⟨_, rfl⟩
  rw [hv1] at l1 r1
  have V1 := Lib.hid hv1
  have L1 := Lib.hid l1
  have R1 := Lib.hid r1
  clear hv1 l1 r1
  go_enter Tryz.func58, Tryz.ntmps58
  go_wp2_with (refine wpList_store_new rfl _ (.tmp 0) (.tmp 1) rfl _ (strC colB).toArray rfl rfl infoF rfl (str_one colB) ?_)
  rw [V1.out]
  exact bodyPost_ret (ret_cell Tryz.results58 _ _ w.heap.size (strC colB) _ rfl R1.out.row Tryz.underlying69 rfl infoF) rfl ⟨rfl, L1.out⟩
end Vw
end Go.Proofs.YtaghilgfldaaiaaGreatDoor
/-
  The walks of Check and Print of psv.
-/
namespace Go.Proofs.YtaghilgfldaaiaaGreatDoor
namespace Vw
open Go.RowKit Lw Go.Proofs.YtaghilgfldaaiaaGreatDoor.Ap Go.Proofs.YtaghilgfldaaiaaGreatDoor.Vp Go.Proofs.YtaghilgfldaaiaaGreatDoor.Op Go.Proofs.YtaghilgfldaaiaaGreatDoor.Ow Go.Proofs.YtaghilgfldaaiaaGreatDoor.Mp Go.Proofs.YtaghilgfldaaiaaGreatDoor.Mw Go.Proofs.YtaghilgfldaaiaaGreatDoor.At

def SzS (l : List ByteArray) : Prop := ∀ s ∈ l, s.size ≤ maxLen
theorem SzS.get {l : List ByteArray} (h : SzS l) (i : Nat) (hi : i < l.length) : (l[i]'hi).size ≤ maxLen := h _ (List.getElem_mem hi)
set_option maxRecDepth 100000 in
set_option maxHeartbeats 4000000 in
/-- The first string that is no note. -/
theorem idxfn_any (x : Option Addr) (cap : Nat) (l : List ByteArray) (w : World) (hl : StA w x l) (hs : SzS l) (hm : l.length ≤ 1000000) :
    Calls Tryz.prog 150 #[.slice x l.length cap, .func (.func 104) #[] #[]] w fun e w' => (∃ i : Int, e = .returned (.int .i64 i) ∧ decide (i ≥ 0) = decide (¬ ∀ s ∈ l, noteP s)) ∧ Below w.heap.size w w' := by
  have HL := Lib.hid (fun w' (h : Below w.heap.size w w') => hl.below h)
  have NN := Lib.hid (fun i (h : i < l.length) w' => notnote_any (l[i]'h) w' (hs.get i h))
  have GB : Hid (∀ i (h : i < l.length), ¬ noteP (l[i]'h) → decide (¬ ∀ s ∈ l, noteP s) = true) := Lib.hid (fun i h g => decide_eq_true (fun k => g (k _ (List.getElem_mem h))))
  have GZ : Hid ((∀ i (h : i < l.length), noteP (l[i]'h)) → decide (¬ ∀ s ∈ l, noteP s) = false) := Lib.hid (fun g => decide_eq_false (fun k => k (fun s hs => by
    obtain ⟨i, hi, rfl⟩ := List.getElem_of_mem hs
    exact g i hi)))
  obtain ⟨n, hnl⟩ : ∃ n, l.length = n := ⟨_, rfl⟩
  generalize decide (¬ ∀ s ∈ l, noteP s) = D at *
  rw [hnl] at hm ⊢
  have NL := Lib.hid hnl
  clear hl hs hnl
  go_enter Tryz.func150, Tryz.ntmps150
  go_wp2_with fail
  go_loopw [8] (fun i wr => ∃ k : Nat, k ≤ n ∧ i = .int .i64 k ∧ Hid (∀ j (h : j < l.length), j < k → noteP (l[j]'h)) ∧ Hid (Below w.heap.size w wr)) (fun i _ => n - (intOf i).toNat)
  case atStart => exact ⟨0, Nat.zero_le _, rfl, Lib.hid (fun j _ h => by omega), Lib.hid (Below.refl _ _)⟩
  case round =>
    obtain ⟨k, hk, rfl, DD, B⟩ := hrel
    by_cases hlt : k < n
    · have hkl : k < l.length := by rw [NL.out]; exact hlt
      obtain ⟨b, off, rfl, lt, hc⟩ := (HL.out _ B.out).get hkl
      have NK := Lib.hid (NN.out k hkl)
      have GK := Lib.hid (GB.out k hkl)
      have DK := Lib.hid (fun (g : noteP (l[k]'hkl)) => (show ∀ j (h : j < l.length), j < k + 1 → noteP (l[j]'h) from fun j h hj => by
        by_cases e : j = k
        · subst e; exact g
        · exact DD.out j h (by omega)))
      have i1 : (k : Int) < (n : Int) := by omega
      have i0 : (0 : Int) ≤ (k : Int) := by omega
      clear GB GZ NN DD lt
      generalize l[k]'hkl = s at *
      go_wp2_with fail
      refine (NK.out _).mono ?_
      rintro e w2 ⟨rfl, hb⟩
      have B2 := Lib.hid (below_then B.out hb)
      clear hb B NK hc
      by_cases hn : noteP s
      · rw [decide_eq_true hn]
        have D2 := Lib.hid (DK.out hn)
        clear DK GK hn
        go_wp2_with fail
        go_roundw
        case rel => exact ⟨k + 1, by omega, by go_num, D2, B2⟩
        case measure => simp [intOf]; omega
      · rw [decide_eq_false hn]
        obtain rfl := GK.out hn
        clear DK GK hn
        go_wp2_with fail
        go_ret
        exact ⟨⟨_, rfl, decide_eq_true (by omega)⟩, B2.out⟩
    · obtain rfl : k = n := by omega
      obtain rfl := GZ.out (fun i hi => DD.out i hi (by have := NL.out; omega))
      clear GZ DD GB HL NN
      go_wp2_with fail
      go_ret
      exact ⟨⟨_, rfl, by decide⟩, B.out⟩
set_option maxRecDepth 100000 in
set_option maxHeartbeats 4000000 in
theorem hasfn_any (x : Option Addr) (cap : Nat) (l : List ByteArray) (w : World) (hl : StA w x l) (hs : SzS l) (hm : l.length ≤ 1000000) :
    Calls Tryz.prog 103 #[.slice x l.length cap, .func (.func 104) #[] #[]] w fun e w' => e = .returned (.bool (decide (¬ ∀ s ∈ l, noteP s))) ∧ Below w.heap.size w w' := by
  have IX := Lib.hid (idxfn_any x cap l w hl hs hm)
  clear hl hs
  generalize decide (¬ ∀ s ∈ l, noteP s) = D at *
  generalize l.length = n at *
  go_enter Tryz.func103, Tryz.ntmps103
  go_wp2_with fail
  refine IX.out.mono ?_
  rintro e w1 ⟨⟨i, rfl, hi⟩, hb⟩
  cases D
  · have h0 : ¬ (0 : Int) ≤ i := by have := of_decide_eq_false hi; omega
    go_wp2_with fail
    go_ret
    exact ⟨rfl, hb⟩
  · have h0 : (0 : Int) ≤ i := by have := of_decide_eq_true hi; omega
    go_wp2_with fail
    go_ret
    exact ⟨rfl, hb⟩
set_option maxRecDepth 100000 in
set_option maxHeartbeats 4000000 in
theorem vcheckn_any (x : Option Addr) (cap : Nat) (l : List ByteArray) (w : World) (hl : StA w x l) (hs : SzS l) (hm : l.length ≤ 1000000) :
    Calls Tryz.prog 54 #[.slice x l.length cap] w fun e w' => e = .returned (.int .i64 (checkN l)) ∧ Below w.heap.size w w' := by
  have CF := Lib.hid (fun w' (h : Below w.heap.size w w') => hasfn_any x cap l w' (hl.below h) hs hm)
  have GM := Lib.hid (fun (h : 50 < l.length) => checkN_many h)
  have GZ := Lib.hid (fun (h : l.length ≤ 50) (g : ∀ s ∈ l, noteP s) => checkN_zero h g)
  have GB := Lib.hid (fun (h : l.length ≤ 50) (g : ¬ ∀ s ∈ l, noteP s) => checkN_bad h g)
  clear hl hs
  generalize checkN l = K at *
  have hmf : ∀ (fn : Fn) (first cap : Array Value) (w : World), (Instr.makeFunc fn first cap).run Tryz.prog w = .ok (.func fn first cap) w := fun _ _ _ _ => rfl
  obtain ⟨n, hnl⟩ : ∃ n, l.length = n := ⟨_, rfl⟩
  rw [hnl] at hm CF GM GZ GB ⊢
  clear hnl
  by_cases h5 : 50 < n
  · have i5 : (50 : Int) < (n : Int) := by omega
    obtain rfl := GM.out h5
    clear CF GM GZ GB
    go_enter Tryz.func54, Tryz.ntmps54
    go_wp2_with fail
    go_ret
    exact ⟨rfl, Below.refl _ _⟩
  · have i5 : ¬ (50 : Int) < (n : Int) := by omega
    replace GZ := Lib.hid (GZ.out (by omega))
    replace GB := Lib.hid (GB.out (by omega))
    clear GM
    go_enter Tryz.func54, Tryz.ntmps54
    go_wp2_with fail
    refine (CF.out _ (Below.refl _ _)).mono ?_
    rintro e w1 ⟨rfl, hb⟩
    by_cases g : ∀ s ∈ l, noteP s
    · obtain rfl := GZ.out g
      rw [decide_eq_false (fun h => h g)]
      clear GZ GB g CF
      go_wp2_with fail
      go_ret
      exact ⟨rfl, hb⟩
    · obtain rfl := GB.out g
      rw [decide_eq_true g]
      clear GZ GB g CF
      go_wp2_with fail
      go_ret
      exact ⟨rfl, hb⟩
end Vw
end Go.Proofs.YtaghilgfldaaiaaGreatDoor
