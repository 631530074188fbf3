/-
  Lemmas and walks, texts joined: TKSet, TKCo, WPl, WLim, WMade, WFrom, WCheck, WArr, WMulPl, WTimes, WMul, WDPl, WQPl, WDown, TKItr, TKPrs.
-/
import Derived.LoopTactic
import Derived.WalkKit
import Derived.ChangeKeysEq
import Derived.Deep.RegionHeld3
import Derived.RangeFuncNested
import Derived.RangeFuncBound
import Derived.RangeFuncCalls
import Derived.RangeFuncLeaves
import Derived.RangeFuncBox
import Derived.Shelf.Abstract
import Derived.Shelf.RegionOpen
import Derived.OwnWalkIn
import Derived.TacticsInMore
import Derived.LoopNIn
import Derived.LoopIn
import Derived.Test.YtjgcbeihgeaimaaGreatDoorTa03
import Derived.Test.YtjgcbeihgeaimaaGreatDoorTa04
import Derived.Test.YtjgcbeihgeaimaaGreatDoorTa02
set_option linter.unusedSimpArgs false
set_option linter.unusedVariables false
/-
  Plain law of tracklets: increasing lists, masks, the sets that are not part of another one, in order; no walk here.
-/
namespace Go.Proofs.YtjgcbeihgeaimaaGreatDoor
namespace Tk

/-- Which one of two lists comes first. -/
def ltL : List Nat → List Nat → Bool
  | _, [] => false
  | [], _ :: _ => true
  | a :: s, b :: t => if a = b then ltL s t else decide (a < b)
theorem ltL_irrefl : ∀ s, ltL s s = false
  | [] => rfl
  | a :: s => by rw [ltL, if_pos rfl]; exact ltL_irrefl s
theorem ltL_trans : ∀ s t u, ltL s t = true → ltL t u = true → ltL s u = true
  | _, [], _, h, _ => by cases ‹List Nat› <;> simp [ltL] at h
  | s, b :: t, [], _, h => by simp [ltL] at h
  | [], b :: t, c :: u, _, _ => rfl
  | a :: s, b :: t, c :: u, h1, h2 => by
    rw [ltL] at h1 h2 ⊢
    by_cases e1 : a = b
    · subst e1
      rw [if_pos rfl] at h1
      by_cases e2 : a = c
      · subst e2; rw [if_pos rfl] at h2 ⊢; exact ltL_trans s t u h1 h2
      · rw [if_neg e2] at h2 ⊢; exact h2
    · rw [if_neg e1] at h1
      by_cases e2 : b = c
      · subst e2; rw [if_neg e1]; exact h1
      · rw [if_neg e2] at h2
        have g1 := of_decide_eq_true h1
        have g2 := of_decide_eq_true h2
        rw [if_neg (by omega)]
        exact decide_eq_true (by omega)
theorem ltL_total : ∀ s t, s = t ∨ ltL s t = true ∨ ltL t s = true
  | [], [] => Or.inl rfl
  | [], b :: t => Or.inr (Or.inl rfl)
  | a :: s, [] => Or.inr (Or.inr rfl)
  | a :: s, b :: t => by
    by_cases e : a = b
    · subst e
      rcases ltL_total s t with h | h | h
      · exact Or.inl (by rw [h])
      · exact Or.inr (Or.inl (by rw [ltL, if_pos rfl]; exact h))
      · exact Or.inr (Or.inr (by rw [ltL, if_pos rfl]; exact h))
    · rcases Nat.lt_or_ge a b with g | g
      · exact Or.inr (Or.inl (by rw [ltL, if_neg e]; exact decide_eq_true g))
      · exact Or.inr (Or.inr (by rw [ltL, if_neg (fun h => e h.symm)]; exact decide_eq_true (by omega)))
theorem ltL_asymm (s t : List Nat) (h : ltL s t = true) : ltL t s = false := by
  cases g : ltL t s
  · rfl
  · have := ltL_trans _ _ _ h g
    rw [ltL_irrefl] at this
    cases this
/-- In order, each one once. -/
def Ord (l : List (List Nat)) : Prop := l.Pairwise fun s t => ltL s t = true
theorem ord_uniq : ∀ {l m : List (List Nat)}, Ord l → Ord m → (∀ s, s ∈ l ↔ s ∈ m) → l = m
  | [], [], _, _, _ => rfl
  | [], b :: m, _, _, h => by have := (h b).2 (by simp); cases this
  | a :: l, [], _, _, h => by have := (h a).1 (by simp); cases this
  | a :: l, b :: m, h1, h2, h => by
    have p1 := List.pairwise_cons.1 h1
    have p2 := List.pairwise_cons.1 h2
    have e : a = b := by
      rcases List.mem_cons.1 ((h a).1 (by simp)) with e | g1
      · exact e
      · rcases List.mem_cons.1 ((h b).2 (by simp)) with e | g2
        · exact e.symm
        · have x := p1.1 b g2
          have y := p2.1 a g1
          rw [ltL_asymm _ _ x] at y
          cases y
    subst e
    congr 1
    refine ord_uniq p1.2 p2.2 fun s => ?_
    have na : ∀ {k : List (List Nat)}, (∀ t ∈ k, ltL a t = true) → a ∉ k := fun hk ha => by
      have := hk a ha
      rw [ltL_irrefl] at this
      cases this
    have q := h s
    rw [List.mem_cons, List.mem_cons] at q
    constructor
    · intro hs
      rcases q.1 (Or.inr hs) with e | g
      · subst e; exact absurd hs (na p1.1)
      · exact g
    · intro hs
      rcases q.2 (Or.inr hs) with e | g
      · subst e; exact absurd hs (na p2.1)
      · exact g
/-- The sets that are not part of another one, and are not too small; in order. -/
structure FindIs (sets : List (List Nat)) (count : Nat) (out : List (List Nat)) : Prop where
  ord : Ord out
  mem : ∀ s, s ∈ out ↔ s ∈ sets ∧ count ≤ s.length ∧ ∀ b ∈ sets, (∀ x ∈ s, x ∈ b) → b = s
theorem FindIs.uniq {sets : List (List Nat)} {count : Nat} {l m : List (List Nat)} (h : FindIs sets count l) (g : FindIs sets count m) : l = m :=
  ord_uniq h.ord g.ord fun s => (h.mem s).trans (g.mem s).symm
/-- Increasing lists. -/
def Inc (l : List Nat) : Prop := l.Pairwise (· < ·)
theorem inc_filter (n : Nat) (f : Nat → Bool) : Inc ((List.range n).filter f) := List.Pairwise.filter _ List.pairwise_lt_range
theorem inc_ext : ∀ {l m : List Nat}, Inc l → Inc m → (∀ x, x ∈ l ↔ x ∈ m) → l = m
  | [], [], _, _, _ => rfl
  | [], b :: m, _, _, h => by have := (h b).2 (by simp); cases this
  | a :: l, [], _, _, h => by have := (h a).1 (by simp); cases this
  | a :: l, b :: m, h1, h2, h => by
    have p1 := List.pairwise_cons.1 h1
    have p2 := List.pairwise_cons.1 h2
    have e : a = b := by
      rcases List.mem_cons.1 ((h a).1 (by simp)) with e | g1
      · exact e
      · rcases List.mem_cons.1 ((h b).2 (by simp)) with e | g2
        · exact e.symm
        · have x := p1.1 b g2
          have y := p2.1 a g1
          omega
    subst e
    congr 1
    refine inc_ext p1.2 p2.2 fun s => ?_
    have q := h s
    rw [List.mem_cons, List.mem_cons] at q
    constructor
    · intro hs
      rcases q.1 (Or.inr hs) with e | g
      · subst e; have := p1.1 s hs; omega
      · exact g
    · intro hs
      rcases q.2 (Or.inr hs) with e | g
      · subst e; have := p2.1 s hs; omega
      · exact g
/-- What is left of a list behind a walk through another one. -/
def gre : List Nat → List Nat → List Nat
  | [], _ => []
  | x :: a, [] => x :: a
  | x :: a, y :: b => if x = y then gre a b else gre (x :: a) b
theorem gre_part : ∀ (b a : List Nat), Inc a → Inc b → (gre a b = [] ↔ ∀ x ∈ a, x ∈ b)
  | b, [], _, _ => by simp [gre]
  | [], x :: a, _, _ => by
    rw [gre]
    constructor
    · intro h
      cases h
    · intro h
      have := h x (by simp)
      cases this
  | y :: b, x :: a, ha, hb => by
    have p1 := List.pairwise_cons.1 ha
    have p2 := List.pairwise_cons.1 hb
    rw [gre]
    by_cases e : x = y
    · subst e
      rw [if_pos rfl, gre_part b a p1.2 p2.2]
      constructor
      · intro h z hz
        rcases List.mem_cons.1 hz with e | g
        · rw [e]; simp
        · exact List.mem_cons_of_mem _ (h z g)
      · intro h z hz
        rcases List.mem_cons.1 (h z (List.mem_cons_of_mem _ hz)) with e | g
        · have := p1.1 z hz; omega
        · exact g
    · rw [if_neg e, gre_part b (x :: a) ha p2.2]
      constructor
      · intro h z hz; exact List.mem_cons_of_mem _ (h z hz)
      · intro h z hz
        have hx : x ∈ b := by
          rcases List.mem_cons.1 (h x (by simp)) with g | g
          · exact absurd g e
          · exact g
        have yx := p2.1 x hx
        rcases List.mem_cons.1 (h z hz) with g | g
        · rcases List.mem_cons.1 hz with g2 | g2
          · omega
          · have := p1.1 z g2; omega
        · exact g
theorem len_part {a b : List Nat} (ha : Inc a) (hb : Inc b) (h : ∀ x ∈ a, x ∈ b) : a.length ≤ b.length ∧ (a.length = b.length → a = b) := by
  have sub : ∀ (b a : List Nat), Inc a → Inc b → (∀ x ∈ a, x ∈ b) → a.Sublist b := by
    intro b
    induction b with
    | nil =>
      intro a _ _ h
      cases a with
      | nil => exact List.Sublist.slnil
      | cons x a => have := h x (by simp); cases this
    | cons y b ih =>
      intro a ha hb h
      cases a with
      | nil => exact List.nil_sublist _
      | cons x a =>
        have p1 := List.pairwise_cons.1 ha
        have p2 := List.pairwise_cons.1 hb
        by_cases e : x = y
        · subst e
          refine List.Sublist.cons_cons _ (ih a p1.2 p2.2 fun z hz => ?_)
          rcases List.mem_cons.1 (h z (List.mem_cons_of_mem _ hz)) with e | g
          · have := p1.1 z hz; omega
          · exact g
        · refine List.Sublist.cons _ (ih (x :: a) ha p2.2 fun z hz => ?_)
          have hx : x ∈ b := by
            rcases List.mem_cons.1 (h x (by simp)) with g | g
            · exact absurd g e
            · exact g
          have yx := p2.1 x hx
          rcases List.mem_cons.1 (h z hz) with g | g
          · rcases List.mem_cons.1 hz with g2 | g2
            · omega
            · have := p1.1 z g2; omega
          · exact g
  have s := sub b a ha hb h
  exact ⟨s.length_le, fun e => s.eq_of_length e⟩
/-- The reference's rule, which sets are kept: none that is larger, or as large and before it, has all of it. -/
def larger (sets : List (List Nat)) (n m : Nat) : Bool := decide (sets[n]!.length < sets[m]!.length) || (decide (sets[m]!.length = sets[n]!.length) && decide (m < n))
def goodAt (sets : List (List Nat)) (count n : Nat) : Bool := decide (count ≤ sets[n]!.length) && (List.range sets.length).all fun m => !(larger sets n m && decide (gre sets[n]! sets[m]! = []))
theorem good_iff {sets : List (List Nat)} {count n : Nat} (hs : ∀ s ∈ sets, Inc s) (hn : n < sets.length) :
    goodAt sets count n = true ↔ count ≤ sets[n]!.length ∧ (∀ b ∈ sets, (∀ x ∈ sets[n]!, x ∈ b) → b = sets[n]!) ∧ ∀ m, m < n → sets[m]! ≠ sets[n]! := by
  have gi : ∀ m, m < sets.length → sets[m]! ∈ sets := fun m hm => by rw [getElem!_pos sets m hm]; exact List.getElem_mem hm
  unfold goodAt
  rw [Bool.and_eq_true, decide_eq_true_iff, List.all_eq_true]
  constructor
  · rintro ⟨h1, h2⟩
    refine ⟨h1, fun b hb hx => ?_, fun m hm e => ?_⟩
    · obtain ⟨m, hm, rfl⟩ := List.getElem_of_mem hb
      have q := h2 m (by simpa using hm)
      have e : sets[m]! = sets[m] := getElem!_pos sets m hm
      rw [← e] at hx hb ⊢
      obtain ⟨l1, l2⟩ := len_part (hs _ (gi n hn)) (hs _ hb) hx
      have gp := (gre_part _ _ (hs _ (gi n hn)) (hs _ hb)).2 hx
      rw [gp] at q
      simp only [decide_true, Bool.and_true, Bool.not_eq_true', larger, Bool.or_eq_false_iff, decide_eq_false_iff_not] at q
      exact (l2 (by omega)).symm
    · have q := h2 m (by simp; omega)
      have gp := (gre_part _ _ (hs _ (gi n hn)) (hs _ (gi m (by omega)))).2 (by rw [e]; exact fun x h => h)
      rw [gp] at q
      simp [larger, e, hm] at q
  · rintro ⟨h1, h2, h3⟩
    refine ⟨h1, fun m hm => ?_⟩
    have hm : m < sets.length := by simpa using hm
    by_cases g : gre sets[n]! sets[m]! = []
    · have hx := (gre_part _ _ (hs _ (gi n hn)) (hs _ (gi m hm))).1 g
      have e := h2 _ (gi m hm) hx
      have nm : ¬ m < n := fun h => h3 m h e
      simp [larger, e, nm]
    · rw [decide_eq_false g, Bool.and_false]; rfl
/-- Putting a set in its place. -/
def insL (s : List Nat) : List (List Nat) → List (List Nat)
  | [] => [s]
  | t :: l => if ltL s t = true then s :: t :: l else t :: insL s l
theorem mem_insL (s x : List Nat) : ∀ l, x ∈ insL s l ↔ x = s ∨ x ∈ l
  | [] => by simp [insL]
  | t :: l => by
    rw [insL]
    split
    · simp
    · simp only [List.mem_cons, mem_insL s x l]
      constructor
      · rintro (h | h | h)
        · exact Or.inr (Or.inl h)
        · exact Or.inl h
        · exact Or.inr (Or.inr h)
      · rintro (h | h | h)
        · exact Or.inr (Or.inl h)
        · exact Or.inl h
        · exact Or.inr (Or.inr h)
theorem ord_insL (s : List Nat) : ∀ l, Ord l → s ∉ l → Ord (insL s l)
  | [], _, _ => List.pairwise_singleton _ _
  | t :: l, h, hs => by
    have p := List.pairwise_cons.1 h
    rw [insL]
    split
    · rename_i g
      refine List.pairwise_cons.2 ⟨fun u hu => ?_, h⟩
      rcases List.mem_cons.1 hu with e | q
      · rw [e]; exact g
      · exact ltL_trans _ _ _ g (p.1 u q)
    · rename_i g
      refine List.pairwise_cons.2 ⟨fun u hu => ?_, ord_insL s l p.2 (fun q => hs (List.mem_cons_of_mem _ q))⟩
      rcases (mem_insL s u l).1 hu with e | q
      · subst e
        rcases ltL_total t u with e | e | e
        · exact absurd (by rw [e]; simp) hs
        · exact e
        · exact absurd e g
      · exact p.1 u q
/-- What the reference has behind some sets. -/
def refTo (sets : List (List Nat)) (count : Nat) : Nat → List (List Nat)
  | 0 => []
  | n + 1 => if goodAt sets count n = true then insL sets[n]! (refTo sets count n) else refTo sets count n
theorem refTo_is {sets : List (List Nat)} {count : Nat} (hs : ∀ s ∈ sets, Inc s) : ∀ n, n ≤ sets.length → Ord (refTo sets count n) ∧ ∀ s, s ∈ refTo sets count n ↔ ∃ i, i < n ∧ s = sets[i]! ∧ goodAt sets count i = true
  | 0, _ => ⟨List.Pairwise.nil, fun s => by simp [refTo]⟩
  | n + 1, h => by
    obtain ⟨h1, h2⟩ := refTo_is hs n (by omega)
    rw [refTo]
    split
    · rename_i g
      have ne : sets[n]! ∉ refTo sets count n := fun q => by
        obtain ⟨i, hi, e, -⟩ := (h2 _).1 q
        exact ((good_iff hs (by omega)).1 g).2.2 i hi e.symm
      refine ⟨ord_insL _ _ h1 ne, fun s => ?_⟩
      rw [mem_insL, h2]
      constructor
      · rintro (e | ⟨i, a, b, c⟩)
        · exact ⟨n, by omega, e, g⟩
        · exact ⟨i, by omega, b, c⟩
      · rintro ⟨i, a, b, c⟩
        by_cases e : i = n
        · subst e; exact Or.inl b
        · exact Or.inr ⟨i, by omega, b, c⟩
    · rename_i g
      refine ⟨h1, fun s => ?_⟩
      rw [h2]
      constructor
      · rintro ⟨i, a, b, c⟩; exact ⟨i, by omega, b, c⟩
      · rintro ⟨i, a, b, c⟩
        by_cases e : i = n
        · subst e; exact absurd c g
        · exact ⟨i, by omega, b, c⟩
theorem ref_find {sets : List (List Nat)} {count : Nat} (hs : ∀ s ∈ sets, Inc s) : FindIs sets count (refTo sets count sets.length) := by
  obtain ⟨h1, h2⟩ := refTo_is (count := count) hs sets.length (Nat.le_refl _)
  refine ⟨h1, fun s => ?_⟩
  rw [h2]
  constructor
  · rintro ⟨i, a, rfl, g⟩
    have q := (good_iff hs a).1 g
    exact ⟨by rw [getElem!_pos sets i a]; exact List.getElem_mem a, q.1, q.2.1⟩
  · rintro ⟨a, b, c⟩
    -- the first place where it lies
    have fst : ∀ (l : List (List Nat)), s ∈ l → ∃ i, i < l.length ∧ s = l[i]! ∧ ∀ m, m < i → l[m]! ≠ s := by
      intro l
      induction l with
      | nil => intro h; cases h
      | cons x l ih =>
        intro h
        by_cases e : x = s
        · exact ⟨0, by simp, by simp [e], fun m hm => absurd hm (Nat.not_lt_zero _)⟩
        · obtain ⟨i, p, q, r⟩ := ih (by rcases List.mem_cons.1 h with g | g; exact absurd g.symm e; exact g)
          refine ⟨i + 1, by simp; omega, by simpa using q, fun m hm => ?_⟩
          cases m with
          | zero => simpa using e
          | succ m => simpa using r m (by omega)
    obtain ⟨i, p, q, r⟩ := fst sets a
    refine ⟨i, p, q, (good_iff hs p).2 ?_⟩
    rw [← q]
    exact ⟨b, c, r⟩
/-- The indices of a mask. -/
def bitsL (x : Nat) : List Nat := (List.range 9).filter x.testBit
theorem mem_bits {x k : Nat} : k ∈ bitsL x ↔ k < 9 ∧ x.testBit k = true := by simp [bitsL]
theorem inc_bits (x : Nat) : Inc (bitsL x) := inc_filter 9 _
theorem bit_high {x k : Nat} (h : x < 512) (hk : 9 ≤ k) : x.testBit k = false := Nat.testBit_lt_two_pow (Nat.lt_of_lt_of_le h (Nat.le_trans (by decide) (Nat.pow_le_pow_right (by decide) hk)))
theorem bits_inj {x y : Nat} (hx : x < 512) (hy : y < 512) (h : bitsL x = bitsL y) : x = y := by
  apply Nat.eq_of_testBit_eq
  intro k
  rcases Nat.lt_or_ge k 9 with hk | hk
  · have a := mem_bits (x := x) (k := k)
    have b := mem_bits (x := y) (k := k)
    rw [h] at a
    have := a.symm.trans b
    simp only [hk, true_and] at this
    exact Bool.eq_iff_iff.2 this
  · rw [bit_high hx hk, bit_high hy hk]
/-- Whether a mask is part of another one. -/
def inM (x y : Nat) : Bool := decide (∀ k ∈ bitsL x, k ∈ bitsL y)
/-- The masks that are no part of another one, each once. -/
def maxTo (M : List Nat) : List Nat → List Nat → List Nat
  | out, [] => out
  | out, a :: l => maxTo M (if out.contains a || M.any (fun b => a != b && inM a b) then out else out ++ [a]) l
theorem maxTo_is (M : List Nat) : ∀ (l out : List Nat), out.Nodup → (maxTo M out l).Nodup ∧ ∀ x, x ∈ maxTo M out l ↔ x ∈ out ∨ (x ∈ l ∧ ∀ b ∈ M, x ≠ b → inM x b = false)
  | [], out, h => ⟨h, fun x => by simp [maxTo]⟩
  | a :: l, out, h => by
    rw [maxTo]
    by_cases g1 : a ∈ out
    · have e : (out.contains a || M.any fun b => a != b && inM a b) = true := by simp [g1]
      rw [if_pos e]
      obtain ⟨p, q⟩ := maxTo_is M l out h
      refine ⟨p, fun x => (q x).trans ?_⟩
      constructor
      · rintro (r | ⟨r, s⟩)
        · exact Or.inl r
        · exact Or.inr ⟨List.mem_cons_of_mem _ r, s⟩
      · rintro (r | ⟨r, s⟩)
        · exact Or.inl r
        · rcases List.mem_cons.1 r with e | r
          · rw [e]; exact Or.inl g1
          · exact Or.inr ⟨r, s⟩
    · by_cases g2 : ∃ b ∈ M, a ≠ b ∧ inM a b = true
      · obtain ⟨b, hb, hn, hi⟩ := g2
        have e : (out.contains a || M.any fun b => a != b && inM a b) = true := by
          rw [Bool.or_eq_true, List.any_eq_true]
          exact Or.inr ⟨b, hb, by simp [hn, hi]⟩
        rw [if_pos e]
        obtain ⟨p, q⟩ := maxTo_is M l out h
        refine ⟨p, fun x => (q x).trans ?_⟩
        constructor
        · rintro (r | ⟨r, s⟩)
          · exact Or.inl r
          · exact Or.inr ⟨List.mem_cons_of_mem _ r, s⟩
        · rintro (r | ⟨r, s⟩)
          · exact Or.inl r
          · rcases List.mem_cons.1 r with e | r
            · have := s b hb (by rw [e]; exact hn)
              rw [e, hi] at this; cases this
            · exact Or.inr ⟨r, s⟩
      · have e : ¬ (out.contains a || M.any fun b => a != b && inM a b) = true := by
          rw [Bool.or_eq_true, List.any_eq_true]
          rintro (r | ⟨b, hb, r⟩)
          · exact g1 (by simpa using r)
          · exact g2 ⟨b, hb, by simpa using r⟩
        rw [if_neg e]
        have h' : (out ++ [a]).Nodup := by
          rw [List.nodup_append]
          refine ⟨h, by simp, fun x hx y hy => ?_⟩
          rw [List.mem_singleton.1 hy]
          rintro rfl
          exact g1 hx
        obtain ⟨p, q⟩ := maxTo_is M l (out ++ [a]) h'
        refine ⟨p, fun x => (q x).trans ?_⟩
        rw [List.mem_append, List.mem_singleton, List.mem_cons]
        constructor
        · rintro ((r | r) | ⟨r, s⟩)
          · exact Or.inl r
          · refine Or.inr ⟨Or.inl r, fun b hb hn => ?_⟩
            cases hi : inM x b
            · rfl
            · exact absurd ⟨b, hb, by rw [← r]; exact hn, by rw [← r]; exact hi⟩ g2
          · exact Or.inr ⟨Or.inr r, s⟩
        · rintro (r | ⟨r | r, s⟩)
          · exact Or.inl (Or.inl r)
          · exact Or.inl (Or.inr r)
          · exact Or.inr ⟨r, s⟩
/-- What the program has before it sorts. -/
def keepL (M : List Nat) (count : Nat) : List (List Nat) := ((maxTo M [] M).map bitsL).filter fun s => decide (count ≤ s.length)
theorem prog_find {M : List Nat} {count : Nat} (hM : ∀ x ∈ M, x < 512) {out : List (List Nat)} (hp : out.Perm (keepL M count)) (ho : out.Pairwise fun s t => ltL t s = false) : FindIs (M.map bitsL) count out := by
  obtain ⟨nd, mm⟩ := maxTo_is M M [] List.nodup_nil
  have m5 : ∀ x ∈ maxTo M [] M, x < 512 := fun x hx => by
    rcases (mm x).1 hx with h | h
    · cases h
    · exact hM x h.1
  have nd2 : (keepL M count).Nodup := by
    refine List.Pairwise.filter _ (List.pairwise_map.2 ?_)
    refine nd.imp_of_mem fun {a b} ha hb hn e => hn ?_
    exact bits_inj (m5 a ha) (m5 b hb) e
  have nd3 : out.Nodup := (hp.nodup_iff).2 nd2
  refine ⟨?_, fun s => ?_⟩
  · refine List.Pairwise.imp (R := fun s t => ltL t s = false ∧ s ≠ t) (fun {s t} h => ?_) (ho.and nd3)
    rcases ltL_total s t with e | e | e
    · exact absurd e h.2
    · exact e
    · rw [h.1] at e; cases e
  · rw [hp.mem_iff]
    unfold keepL
    rw [List.mem_filter, List.mem_map, decide_eq_true_iff]
    constructor
    · rintro ⟨⟨x, hx, rfl⟩, hc⟩
      rcases (mm x).1 hx with h | ⟨h1, h2⟩
      · cases h
      · refine ⟨List.mem_map.2 ⟨x, h1, rfl⟩, hc, fun b hb hs => ?_⟩
        obtain ⟨y, hy, rfl⟩ := List.mem_map.1 hb
        by_cases e : x = y
        · rw [e]
        · have := h2 y hy e
          unfold inM at this
          exact absurd hs (of_decide_eq_false this)
    · rintro ⟨hs, hc, hm⟩
      obtain ⟨x, hx, rfl⟩ := List.mem_map.1 hs
      refine ⟨⟨x, (mm x).2 (Or.inr ⟨hx, fun b hb hn => ?_⟩), rfl⟩, hc⟩
      unfold inM
      refine decide_eq_false fun h => hn ?_
      have := hm (bitsL b) (List.mem_map.2 ⟨b, hb, rfl⟩) h
      exact (bits_inj (hM b hb) (hM x hx) this).symm
end Tk
end Go.Proofs.YtjgcbeihgeaimaaGreatDoor
/-
  slices.Compare at ints.
-/
namespace Go.Proofs.YtjgcbeihgeaimaaGreatDoor
namespace Tk
def cmpL : List Nat → List Nat → Int
  | [], [] => 0
  | [], _ :: _ => -1
  | _ :: _, [] => 1
  | a :: s, b :: t => if a < b then -1 else if b < a then 1 else cmpL s t
theorem cmp_lt : ∀ s t, decide (cmpL s t < 0) = ltL s t
  | [], [] => by simp [cmpL, ltL]
  | [], _ :: _ => by simp [cmpL, ltL]
  | _ :: _, [] => by simp [cmpL, ltL]
  | a :: s, b :: t => by
    rw [cmpL, ltL]
    by_cases h1 : a < b
    · have : ¬ a = b := by omega
      simp [h1, this]
    · by_cases h2 : b < a
      · have : ¬ a = b := by omega
        simp [h1, h2, this]
      · have : a = b := by omega
        simp only [h1, h2, this, if_true, if_false]
        rw [if_neg (by omega), if_neg (by omega)]
        exact cmp_lt s t
theorem cmp_drop {s t : List Nat} {i : Nat} (hs : i < s.length) (ht : i < t.length) : cmpL (s.drop i) (t.drop i) = if s[i] < t[i] then -1 else if t[i] < s[i] then 1 else cmpL (s.drop (i + 1)) (t.drop (i + 1)) := by
  rw [List.drop_eq_getElem_cons hs, List.drop_eq_getElem_cons ht, cmpL]
theorem cmp_end {s t : List Nat} {i : Nat} (hs : i < s.length) (ht : t.length ≤ i) : cmpL (s.drop i) (t.drop i) = 1 := by
  rw [List.drop_eq_getElem_cons hs, List.drop_eq_nil_of_le ht, cmpL]
theorem cmp_short {s t : List Nat} {i : Nat} (hs : s.length = i) (hi : i ≤ t.length) : cmpL (s.drop i) (t.drop i) = if s.length < t.length then -1 else 0 := by
  subst hs
  rw [List.drop_length]
  by_cases h : s.length < t.length
  · rw [List.drop_eq_getElem_cons h, cmpL, if_pos h]
  · rw [List.drop_eq_nil_of_le (by omega), cmpL, if_neg h]
end Tk
namespace Tw
open Go.RowKit Lw Tk Ow

set_option maxRecDepth 100000 in
theorem nan_any (x : Nat) (w : World) : Calls Tryz.prog 68 #[.int .i64 (x : Int)] w fun e w' => e = .returned (.bool false) ∧ w' = w := by
  go_enter Tryz.func68, Tryz.ntmps68
  go_wp2_with fail
  refine bodyPost_ret (results_tmp rfl _ _ _) rfl ⟨rfl, rfl⟩
set_option maxRecDepth 100000 in
theorem ccmp_any (x y : Nat) (w : World) : Calls Tryz.prog 44 #[.int .i64 (x : Int), .int .i64 (y : Int)] w fun e w' => e = .returned (.int .i64 (if x < y then -1 else if y < x then 1 else 0)) ∧ w' = w := by
  have h1 := nan_any x w
  have h2 := nan_any y w
  by_cases hxy : x < y
  · have q : (x : Int) < (y : Int) := by omega
    rw [if_pos hxy]
    go_enter Tryz.func44, Tryz.ntmps44
    go_wp2_with (go_at_call 68; first | (refine h1.mono ?_; rintro e w2 ⟨rfl, rfl⟩) | (refine h2.mono ?_; rintro e w2 ⟨rfl, rfl⟩))
    refine bodyPost_ret (results_tmp rfl _ _ _) rfl ⟨rfl, rfl⟩
  · have q : ¬ (x : Int) < (y : Int) := by omega
    rw [if_neg hxy]
    by_cases hyx : y < x
    · have q2 : (y : Int) < (x : Int) := by omega
      rw [if_pos hyx]
      go_enter Tryz.func44, Tryz.ntmps44
      go_wp2_with (go_at_call 68; first | (refine h1.mono ?_; rintro e w2 ⟨rfl, rfl⟩) | (refine h2.mono ?_; rintro e w2 ⟨rfl, rfl⟩))
      refine bodyPost_ret (results_tmp rfl _ _ _) rfl ⟨rfl, rfl⟩
    · have q2 : ¬ (y : Int) < (x : Int) := by omega
      rw [if_neg hyx]
      go_enter Tryz.func44, Tryz.ntmps44
      go_wp2_with (go_at_call 68; first | (refine h1.mono ?_; rintro e w2 ⟨rfl, rfl⟩) | (refine h2.mono ?_; rintro e w2 ⟨rfl, rfl⟩))
      refine bodyPost_ret (results_tmp rfl _ _ _) rfl ⟨rfl, rfl⟩
set_option maxRecDepth 100000 in
set_option maxHeartbeats 4000000 in
theorem scmp_any (A1 A2 : Option Addr) (c1 c2 : Nat) (s t : List Nat) (w : World) (h1 : RowsG 1 inE w A1 s) (h2 : RowsG 1 inE w A2 t) (hs : s.length ≤ 1000000) (ht : t.length ≤ 1000000) :
    Calls Tryz.prog 25 #[.slice A1 s.length c1, .slice A2 t.length c2] w fun e w' => e = .returned (.int .i64 (cmpL s t)) ∧ w' = w := by
  have H1 := Lib.hid h1
  have H2 := Lib.hid h2
  clear h1 h2
  go_enter Tryz.func25, Tryz.ntmps25
  go_wp2_with fail
  go_loopw [11] (fun z wr => ∃ i : Nat, z = .int .i64 (i : Int) ∧ i ≤ s.length ∧ i ≤ t.length ∧ Hid (cmpL (s.drop i) (t.drop i) = cmpL s t) ∧ wr = w) (fun z _ => ((s.length : Int) - intOf z).toNat)
  case atStart => exact ⟨0, rfl, by omega, by omega, Lib.hid rfl, rfl⟩
  case round =>
    obtain ⟨i, rfl, hi, hit, EC, rfl⟩ := hrel
    have hii : IntKind.i64.wrap ((i : Int) + 1) = ((i + 1 : Nat) : Int) := by rw [IntKind.wrap_i64]; omega
    by_cases hlt : i < s.length
    · obtain ⟨g, rfl, -, hrow⟩ := H1.out.row i hlt
      have g0 : wr.cell? ⟨g, i, none⟩ = some (.int .i64 (s[i] : Int)) := by have := hrow 0 _ rfl; rwa [Nat.mul_one, Nat.add_zero] at this
      by_cases hlt2 : i < t.length
      · obtain ⟨g', rfl, -, hrow'⟩ := H2.out.row i hlt2
        have g1 : wr.cell? ⟨g', i, none⟩ = some (.int .i64 (t[i] : Int)) := by have := hrow' 0 _ rfl; rwa [Nat.mul_one, Nat.add_zero] at this
        have EQ := EC.out
        rw [cmp_drop hlt hlt2] at EQ
        clear hrow hrow' EC
        have hc := ccmp_any s[i] t[i] wr
        generalize s[i] = a at *
        generalize t[i] = b at *
        by_cases hab : a < b
        · rw [if_pos hab] at EQ hc
          have EQ := Lib.hid EQ
          go_wp2_with (go_at_call 44; refine hc.mono ?_; rintro e w2 ⟨rfl, rfl⟩)
          refine bodyPost_ret (results_tmp rfl _ _ _) rfl ⟨?_, rfl⟩
          first | exact congrArg (fun z => Ending.returned (.int .i64 z)) EQ.out | rfl
        · rw [if_neg hab] at EQ hc
          by_cases hba : b < a
          · rw [if_pos hba] at EQ hc
            have EQ := Lib.hid EQ
            go_wp2_with (go_at_call 44; refine hc.mono ?_; rintro e w2 ⟨rfl, rfl⟩)
            refine bodyPost_ret (results_tmp rfl _ _ _) rfl ⟨?_, rfl⟩
            first | exact congrArg (fun z => Ending.returned (.int .i64 z)) EQ.out | rfl
          · rw [if_neg hba] at EQ hc
            have EQ := Lib.hid EQ
            go_wp2_with (go_at_call 44; refine hc.mono ?_; rintro e w2 ⟨rfl, rfl⟩)
            go_roundw
            case rel => exact ⟨i + 1, rfl, by omega, by omega, EQ, by trivial⟩
            case measure => simp [intOf]; omega
      · have EQ := EC.out
        rw [cmp_end hlt (by omega)] at EQ
        clear EC
        have EQ := Lib.hid EQ
        go_wp2_with fail
        refine bodyPost_ret (results_tmp rfl _ _ _) rfl ⟨?_, rfl⟩
        first | exact congrArg (fun z => Ending.returned (.int .i64 z)) EQ.out | rfl
    · have hle : s.length = i := by omega
      have EQ := EC.out
      rw [cmp_short hle hit] at EQ
      clear EC
      by_cases hst : s.length < t.length
      · rw [if_pos hst] at EQ
        have EQ := Lib.hid EQ
        go_wp2_with fail
        refine bodyPost_ret (results_tmp rfl _ _ _) rfl ⟨?_, rfl⟩
        first | exact congrArg (fun z => Ending.returned (.int .i64 z)) EQ.out | rfl
      · rw [if_neg hst] at EQ
        have EQ := Lib.hid EQ
        go_wp2_with fail
        refine bodyPost_ret (results_tmp rfl _ _ _) rfl ⟨?_, rfl⟩
        first | exact congrArg (fun z => Ending.returned (.int .i64 z)) EQ.out | rfl
set_option maxRecDepth 100000 in
theorem find1_any (A1 A2 : Option Addr) (c1 c2 : Nat) (s t : List Nat) (w : World) (h1 : RowsG 1 inE w A1 s) (h2 : RowsG 1 inE w A2 t) (hs : s.length ≤ 1000000) (ht : t.length ≤ 1000000) :
    Calls Tryz.prog 24 #[.slice A1 s.length c1, .slice A2 t.length c2] w fun e w' => e = .returned (.int .i64 (cmpL s t)) ∧ w' = w := by
  have hc := scmp_any A1 A2 c1 c2 s t w h1 h2 hs ht
  clear h1 h2
  go_enter Tryz.func24, Tryz.ntmps24
  go_wp2_with (go_at_call 25; refine hc.mono ?_; rintro e w2 ⟨rfl, rfl⟩)
  refine bodyPost_ret (results_tmp rfl _ _ _) rfl ⟨rfl, rfl⟩
end Tw
end Go.Proofs.YtjgcbeihgeaimaaGreatDoor
/-
  Plain law of numbers in limbs of 32 bits; no program in sight.
-/
namespace Go.Proofs.YtjgcbeihgeaimaaGreatDoor
namespace Wd

/-- The number that limbs stand for, the lowest one first. -/
def val : List Nat → Nat
  | [] => 0
  | x :: l => x + 4294967296 * val l
def Lb (l : List Nat) : Prop := ∀ x ∈ l, x < 4294967296
/-- The limbs of a number, without zeros at the end. -/
def canon (n : Nat) : List Nat := if h : n = 0 then [] else n % 4294967296 :: canon (n / 4294967296)
termination_by n
decreasing_by omega
theorem canon_zero : canon 0 = [] := by rw [canon]; simp
theorem canon_pos {n : Nat} (h : n ≠ 0) : canon n = n % 4294967296 :: canon (n / 4294967296) := by rw [canon, dif_neg h]
theorem canon_spec (n : Nat) : val (canon n) = n ∧ Lb (canon n) ∧ (canon n = [] ↔ n = 0) ∧ (∀ h : canon n ≠ [], (canon n).getLast h ≠ 0) := by
  induction n using Nat.strongRecOn with
  | _ n ih =>
    by_cases h : n = 0
    · subst h
      rw [canon_zero]
      exact ⟨rfl, fun x hx => by simp at hx, by simp, fun h => absurd rfl h⟩
    · obtain ⟨i1, i2, i3, i4⟩ := ih (n / 4294967296) (by omega)
      rw [canon_pos h]
      refine ⟨?_, ?_, ?_, ?_⟩
      · simp only [val]; rw [i1]; omega
      · intro x hx
        rcases List.mem_cons.1 hx with rfl | hx
        · exact Nat.mod_lt _ (by decide)
        · exact i2 x hx
      · simp [h]
      · intro g
        by_cases e : canon (n / 4294967296) = []
        · have : n / 4294967296 = 0 := i3.1 e
          simp only [e, List.getLast_singleton]
          omega
        · rw [List.getLast_cons e]
          exact i4 e
theorem val_canon (n : Nat) : val (canon n) = n := (canon_spec n).1
theorem lb_canon (n : Nat) : Lb (canon n) := (canon_spec n).2.1
theorem val_lt : ∀ l, Lb l → val l < 4294967296 ^ l.length
  | [], _ => by simp [val]
  | x :: l, h => by
    have hx := h x (List.mem_cons_self ..)
    have ih := val_lt l fun y hy => h y (List.mem_cons_of_mem _ hy)
    simp only [val, List.length_cons]
    rw [Nat.pow_succ]
    omega
theorem canon_uniq : ∀ l, Lb l → (∀ h : l ≠ [], l.getLast h ≠ 0) → l = canon (val l)
  | [], _, _ => by simp [val, canon_zero]
  | x :: l, h, hl => by
    have hx := h x (List.mem_cons_self ..)
    have ih := canon_uniq l (fun y hy => h y (List.mem_cons_of_mem _ hy)) fun g => by
      have := hl (by simp)
      rwa [List.getLast_cons g] at this
    have hne : val (x :: l) ≠ 0 := by
      simp only [val]
      intro e
      have h1 : x = 0 := by omega
      have h2 : val l = 0 := by omega
      by_cases g : l = []
      · subst g
        have := hl (by simp)
        simp at this
        exact this h1
      · rw [ih, h2, canon_zero] at g
        exact g rfl
    rw [canon_pos hne]
    simp only [val]
    rw [show (x + 4294967296 * val l) % 4294967296 = x by omega, show (x + 4294967296 * val l) / 4294967296 = val l by omega, ← ih]
theorem canon_len : ∀ (k n : Nat), n < 4294967296 ^ k → (canon n).length ≤ k
  | 0, n, h => by have : n = 0 := by simpa using h
                  rw [this, canon_zero]; simp
  | k + 1, n, h => by
    by_cases e : n = 0
    · rw [e, canon_zero]; simp
    · rw [canon_pos e, List.length_cons]
      have := canon_len k (n / 4294967296) (by rw [Nat.pow_succ] at h; exact Nat.div_lt_of_lt_mul (by rw [Nat.mul_comm]; exact h))
      omega
theorem val_append : ∀ a b, val (a ++ b) = val a + 4294967296 ^ a.length * val b
  | [], b => by simp [val]
  | x :: a, b => by
    rw [List.cons_append]
    simp only [val, List.length_cons]
    rw [val_append a b, Nat.pow_succ, Nat.mul_add, Nat.mul_comm (4294967296 ^ a.length) 4294967296, Nat.mul_assoc]
    omega
theorem val_zeros : ∀ l, (∀ x ∈ l, x = 0) → val l = 0
  | [], _ => rfl
  | x :: l, h => by
    simp only [val]
    rw [h x (List.mem_cons_self ..), val_zeros l fun y hy => h y (List.mem_cons_of_mem _ hy)]
/-- Cutting zeros at the end off. -/
theorem cut_canon {l : List Nat} {k : Nat} (hl : Lb l) (hk : k ≤ l.length) (hz : ∀ j (h : j < l.length), k ≤ j → l[j] = 0) (hn : k = 0 ∨ ∃ h : k - 1 < l.length, l[k - 1] ≠ 0) : l.take k = canon (val l) := by
  have e : val (l.take k) = val l := by
    have h1 := val_append (l.take k) (l.drop k)
    rw [List.take_append_drop] at h1
    have h2 : val (l.drop k) = 0 := val_zeros _ fun x hx => by
      obtain ⟨i, hi, rfl⟩ := List.mem_iff_getElem.1 hx
      rw [List.getElem_drop]
      exact hz _ _ (by omega)
    rw [h1, h2]; simp
  rw [← e]
  refine canon_uniq _ (fun x hx => hl x (List.mem_of_mem_take hx)) fun g => ?_
  rcases hn with h0 | ⟨h, hne⟩
  · subst h0; simp at g
  · have k0 : 0 < k := by
      rcases Nat.eq_zero_or_pos k with h0 | h0
      · subst h0; simp at g
      · exact h0
    rw [List.getLast_eq_getElem]
    have hlen : (l.take k).length - 1 = k - 1 := by rw [List.length_take]; omega
    simp only [hlen, List.getElem_take]
    exact hne
theorem canon_take : ∀ l, Lb l → canon (val l) = l.take (canon (val l)).length
  | [], _ => by simp [val, canon_zero]
  | x :: l, h => by
    have hx := h x (List.mem_cons_self ..)
    have ih := canon_take l fun y hy => h y (List.mem_cons_of_mem _ hy)
    by_cases e : val (x :: l) = 0
    · rw [e, canon_zero]; rfl
    · rw [canon_pos e]
      simp only [val]
      rw [show (x + 4294967296 * val l) % 4294967296 = x by omega, show (x + 4294967296 * val l) / 4294967296 = val l by omega, List.length_cons, List.take_succ_cons, ← ih]
theorem canon_le (l : List Nat) (h : Lb l) : (canon (val l)).length ≤ l.length := by
  have e := congrArg List.length (canon_take l h)
  rw [List.length_take] at e
  omega
end Wd
end Go.Proofs.YtjgcbeihgeaimaaGreatDoor
/-
  Limbs in memory.
-/
namespace Go.Proofs.YtjgcbeihgeaimaaGreatDoor
namespace Wd
open Go.RowKit Lw

abbrev u4 (x : Nat) : Value := .int .u32 (x : Int)
abbrev us (l : List Nat) : List Value := l.map u4
/-- A slice with these limbs. -/
structure Lim (w : World) (a : Option Addr) (n cap : Nat) (l : List Nat) : Prop where
  len : l.length = n
  lb : Lb l
  cp : n ≤ cap
  sm : n ≤ 1000000
  row : 0 < n → ∃ b off, a = some ⟨b, off, none⟩ ∧ b < w.heap.size ∧ w.rangeAt b off (us l)
def LimV (w : World) (v : Value) (l : List Nat) : Prop := ∃ a n cap, v = .slice a n cap ∧ Lim w a n cap l
theorem Lim.below {w w' : World} {a : Option Addr} {n cap : Nat} {l : List Nat} (h : Lim w a n cap l) (hb : Below w.heap.size w w') : Lim w' a n cap l :=
  ⟨h.len, h.lb, h.cp, h.sm, fun p => by
    obtain ⟨b, off, e, lt, r⟩ := h.row p
    have := hb.size
    exact ⟨b, off, e, by omega, fun j v hv => (hb.cell (p := ⟨b, off + j, none⟩) lt).trans (r j v hv)⟩⟩
theorem LimV.below {w w' : World} {v : Value} {l : List Nat} (h : LimV w v l) (hb : Below w.heap.size w w') : LimV w' v l := by
  obtain ⟨a, n, cap, e, h⟩ := h
  exact ⟨a, n, cap, e, h.below hb⟩
theorem Lim.nil (w : World) : Lim w none 0 0 [] := ⟨rfl, fun _ h => by simp at h, Nat.le_refl _, by omega, fun h => absurd h (by omega)⟩
theorem Lim.cell {w : World} {b off n cap : Nat} {l : List Nat} (h : Lim w (some ⟨b, off, none⟩) n cap l) {k : Nat} (hk : k < l.length) : w.cell? ⟨b, off + k, none⟩ = some (.int .u32 (l[k] : Int)) := by
  obtain ⟨b', off', e, _, r⟩ := h.row (by have := h.len; omega)
  cases e
  exact r k _ (by simp [hk])
theorem Lim.take {w : World} {a : Option Addr} {n cap : Nat} {l : List Nat} (h : Lim w a n cap l) {k : Nat} (hk : k ≤ n) : Lim w a k cap (l.take k) := by
  have hl := h.len
  have := h.cp
  have := h.sm
  refine ⟨by rw [List.length_take]; omega, fun x hx => h.lb x (List.mem_of_mem_take hx), by omega, by omega, fun p => ?_⟩
  obtain ⟨b, off, e, lt, r⟩ := h.row (by omega)
  refine ⟨b, off, e, lt, fun j v hv => r j v ?_⟩
  rw [List.getElem?_map] at hv ⊢
  by_cases hj : j < k
  · rwa [List.getElem?_take_of_lt hj] at hv
  · rw [List.getElem?_eq_none (by rw [List.length_take]; omega)] at hv
    simp at hv
theorem size_setCells (b : Nat) : ∀ (vs : List Value) (o : Nat) (w : World), (w.setCells b o vs).heap.size = w.heap.size
  | [], _, _ => rfl
  | v :: vs, o, w => by
    rw [World.setCells, size_setCells b vs]
    simp
theorem Lim.setCells {w : World} {a : Option Addr} {n cap : Nat} {l : List Nat} (h : Lim w a n cap l) {c : Nat} (hne : ∀ b off, a = some ⟨b, off, none⟩ → b ≠ c) (o : Nat) (vs : List Value) : Lim (w.setCells c o vs) a n cap l :=
  ⟨h.len, h.lb, h.cp, h.sm, fun p => by
    obtain ⟨b, off, e, lt, r⟩ := h.row p
    exact ⟨b, off, e, by rw [size_setCells]; exact lt, World.rangeAt_setCells_apart r c o vs (Or.inl (hne b off e))⟩⟩
theorem addr_zero (a : Addr) : a.add 0 = a := by simp [Addr.add]
theorem el_us : Tryz.prog.underlying 91 = some (.slice (Tryz.prog.elem 91)) := by kernel_rfl
theorem sz_us (w : World) : (sizeOf (Tryz.prog.elem 91)).run Tryz.prog w = .ok 1 w := by
  have e : (Tryz.prog.info? (Tryz.prog.elem 91)).isSome = true := by kernel_rfl
  have c : Tryz.prog.cellsOf (Tryz.prog.elem 91) = 1 := by kernel_rfl
  generalize Tryz.prog.elem 91 = T at e c
  cases hi : Tryz.prog.info? T with
  | none => rw [hi] at e; cases e
  | some i => rw [run_sizeOf _ hi, c]
theorem take_run (a : Option Addr) (n cap k : Nat) (h : k ≤ cap) (w : World) :
    (Instr.slice 91 (.slice a n cap) none (some (.int .i64 (k : Int))) none).run Tryz.prog w = .ok (.slice a k cap) w := by
  rw [run_slice_h w _ a n cap el_us .i64 k (by omega) (by omega), sz_us]
  have e : sliced a 0 (k : Int).toNat cap 1 = .slice a k cap := by
    unfold sliced
    rw [Int.toNat_natCast, Nat.sub_zero, Nat.sub_zero]
    cases a <;> simp [addr_zero]
  simp only [Result.andThen, e]
end Wd
end Go.Proofs.YtjgcbeihgeaimaaGreatDoor
/-
  The walk of made of package wide.
-/
namespace Go.Proofs.YtjgcbeihgeaimaaGreatDoor
namespace Wd
open Go.RowKit Lw

theorem infoW : (Tryz.prog.info? 93).map (·.size) = some 2 := by kernel_rfl
/-- The value of a whole number, whose limbs lie at or behind block B. -/
def Wide (B : Nat) (w : World) (V : Value) (z : Int) : Prop := ∃ a k cap, V = .agg #[.bool (decide (z < 0)), .slice a k cap] ∧ Lim w a k cap (canon z.natAbs) ∧ ∀ b off, a = some ⟨b, off, none⟩ → B ≤ b
theorem Wide.below {B : Nat} {w w' : World} {V : Value} {z : Int} (h : Wide B w V z) (hb : Below w.heap.size w w') : Wide B w' V z := by
  obtain ⟨a, k, cap, e, h, g⟩ := h
  exact ⟨a, k, cap, e, h.below hb, g⟩
theorem Wide.mono {B B' : Nat} {w : World} {V : Value} {z : Int} (h : Wide B w V z) (hb : B' ≤ B) : Wide B' w V z := by
  obtain ⟨a, k, cap, e, h, g⟩ := h
  exact ⟨a, k, cap, e, h, fun b off e => Nat.le_trans hb (g b off e)⟩
/-- The number with a sign. -/
def sgn (neg : Bool) (n : Nat) : Int := if neg then -(n : Int) else n
theorem sgn_abs (neg : Bool) (n : Nat) : (sgn neg n).natAbs = n := by cases neg <;> simp [sgn]
theorem sgn_neg (neg : Bool) (n : Nat) : decide (sgn neg n < 0) = (neg && decide (0 < n)) := by
  cases neg
  · simp [sgn]
  · simp only [sgn]; rw [Bool.true_and]; congr 1; simp
theorem canon_lenpos (n : Nat) : 0 < (canon n).length ↔ 0 < n := by
  have := (canon_spec n).2.2.1
  constructor
  · intro h; rcases Nat.eq_zero_or_pos n with e | e
    · rw [this.2 e] at h; simp at h
    · exact e
  · intro h; rcases List.length_pos_iff.2 (fun e => by have := this.1 e; omega) with h; exact h
theorem made_pick (neg : Bool) (k : Nat) (l : List Nat) (h : (canon (val l)).length = k) : (if neg = true then decide ((0 : Int) < (k : Int)) else false) = decide (sgn neg (val l) < 0) := by
  rw [sgn_neg]
  have := canon_lenpos (val l)
  cases neg
  · simp
  · simp only [if_true, Bool.true_and]; congr 1; simp; omega
end Wd
end Go.Proofs.YtjgcbeihgeaimaaGreatDoor
/-
  The walk of From of package wide.
-/
namespace Go.Proofs.YtjgcbeihgeaimaaGreatDoor
namespace Wd
open Go.RowKit Lw

theorem Lim.new (w : World) (l : List Nat) (t : TypeId) (cap : Nat) (hl : Lb l) (hc : l.length ≤ cap) (hs : l.length ≤ 1000000) : Lim (w.alloc (.cells (us l).toArray t)) (some ⟨w.heap.size, 0, none⟩) l.length cap l :=
  ⟨rfl, hl, hc, hs, fun _ => ⟨_, _, rfl, by simp, rangeAt_new w (us l) t⟩⟩
theorem two_val (n : Nat) (h : n < 18446744073709551616) : val [n % 4294967296, n / 4294967296] = n ∧ Lb [n % 4294967296, n / 4294967296] := by
  refine ⟨by simp only [val]; omega, fun x hx => ?_⟩
  simp only [List.mem_cons, List.not_mem_nil, or_false] at hx
  rcases hx with rfl | rfl <;> omega
theorem from_sgn (t : Int) : sgn (decide (t < 0)) t.natAbs = t := by
  by_cases h : t < 0 <;> simp [sgn, h] <;> omega
def FromPost (w : World) (z : Int) (e : Ending) (w' : World) : Prop := ∃ V, e = .returned V ∧ Wide w.heap.size w' V z ∧ Below w.heap.size w w'
end Wd
end Go.Proofs.YtjgcbeihgeaimaaGreatDoor
/-
  The walks of check and Check of package wide.
-/
namespace Go.Proofs.YtjgcbeihgeaimaaGreatDoor
namespace Wd
open Go.RowKit Lw

theorem canon_last {n m : Nat} (h : (canon n).length = m) (hm : 0 < m) : (canon n)[m - 1]'(by omega) ≠ 0 := by
  have hne : canon n ≠ [] := List.ne_nil_of_length_pos (by omega)
  have := (canon_spec n).2.2.2 hne
  rw [List.getLast_eq_getElem] at this
  subst h
  exact this
end Wd
end Go.Proofs.YtjgcbeihgeaimaaGreatDoor
/-
  Limbs that are made and written: a block of its own.
-/
namespace Go.Proofs.YtjgcbeihgeaimaaGreatDoor
namespace Wd
open Go.RowKit Lw

/-- A block with these limbs. -/
def Arr (w : World) (g : Nat) (L : List Nat) : Prop := w.heap[g]? = some (.cells (us L).toArray 119 (0, 0))
theorem Arr.new (w : World) (L : List Nat) : Arr (w.alloc (.cells (us L).toArray 119)) w.heap.size L := by
  unfold Arr
  exact heap_alloc_new w _
theorem Arr.lt {w : World} {g : Nat} {L : List Nat} (h : Arr w g L) : g < w.heap.size := lt_of_block h
theorem Arr.cell {w : World} {g : Nat} {L : List Nat} (h : Arr w g L) {k : Nat} (hk : k < L.length) : w.cell? ⟨g, k, none⟩ = some (.int .u32 (L[k] : Int)) := by
  unfold Arr at h
  simp [World.cell?, h, hk]
theorem Arr.free {w : World} {g : Nat} {L : List Nat} (h : Arr w g L) (k : Nat) : w.frozen? ⟨g, k, none⟩ = false := by
  unfold Arr at h
  simp [World.frozen?, h]
theorem Arr.set {w : World} {g : Nat} {L : List Nat} (h : Arr w g L) (k v : Nat) : Arr (w.setCell ⟨g, k, none⟩ (.int .u32 (v : Int))) g (L.set k v) := by
  have hlt := h.lt
  unfold Arr at h ⊢
  have h' : w.heap[g] = .cells (us L).toArray 119 (0, 0) := by simpa [Array.getElem?_eq_getElem hlt] using h
  show (w.heap.modify g _)[g]? = _
  rw [Array.getElem?_eq_getElem (by simpa using hlt), Array.getElem_modify_self, h']
  simp [us, Array.set!_eq_setIfInBounds, List.map_set]
theorem Arr.other {w : World} {g : Nat} {L : List Nat} (h : Arr w g L) {p : Addr} (hp : p.block ≠ g) (v : Value) : Arr (w.setCell p v) g L := by
  unfold Arr at h ⊢
  rw [Below.heap_setCell _ _ _ _ (by simpa using Ne.symm hp)]
  exact h
theorem Arr.below {w w' : World} {g : Nat} {L : List Nat} (h : Arr w g L) (hb : Below w.heap.size w w') : Arr w' g L := by
  have := hb.block g h.lt
  unfold Arr at h ⊢
  rw [this]; exact h
theorem Arr.lim {w : World} {g : Nat} {L : List Nat} (h : Arr w g L) (hl : Lb L) {cap : Nat} (hc : L.length ≤ cap) (hs : L.length ≤ 1000000) : Lim w (some ⟨g, 0, none⟩) L.length cap L :=
  ⟨rfl, hl, hc, hs, fun _ => ⟨g, 0, rfl, h.lt, fun j v hv => by
    have hj : j < L.length := by have := (List.getElem?_eq_some_iff.1 hv).1; simpa [us] using this
    rw [Nat.zero_add, h.cell hj]
    simpa [us, hj] using hv⟩⟩
theorem info4 : (Tryz.prog.info? 119).map (fun i => (i.zero, i.size, i.bytes)) = some (some (.int .u32 0), 1, 4) := by kernel_rfl
theorem made_us (n : Nat) : madeCells #[.int .u32 0] n = (us (List.replicate n 0)).toArray := by
  apply Array.ext
  · simp [size_madeCells, us]
  · intro i h1 h2
    have e : i % 1 = 0 := Nat.mod_one i
    simp [madeCells, us, e]
theorem make_us (n : Nat) (hn : n ≤ 1000000) (w : World) : (Instr.makeSlice 91 (.int .i64 (n : Int)) (.int .i64 (n : Int))).run Tryz.prog w = .ok (.slice (some ⟨w.heap.size, 0, none⟩) n n) (w.alloc (.cells (us (List.replicate n 0)).toArray 119)) := by
  obtain ⟨i, hi, hzz⟩ := Option.map_eq_some_iff.1 info4
  simp only [Prod.mk.injEq] at hzz
  obtain ⟨hz, hs, hb⟩ := hzz
  have h := run_make (P := Tryz.prog) w 91 119 i _ Tryz.underlying91 hi hz .i64 .i64 (n : Int) (n : Int) (by omega) (Int.le_refl _) (by rw [hb]; omega) (by omega)
  rw [hs, Int.toNat_natCast, Nat.mul_one] at h
  rw [← made_us]
  exact h
/-- The cells of a new slice. -/
def nu (n : Nat) : Array Value := (us (List.replicate n 0)).toArray
theorem Arr.nu (w : World) (n : Nat) : Arr (w.alloc (.cells (nu n) 119)) w.heap.size (List.replicate n 0) := Arr.new w _
theorem make_nu (n : Nat) (hn : n ≤ 1000000) (w : World) : (Instr.makeSlice 91 (.int .i64 (n : Int)) (.int .i64 (n : Int))).run Tryz.prog w = .ok (.slice (some ⟨w.heap.size, 0, none⟩) n n) (w.alloc (.cells (nu n) 119)) := make_us n hn w
end Wd
end Go.Proofs.YtjgcbeihgeaimaaGreatDoor
/-
  Plain law of the product in limbs; no program in sight.
-/
namespace Go.Proofs.YtjgcbeihgeaimaaGreatDoor
namespace Wd

theorem val_set : ∀ (L : List Nat) (j v : Nat) (h : j < L.length), val (L.set j v) + 4294967296 ^ j * L[j] = val L + 4294967296 ^ j * v
  | x :: L, 0, v, _ => by simp only [List.set_cons_zero, val, List.getElem_cons_zero, Nat.pow_zero]; omega
  | x :: L, j + 1, v, h => by
    have ih := val_set L j v (by simpa using h)
    simp only [List.set_cons_succ, val, List.getElem_cons_succ]
    rw [Nat.pow_succ, Nat.mul_comm (4294967296 ^ j) 4294967296, Nat.mul_assoc, Nat.mul_assoc]
    omega
theorem val_take : ∀ (l : List Nat) (k : Nat) (h : k < l.length), val (l.take (k + 1)) = val (l.take k) + 4294967296 ^ k * l[k]
  | x :: l, 0, _ => by simp [val]
  | x :: l, k + 1, h => by
    have ih := val_take l k (by simpa using h)
    simp only [List.take_succ_cons, val, List.getElem_cons_succ]
    rw [ih, Nat.pow_succ, Nat.mul_comm (4294967296 ^ k) 4294967296, Nat.mul_assoc]
    omega
theorem lb_get {l : List Nat} (h : Lb l) {k : Nat} (hk : k < l.length) : l[k] < 4294967296 := h _ (List.getElem_mem hk)
theorem lb_set {l : List Nat} (h : Lb l) (k v : Nat) (hv : v < 4294967296) : Lb (l.set k v) := fun x hx => by
  rcases List.mem_or_eq_of_mem_set hx with g | g
  · exact h x g
  · rw [g]; exact hv
structure TOut (a b L : List Nat) (i : Nat) : Prop where
  len : L.length = a.length + b.length
  lb : Lb L
  v : val L = val (a.take i) * val b
  z : ∀ j (h : j < L.length), i + b.length ≤ j → L[j] = 0
structure TIn (a b L : List Nat) (i k c x : Nat) : Prop where
  len : L.length = a.length + b.length
  lb : Lb L
  c1 : c < 4294967296
  v : val L + c * 4294967296 ^ (i + k) = val (a.take i) * val b + x * (4294967296 ^ i * val (b.take k))
  z : ∀ j (h : j < L.length), i + b.length ≤ j → L[j] = 0
theorem TOut.zero (a b : List Nat) : TOut a b (List.replicate (a.length + b.length) 0) 0 :=
  ⟨by simp, fun x hx => by have := List.eq_of_mem_replicate hx; omega, by rw [val_zeros _ fun x hx => List.eq_of_mem_replicate hx]; simp [val], fun j h _ => by simp⟩
theorem TOut.start {a b L : List Nat} {i : Nat} (h : TOut a b L i) (x : Nat) : TIn a b L i 0 0 x :=
  ⟨h.len, h.lb, by omega, by rw [h.v]; simp [val], h.z⟩
theorem prod_bd {x y c l : Nat} (hx : x < 4294967296) (hy : y < 4294967296) (hc : c < 4294967296) (hl : l < 4294967296) : x * y ≤ 18446744065119617025 ∧ c + (x * y + l) < 18446744073709551616 := by
  have : x * y ≤ 4294967295 * 4294967295 := Nat.mul_le_mul (by omega) (by omega)
  omega
theorem TIn.step {a b L : List Nat} {i k c x : Nat} (h : TIn a b L i k c x) (hi : i < a.length) (hk : k < b.length) (hb : Lb b) (hx : x < 4294967296) (hj : i + k < L.length) :
    TIn a b (L.set (i + k) ((c + (x * b[k] + L[i + k])) % 4294967296)) i (k + 1) ((c + (x * b[k] + L[i + k])) / 4294967296) x := by
  have hv := val_set L (i + k) ((c + (x * b[k] + L[i + k])) % 4294967296) hj
  have hp := (prod_bd hx (lb_get hb hk) h.c1 (lb_get h.lb hj)).2
  refine ⟨by simpa using h.len, lb_set h.lb _ _ (Nat.mod_lt _ (by decide)), by omega, ?_, fun j hjl hge => ?_⟩
  · rw [val_take b k hk]
    have hv2 := h.v
    generalize hL : L[i + k] = l at *
    generalize hy : b[k] = y at *
    generalize hq : (c + (x * y + l)) = t at *
    have e : 4294967296 ^ (i + (k + 1)) = 4294967296 ^ (i + k) * 4294967296 := by rw [← Nat.add_assoc, Nat.pow_succ]
    have e2 : x * (4294967296 ^ i * (val (b.take k) + 4294967296 ^ k * y)) = x * (4294967296 ^ i * val (b.take k)) + 4294967296 ^ (i + k) * (x * y) := by
      rw [Nat.mul_add, Nat.mul_add, Nat.pow_add]
      congr 1
      rw [← Nat.mul_assoc (4294967296 ^ i), Nat.mul_left_comm]
    rw [e, e2]
    have e3 : t / 4294967296 * (4294967296 ^ (i + k) * 4294967296) + 4294967296 ^ (i + k) * (t % 4294967296) = 4294967296 ^ (i + k) * t := by
      rw [Nat.mul_left_comm, ← Nat.mul_add, Nat.mul_comm (t / 4294967296), Nat.div_add_mod]
    have e4 : 4294967296 ^ (i + k) * t = c * 4294967296 ^ (i + k) + 4294967296 ^ (i + k) * (x * y) + 4294967296 ^ (i + k) * l := by
      rw [← hq, Nat.mul_add, Nat.mul_add, Nat.mul_comm _ c]; omega
    omega
  · rw [List.getElem_set_ne (by omega)]
    exact h.z j (by simpa using hjl) hge
theorem TIn.fin {a b L : List Nat} {i c : Nat} (hi : i < a.length) (h : TIn a b L i b.length c a[i]) : TOut a b (L.set (i + b.length) c) (i + 1) := by
  have hj : i + b.length < L.length := by rw [h.len]; omega
  have hv := val_set L (i + b.length) c hj
  have hz := h.z (i + b.length) hj (Nat.le_refl _)
  refine ⟨by simpa using h.len, lb_set h.lb _ _ h.c1, ?_, fun j hjl hge => ?_⟩
  · have hv2 := h.v
    rw [List.take_length] at hv2
    rw [hz] at hv
    rw [val_take a i hi, Nat.add_mul, Nat.mul_comm (4294967296 ^ i), Nat.mul_assoc]
    rw [Nat.mul_comm c] at hv2
    omega
  · rw [List.getElem_set_ne (by omega)]
    exact h.z j (by simpa using hjl) (by omega)
end Wd
end Go.Proofs.YtjgcbeihgeaimaaGreatDoor
/-
  The walk of times of package wide.
-/
namespace Go.Proofs.YtjgcbeihgeaimaaGreatDoor
namespace Wd
open Go.RowKit Lw

/-- A list in a block of its own, behind what was there. -/
def FreshPost (w : World) (n : Nat) (p : List Nat → Prop) (e : Ending) (w' : World) : Prop :=
  ∃ L, e = .returned (.slice (some ⟨w.heap.size, 0, none⟩) n n) ∧ L.length = n ∧ Lb L ∧ p L ∧ Arr w' w.heap.size L ∧ Below w.heap.size w w'
end Wd
end Go.Proofs.YtjgcbeihgeaimaaGreatDoor
/-
  The walk of Mul of package wide.
-/
namespace Go.Proofs.YtjgcbeihgeaimaaGreatDoor
namespace Wd
open Go.RowKit Lw

/-- Two whole numbers in boxes of their own, and a cell for a result. -/
structure BX (w0 : World) (x y : Bool) (u v : Value) (w : World) : Prop where
  below : Below w0.heap.size w0 w
  size : w0.heap.size + 3 ≤ w.heap.size
  x0 : w.cell? ⟨w0.heap.size, 0, none⟩ = some (.bool x)
  x1 : w.cell? ⟨w0.heap.size, 1, none⟩ = some u
  y0 : w.cell? ⟨w0.heap.size + 1, 0, none⟩ = some (.bool y)
  y1 : w.cell? ⟨w0.heap.size + 1, 1, none⟩ = some v
  th : w.there (w0.heap.size + 2) 0 2
theorem BX.new (w0 : World) (x y : Bool) (u v : Value) : BX w0 x y u v (((w0.alloc (.cells #[.bool x, u] 93)).alloc (.cells #[.bool y, v] 93)).alloc (.cells #[.bool false, .slice none 0 0] 93)) := by
  have h1 := (Below.refl w0.heap.size w0).alloc (Nat.le_refl _) (.cells #[.bool x, u] 93)
  have h2 := h1.alloc h1.size (.cells #[.bool y, v] 93)
  have h3 := h2.alloc h2.size (.cells #[.bool false, .slice none 0 0] 93)
  have r1 := rangeAt_new w0 [.bool x, u] 93
  have r2 := rangeAt_new (w0.alloc (.cells #[.bool x, u] 93)) [.bool y, v] 93
  have b2 := (Below.refl _ (w0.alloc (.cells #[.bool x, u] 93))).alloc (Nat.le_refl _) (.cells #[.bool y, v] 93)
  have b3 := (Below.refl _ ((w0.alloc (.cells #[.bool x, u] 93)).alloc (.cells #[.bool y, v] 93))).alloc (Nat.le_refl _) (.cells #[.bool false, .slice none 0 0] 93)
  have r1' := rangeAt_below (rangeAt_below r1 b2 (by simp)) b3 (by simp; omega)
  have r2' := rangeAt_below r2 b3 (by simp)
  have t := there_new ((w0.alloc (.cells #[.bool x, u] 93)).alloc (.cells #[.bool y, v] 93)) #[.bool false, .slice none 0 0] 93 2 (by simp)
  simp only [World.size_alloc] at r2' t
  exact ⟨h3, by simp, r1' 0 _ rfl, r1' 1 _ rfl, r2' 0 _ rfl, r2' 1 _ rfl, t⟩
theorem BX.call {w0 w w' : World} {x y : Bool} {u v : Value} (h : BX w0 x y u v w) (hb : Below w.heap.size w w') : BX w0 x y u v w' := by
  have hs := h.size
  have := hb.size
  have q0 : w0.heap.size < w.heap.size := by omega
  have q1 : w0.heap.size + 1 < w.heap.size := by omega
  exact ⟨below_then h.below hb, by omega, (hb.cell (p := ⟨_, 0, none⟩) q0).trans h.x0, (hb.cell (p := ⟨_, 1, none⟩) q0).trans h.x1, (hb.cell (p := ⟨_, 0, none⟩) q1).trans h.y0, (hb.cell (p := ⟨_, 1, none⟩) q1).trans h.y1, there_below h.th hb (by omega)⟩
theorem BX.drew {w0 w : World} {x y : Bool} {u v : Value} (h : BX w0 x y u v w) : BX w0 x y u v w.drew := ⟨h.below.drew, h.size, h.x0, h.x1, h.y0, h.y1, h.th⟩
theorem BX.drewN {w0 w : World} {x y : Bool} {u v : Value} (h : BX w0 x y u v w) (n : Nat) : BX w0 x y u v (w.drewN n) := ⟨drewN_below2 h.below n, h.size, h.x0, h.x1, h.y0, h.y1, h.th⟩
theorem BX.row {w0 w : World} {x y : Bool} {u v : Value} (h : BX w0 x y u v w) : BX w0 x y u v (w.alloc (.cells #[.bool x, u, .bool y, v] 93)) := h.call ((Below.refl _ w).alloc (Nat.le_refl _) _)
def cellOf (w : World) (p : Addr) : Value := (w.cell? p).getD undef
theorem cellOf_some {w : World} {p : Addr} (h : (w.cell? p).isSome = true) : w.cell? p = some (cellOf w p) := by
  obtain ⟨v, hv⟩ := Option.isSome_iff_exists.1 h
  rw [cellOf, hv]; rfl
theorem there_setCell {w : World} {b n : Nat} (h : w.there b 0 n) (q : Addr) (v : Value) : (w.setCell q v).there b 0 n := by
  intro j hj
  obtain ⟨h1, h2⟩ := h j hj
  obtain ⟨x, hx⟩ := Option.isSome_iff_exists.1 h1
  obtain ⟨x', hx'⟩ := Go.RowKit.cell?_setCell_some (p := q) (x := v) hx
  exact ⟨by rw [hx']; rfl, by rw [World.frozen?_setCell]; exact h2⟩
theorem BX.set {w0 w : World} {x y : Bool} {u v : Value} (h : BX w0 x y u v w) (o : Nat) (z : Value) : BX w0 x y u v (w.setCell ⟨w0.heap.size + 2, o, none⟩ z) := by
  refine ⟨h.below.setCell (by simp) _, by simpa using h.size, ?_, ?_, ?_, ?_, there_setCell h.th _ _⟩
  · exact (World.cell?_setCell_other _ _ _ _ (by simp)).trans h.x0
  · exact (World.cell?_setCell_other _ _ _ _ (by simp)).trans h.x1
  · exact (World.cell?_setCell_other _ _ _ _ (by simp)).trans h.y0
  · exact (World.cell?_setCell_other _ _ _ _ (by simp)).trans h.y1
abbrev BXS (w0 : World) (x y : Bool) (u v : Value) (w : World) : Prop :=
  w.cell? ⟨w0.heap.size, 0, none⟩ = some (.bool x) ∧ w.cell? ⟨w0.heap.size, 1, none⟩ = some u ∧ w.cell? ⟨w0.heap.size + 1, 0, none⟩ = some (.bool y) ∧ w.cell? ⟨w0.heap.size + 1, 1, none⟩ = some v ∧
    w.cell? ⟨w0.heap.size + 2, 0, none⟩ = some (cellOf w ⟨w0.heap.size + 2, 0, none⟩) ∧ w.cell? ⟨w0.heap.size + 2, 1, none⟩ = some (cellOf w ⟨w0.heap.size + 2, 1, none⟩) ∧ w.frozen? ⟨w0.heap.size + 2, 0, none⟩ = false ∧ w.frozen? ⟨w0.heap.size + 2, 1, none⟩ = false ∧ BX w0 x y u v w
theorem BX.s {w0 w : World} {x y : Bool} {u v : Value} (h : BX w0 x y u v w) : BXS w0 x y u v w :=
  ⟨h.x0, h.x1, h.y0, h.y1, cellOf_some (h.th 0 (by omega)).1, cellOf_some (h.th 1 (by omega)).1, (h.th 0 (by omega)).2, (h.th 1 (by omega)).2, h⟩
def NumPost (w : World) (z : Int) (e : Ending) (w' : World) : Prop := ∃ V, e = .returned (.tuple #[V, .int .i64 0]) ∧ Wide w.heap.size w' V z ∧ Below w.heap.size w w'
theorem sgn_mul (z1 z2 : Int) : sgn (!(decide (z1 < 0) == decide (z2 < 0))) (z1 * z2).natAbs = z1 * z2 := by
  rw [Int.natAbs_mul]
  by_cases h1 : z1 < 0 <;> by_cases h2 : z2 < 0
  · have e1 : z1 = -(z1.natAbs : Int) := by omega
    have e2 : z2 = -(z2.natAbs : Int) := by omega
    simp only [sgn, h1, h2, decide_true, beq_self_eq_true, Bool.not_true, if_false, Bool.false_eq_true, Int.natCast_mul]
    generalize z1.natAbs = p at *; generalize z2.natAbs = q at *; subst e1; subst e2
    rw [Int.neg_mul_neg]
  · have e1 : z1 = -(z1.natAbs : Int) := by omega
    have e2 : z2 = (z2.natAbs : Int) := by omega
    simp only [sgn, h1, h2, decide_true, decide_false, Int.natCast_mul]
    generalize z1.natAbs = p at *; generalize z2.natAbs = q at *; subst e1; subst e2
    rw [Int.neg_mul]; rfl
  · have e1 : z1 = (z1.natAbs : Int) := by omega
    have e2 : z2 = -(z2.natAbs : Int) := by omega
    simp only [sgn, h1, h2, decide_true, decide_false, Int.natCast_mul]
    generalize z1.natAbs = p at *; generalize z2.natAbs = q at *; subst e1; subst e2
    rw [Int.mul_neg]; rfl
  · have e1 : z1 = (z1.natAbs : Int) := by omega
    have e2 : z2 = (z2.natAbs : Int) := by omega
    simp only [sgn, h1, h2, decide_false, beq_self_eq_true, Bool.not_true, if_false, Bool.false_eq_true, Int.natCast_mul]
    generalize z1.natAbs = p at *; generalize z2.natAbs = q at *; subst e1; subst e2; rfl
end Wd
end Go.Proofs.YtjgcbeihgeaimaaGreatDoor
/-
  Plain law of sums, differences, shifts and quotients in limbs; no program in sight.
-/
namespace Go.Proofs.YtjgcbeihgeaimaaGreatDoor
namespace Wd

theorem take_set_eq (L : List Nat) (i v : Nat) : (L.set i v).take i = L.take i := by
  rw [List.take_set]; exact List.set_eq_of_length_le (by rw [List.length_take]; exact Nat.min_le_left _ _)
theorem val_take_set {L : List Nat} {i : Nat} (v : Nat) (h : i < L.length) : val ((L.set i v).take (i + 1)) = val (L.take i) + 4294967296 ^ i * v := by
  rw [val_take _ i (by simpa using h), take_set_eq]; simp
theorem val_drop {l : List Nat} {i : Nat} (h : i < l.length) : val (l.drop i) = l[i] + 4294967296 * val (l.drop (i + 1)) := by
  rw [List.drop_eq_getElem_cons h]; rfl
theorem drop_set_gt (L : List Nat) {i k : Nat} (v : Nat) (h : i < k) : (L.set i v).drop k = L.drop k := by
  apply List.ext_getElem
  · simp
  · intro j h1 h2
    simp only [List.getElem_drop]
    exact List.getElem_set_ne (by omega) _
theorem val_drop_set {L : List Nat} {i : Nat} (v : Nat) (h : i < L.length) : val ((L.set i v).drop i) = v + 4294967296 * val (L.drop (i + 1)) := by
  rw [val_drop (by simpa using h), drop_set_gt _ _ (by omega)]; simp
theorem split_pow (P t : Nat) : P * (t % 4294967296) + t / 4294967296 * (P * 4294967296) = P * t := by
  rw [Nat.mul_left_comm, ← Nat.mul_add, Nat.mul_comm (t / 4294967296), Nat.add_comm, Nat.div_add_mod]
/-- A limb, or 0 behind the last one. -/
def at0 (b : List Nat) (i : Nat) : Nat := if h : i < b.length then b[i] else 0
theorem at0_in {b : List Nat} {i : Nat} (h : i < b.length) : at0 b i = b[i] := dif_pos h
theorem at0_out {b : List Nat} {i : Nat} (h : ¬ i < b.length) : at0 b i = 0 := dif_neg h
theorem at0_lt {b : List Nat} (hb : Lb b) (i : Nat) : at0 b i < 4294967296 := by
  by_cases h : i < b.length
  · rw [at0_in h]; exact lb_get hb h
  · rw [at0_out h]; omega
theorem val_take0 (b : List Nat) (i : Nat) : val (b.take (i + 1)) = val (b.take i) + 4294967296 ^ i * at0 b i := by
  by_cases h : i < b.length
  · rw [at0_in h]; exact val_take b i h
  · rw [at0_out h, List.take_of_length_le (by omega), List.take_of_length_le (by omega)]; simp
/-- plus. -/
structure PIn (a b L : List Nat) (i c : Nat) : Prop where
  len : L.length = a.length + 1
  lb : Lb L
  c1 : c ≤ 1
  v : val (L.take i) + c * 4294967296 ^ i = val (a.take i) + val (b.take i)
theorem lb_zeros (n : Nat) : Lb (List.replicate n 0) := fun x hx => by have := List.eq_of_mem_replicate hx; omega
theorem PIn.zero (a b : List Nat) : PIn a b (List.replicate (a.length + 1) 0) 0 0 := ⟨by simp, lb_zeros _, by omega, by simp [val]⟩
theorem PIn.step {a b L : List Nat} {i c : Nat} (h : PIn a b L i c) (hi : i < a.length) (ha : Lb a) (hb : Lb b) :
    PIn a b (L.set i ((a[i] + at0 b i + c) % 4294967296)) (i + 1) ((a[i] + at0 b i + c) / 4294967296) := by
  have hl := h.len
  have hx := lb_get ha hi
  have hy := at0_lt hb i
  have hc := h.c1
  refine ⟨by simpa using hl, lb_set h.lb _ _ (Nat.mod_lt _ (by decide)), by omega, ?_⟩
  have hv := h.v
  rw [val_take_set _ (by omega), val_take a i hi, val_take0, Nat.pow_succ]
  generalize a[i] = x at *
  generalize at0 b i = y at *
  have e := split_pow (4294967296 ^ i) (x + y + c)
  have e2 : 4294967296 ^ i * (x + y + c) = 4294967296 ^ i * x + 4294967296 ^ i * y + c * 4294967296 ^ i := by rw [Nat.mul_add, Nat.mul_add, Nat.mul_comm _ c]
  omega
theorem PIn.fin {a b L : List Nat} {c : Nat} (h : PIn a b L a.length c) (hb : b.length ≤ a.length) : val (L.set a.length c) = val a + val b ∧ Lb (L.set a.length c) := by
  have hv := h.v
  have hl := h.len
  have e := val_take_set (L := L) (i := a.length) c (by omega)
  rw [List.take_of_length_le (by simp; omega)] at e
  rw [List.take_of_length_le (Nat.le_refl _), List.take_of_length_le hb] at hv
  exact ⟨by rw [e, ← hv, Nat.mul_comm c], lb_set h.lb _ _ (by have := h.c1; omega)⟩
theorem sub_digit {x y c : Nat} (hx : x < 4294967296) (hy : y < 4294967296) (hc : c ≤ 1) : (x + 4294967296 - y - c) % 4294967296 + y + c = x + 4294967296 * (if x < y + c then 1 else 0) := by
  split <;> omega
theorem sub_pow (P : Nat) {x y c : Nat} (hx : x < 4294967296) (hy : y < 4294967296) (hc : c ≤ 1) :
    P * ((x + 4294967296 - y - c) % 4294967296) + P * y + c * P = P * x + (if x < y + c then 1 else 0) * (P * 4294967296) := by
  have := congrArg (P * ·) (sub_digit hx hy hc)
  simp only [Nat.mul_add] at this
  rw [Nat.mul_comm c P, this, ← Nat.mul_assoc, Nat.mul_comm (if x < y + c then 1 else 0)]
theorem br_le (x y c : Nat) : (if x < y + c then 1 else 0 : Nat) ≤ 1 := by split <;> omega
/-- minus. -/
structure MIn (a b L : List Nat) (i c : Nat) : Prop where
  len : L.length = a.length
  lb : Lb L
  c1 : c ≤ 1
  v : val (L.take i) + val (b.take i) = val (a.take i) + c * 4294967296 ^ i
theorem MIn.zero (a b : List Nat) : MIn a b (List.replicate a.length 0) 0 0 := ⟨by simp, lb_zeros _, by omega, by simp [val]⟩
theorem MIn.step {a b L : List Nat} {i c : Nat} (h : MIn a b L i c) (hi : i < a.length) (ha : Lb a) (hb : Lb b) :
    MIn a b (L.set i ((a[i] + 4294967296 - at0 b i - c) % 4294967296)) (i + 1) (if a[i] < at0 b i + c then 1 else 0) := by
  have hl := h.len
  have hx := lb_get ha hi
  have hy := at0_lt hb i
  have hc := h.c1
  refine ⟨by simpa using hl, lb_set h.lb _ _ (Nat.mod_lt _ (by decide)), br_le _ _ _, ?_⟩
  have hv := h.v
  rw [val_take_set _ (by omega), val_take a i hi, val_take0, Nat.pow_succ]
  have e := sub_pow (4294967296 ^ i) hx hy hc
  generalize (if a[i] < at0 b i + c then 1 else 0 : Nat) = g at *
  generalize a[i] = x at *
  generalize at0 b i = y at *
  omega
theorem MIn.fin {a b L : List Nat} {c : Nat} (h : MIn a b L a.length c) (hb : b.length ≤ a.length) (hle : val b ≤ val a) : val L = val a - val b := by
  have hv := h.v
  have hl := h.len
  have hlt := val_lt L h.lb
  rw [List.take_of_length_le (by omega), List.take_of_length_le (Nat.le_refl _), List.take_of_length_le hb] at hv
  rw [hl] at hlt
  have hc := h.c1
  rcases Nat.eq_zero_or_pos c with rfl | h0
  · omega
  · obtain rfl : c = 1 := by omega
    omega
/-- A multiple of limbs that is taken away. -/
structure SIn (u0 v : List Nat) (q : Nat) (u : List Nat) (i c br : Nat) : Prop where
  len : u.length = u0.length
  lb : Lb u
  c1 : c < 4294967296
  b1 : br ≤ 1
  v : val (u.take i) + q * val (v.take i) = val (u0.take i) + (br + c) * 4294967296 ^ i
  d : u.drop i = u0.drop i
theorem SIn.zero {u0 : List Nat} (v : List Nat) (q : Nat) (h : Lb u0) : SIn u0 v q u0 0 0 0 := ⟨rfl, h, by omega, by omega, by simp [val], rfl⟩
theorem drop_get {u u0 : List Nat} {i : Nat} (h : u.drop i = u0.drop i) (hi : i < u.length) (h0 : i < u0.length) : u[i] = u0[i] := by
  rw [List.drop_eq_getElem_cons hi, List.drop_eq_getElem_cons h0] at h
  exact (List.cons.inj h).1
theorem q_bd {q x c : Nat} (hq : q < 4294967296) (hx : x < 4294967296) (hc : c < 4294967296) : c + q * x < 4294967296 * 4294967296 ∧ (c + q * x) / 4294967296 < 4294967296 := by
  have : q * x ≤ 4294967295 * 4294967295 := Nat.mul_le_mul (by omega) (by omega)
  constructor <;> omega
theorem SIn.step {u0 v u : List Nat} {q i c br : Nat} (h : SIn u0 v q u i c br) (hi : i < v.length) (hu : i < u.length) (hv : Lb v) (hq : q < 4294967296) :
    SIn u0 v q (u.set i ((u[i] + 4294967296 - (c + q * v[i]) % 4294967296 - br) % 4294967296)) (i + 1) ((c + q * v[i]) / 4294967296) (if u[i] < (c + q * v[i]) % 4294967296 + br then 1 else 0) := by
  have hl := h.len
  have hw := lb_get h.lb hu
  have hx := lb_get hv hi
  have hb := q_bd hq hx h.c1
  have e0 := drop_get h.d hu (by omega)
  refine ⟨by simpa using hl, lb_set h.lb _ _ (Nat.mod_lt _ (by decide)), hb.2, br_le _ _ _, ?_, ?_⟩
  · have hvv := h.v
    have e1 := sub_pow (4294967296 ^ i) hw (Nat.mod_lt (c + q * v[i]) (by decide)) h.b1
    have e2 := split_pow (4294967296 ^ i) (c + q * v[i])
    rw [val_take_set _ hu, val_take v i hi, val_take u0 i (by omega), ← e0, Nat.pow_succ]
    generalize (if u[i] < (c + q * v[i]) % 4294967296 + br then 1 else 0 : Nat) = g at *
    generalize u[i] = w at *
    generalize v[i] = x at *
    have e3 : 4294967296 ^ i * (c + q * x) = c * 4294967296 ^ i + q * (4294967296 ^ i * x) := by rw [Nat.mul_add, Nat.mul_comm _ c, Nat.mul_left_comm]
    generalize (c + q * x) % 4294967296 = m at *
    generalize (c + q * x) / 4294967296 = d at *
    rw [e3] at e2
    rw [Nat.mul_add q, Nat.add_mul g]
    rw [Nat.add_mul] at hvv
    omega
  · have e := congrArg (List.drop 1) h.d
    rw [List.drop_drop, List.drop_drop] at e
    rw [drop_set_gt _ _ (by omega)]
    exact e
theorem SIn.last {u0 v u : List Nat} {q c br : Nat} (h : SIn u0 v q u v.length c br) (hu : v.length + 1 = u.length) :
    Lb (u.set v.length ((u[v.length] + 4294967296 - c - br) % 4294967296)) ∧
    val (u.set v.length ((u[v.length] + 4294967296 - c - br) % 4294967296)) + q * val v = val u0 + (if u[v.length] < c + br then 1 else 0) * 4294967296 ^ (v.length + 1) := by
  have hl := h.len
  have hw := lb_get h.lb (show v.length < u.length by omega)
  have e0 := drop_get h.d (show v.length < u.length by omega) (by omega)
  refine ⟨lb_set h.lb _ _ (Nat.mod_lt _ (by decide)), ?_⟩
  have hvv := h.v
  rw [List.take_of_length_le (Nat.le_refl _)] at hvv
  have e1 := sub_pow (4294967296 ^ v.length) hw h.c1 h.b1
  have e := val_take_set (L := u) (i := v.length) ((u[v.length] + 4294967296 - c - br) % 4294967296) (by omega)
  rw [List.take_of_length_le (by simp; omega)] at e
  have e4 := val_take u0 v.length (by omega)
  rw [List.take_of_length_le (by omega), ← e0] at e4
  rw [e, e4, Nat.pow_succ]
  generalize (if u[v.length] < c + br then 1 else 0 : Nat) = g at *
  rw [Nat.add_mul, Nat.mul_comm c] at hvv
  omega
theorem SIn.done {u0 v u' : List Nat} {q g : Nat} (hl : u'.length = u0.length) (hu : v.length + 1 = u0.length) (hb : Lb u') (h0 : Lb u0) (hg : g ≤ 1) (h : val u' + q * val v = val u0 + g * 4294967296 ^ (v.length + 1)) :
    (g = 0 ↔ q * val v ≤ val u0) ∧ (g = 0 → val u' + q * val v = val u0) := by
  have h1 := val_lt u' hb
  have h2 := val_lt u0 h0
  rw [hl, ← hu] at h1
  rw [← hu] at h2
  rcases Nat.eq_zero_or_pos g with rfl | hp
  · constructor
    · exact ⟨fun _ => by omega, fun _ => rfl⟩
    · intro _; omega
  · obtain rfl : g = 1 := by omega
    refine ⟨⟨fun e => by omega, fun e => by omega⟩, fun e => by omega⟩
/-- A quotient by one limb, from the top. -/
structure DIn (l L : List Nat) (d i r : Nat) : Prop where
  len : L.length = l.length
  lb : Lb L
  r1 : r < d
  v : val (L.drop i) * d + r = val (l.drop i)
theorem DIn.zero (l : List Nat) {d : Nat} (h : 0 < d) : DIn l (List.replicate l.length 0) d l.length 0 := ⟨by simp, lb_zeros _, h, by rw [List.drop_of_length_le (by simp), List.drop_of_length_le (Nat.le_refl _)]; simp [val]⟩
theorem quo_lt {r x d : Nat} (hr : r < d) (hx : x < 4294967296) : (r * 4294967296 + x) / d < 4294967296 := by
  rw [Nat.div_lt_iff_lt_mul (by omega), Nat.mul_comm]
  have : (r + 1) * 4294967296 ≤ d * 4294967296 := Nat.mul_le_mul_right _ hr
  omega
theorem DIn.step {l L : List Nat} {d i r : Nat} (h : DIn l L d (i + 1) r) (hi : i < l.length) (hl : Lb l) : DIn l (L.set i ((r * 4294967296 + l[i]) / d)) d i ((r * 4294967296 + l[i]) % d) := by
  have hlen := h.len
  have hr := h.r1
  have hx := lb_get hl hi
  refine ⟨by simpa using hlen, lb_set h.lb _ _ (quo_lt hr hx), Nat.mod_lt _ (by omega), ?_⟩
  have hv := h.v
  rw [val_drop_set _ (by omega), val_drop hi]
  generalize l[i] = x at *
  have e := Nat.div_add_mod (r * 4294967296 + x) d
  rw [← hv, Nat.add_mul, Nat.mul_assoc]
  rw [Nat.mul_comm d] at e
  omega
theorem DIn.fin {l L : List Nat} {d r : Nat} (h : DIn l L d 0 r) : val L = val l / d ∧ r = val l % d := by
  have hv := h.v
  have hr := h.r1
  rw [List.drop_zero, List.drop_zero] at hv
  rw [← hv]
  constructor
  · rw [Nat.mul_comm, Nat.mul_add_div (by omega), Nat.div_eq_of_lt hr]; rfl
  · rw [Nat.mul_comm, Nat.mul_add_mod, Nat.mod_eq_of_lt hr]
/-- left. -/
structure FIn (l L : List Nat) (s i c : Nat) : Prop where
  len : L.length = i
  lb : Lb L
  c1 : c < 2 ^ s
  v : val L + c * 4294967296 ^ i = val (l.take i) * 2 ^ s
theorem FIn.zero (l : List Nat) (s : Nat) : FIn l [] s 0 0 := ⟨rfl, fun x hx => by simp at hx, Nat.two_pow_pos s, by simp [val]⟩
theorem val_snoc (L : List Nat) (x : Nat) : val (L ++ [x]) = val L + 4294967296 ^ L.length * x := by rw [val_append]; simp [val]
theorem lb_snoc {L : List Nat} (h : Lb L) {x : Nat} (hx : x < 4294967296) : Lb (L ++ [x]) := fun y hy => by
  rcases List.mem_append.1 hy with g | g
  · exact h y g
  · rw [List.mem_singleton.1 g]; exact hx
theorem FIn.step {l L : List Nat} {s i c : Nat} (h : FIn l L s i c) (hi : i < l.length) (hl : Lb l) : FIn l (L ++ [(c + l[i] * 2 ^ s) % 4294967296]) s (i + 1) ((c + l[i] * 2 ^ s) / 4294967296) := by
  have hlen := h.len
  subst hlen
  have hx := lb_get hl hi
  have hc := h.c1
  have hv := h.v
  refine ⟨by simp, lb_snoc h.lb (Nat.mod_lt _ (by decide)), ?_, ?_⟩
  · rw [Nat.div_lt_iff_lt_mul (by decide)]
    have : l[L.length] * 2 ^ s ≤ 4294967295 * 2 ^ s := Nat.mul_le_mul_right _ (by omega)
    omega
  · rw [val_snoc, val_take l L.length hi, Nat.pow_succ]
    generalize l[L.length] = x at *
    have e := split_pow (4294967296 ^ L.length) (c + x * 2 ^ s)
    have e2 : 4294967296 ^ L.length * (c + x * 2 ^ s) = c * 4294967296 ^ L.length + 4294967296 ^ L.length * x * 2 ^ s := by rw [Nat.mul_add, Nat.mul_comm _ c, Nat.mul_assoc]
    rw [Nat.add_mul]
    omega
theorem FIn.fin {l L : List Nat} {s c : Nat} (h : FIn l L s l.length c) (hs : s ≤ 32) : val (L ++ [c]) = val l * 2 ^ s ∧ Lb (L ++ [c]) ∧ (L ++ [c]).length = l.length + 1 := by
  have hv := h.v
  have hp : (2 : Nat) ^ s ≤ 2 ^ 32 := Nat.pow_le_pow_right (by decide) hs
  have hc := h.c1
  rw [List.take_of_length_le (Nat.le_refl _)] at hv
  refine ⟨by rw [val_snoc, h.len, ← hv, Nat.mul_comm c], lb_snoc h.lb (by have : (2:Nat) ^ 32 = 4294967296 := rfl; omega), by simp [h.len]⟩
/-- What stands below and above. -/
theorem val_split (l : List Nat) (i : Nat) : val l = val (l.take i) + 4294967296 ^ (l.take i).length * val (l.drop i) := by
  have := val_append (l.take i) (l.drop i)
  rwa [List.take_append_drop] at this
theorem val_split' {l : List Nat} {i : Nat} (h : i ≤ l.length) : val l = val (l.take i) + 4294967296 ^ i * val (l.drop i) := by
  have := val_split l i
  rwa [List.length_take, Nat.min_eq_left h] at this
theorem lb_take {l : List Nat} (h : Lb l) (i : Nat) : Lb (l.take i) := fun x hx => h x (List.mem_of_mem_take hx)
theorem lb_drop {l : List Nat} (h : Lb l) (i : Nat) : Lb (l.drop i) := fun x hx => h x (List.mem_of_mem_drop hx)
theorem val_take_lt {l : List Nat} (h : Lb l) {i : Nat} (hi : i ≤ l.length) : val (l.take i) < 4294967296 ^ i := by
  have := val_lt _ (lb_take h i)
  rwa [List.length_take, Nat.min_eq_left hi] at this
theorem val_take_mod {l : List Nat} (h : Lb l) {i : Nat} (hi : i ≤ l.length) : val (l.take i) = val l % 4294967296 ^ i := by
  rw [val_split' hi, Nat.add_mul_mod_self_left, Nat.mod_eq_of_lt (val_take_lt h hi)]
theorem val_drop_div {l : List Nat} (h : Lb l) {i : Nat} (hi : i ≤ l.length) : val (l.drop i) = val l / 4294967296 ^ i := by
  have hp : 0 < 4294967296 ^ i := Nat.pow_pos (by decide)
  conv => rhs; rw [val_split' hi]
  rw [Nat.add_mul_div_left _ _ hp, Nat.div_eq_of_lt (val_take_lt h hi), Nat.zero_add]
theorem lt_of_top {a b : List Nat} (ha : Lb a) (hlen : a.length = b.length) {i : Nat} (hi : i < a.length) (hd : a.drop (i + 1) = b.drop (i + 1)) (h : a[i] < b[i]) : val a < val b := by
  have e1 := val_split' (l := a) (i := i) (by omega)
  have e2 := val_split' (l := b) (i := i) (by omega)
  have e3 := val_drop hi
  have e4 := val_drop (l := b) (i := i) (by omega)
  rw [hd] at e3
  have e5 := val_take_lt ha (show i ≤ a.length by omega)
  have e6 : 4294967296 ^ i * (val (a.drop i) + 1) ≤ 4294967296 ^ i * val (b.drop i) := Nat.mul_le_mul_left _ (by omega)
  rw [Nat.mul_add, Nat.mul_one] at e6
  omega
theorem canon_lt_of_len {A B : Nat} (h : (canon A).length < (canon B).length) : A < B := by
  rcases Nat.lt_or_ge A B with g | g
  · exact g
  · have h1 := val_lt _ (lb_canon A)
    rw [val_canon] at h1
    have := canon_len (canon A).length B (by omega)
    omega
end Wd
end Go.Proofs.YtjgcbeihgeaimaaGreatDoor
/-
  Plain law of the long division in limbs; no program in sight.
-/
namespace Go.Proofs.YtjgcbeihgeaimaaGreatDoor
namespace Wd

/-- One limb of the quotient: a guess out of the highest limbs is not too small. -/
theorem guess_ge {u v : List Nat} {n : Nat} (hn : 0 < n) (hu : u.length = n + 1) (hv : v.length = n) (lu : Lb u) (lv : Lb v) (hy : 0 < v[n - 1]) : val u / val v ≤ (u[n] * 4294967296 + u[n - 1]) / v[n - 1] := by
  have e1 := val_drop_div lu (i := n - 1) (by omega)
  have e2 := val_drop (l := u) (i := n - 1) (by omega)
  have e3 := val_drop (l := u) (i := n - 1 + 1) (by omega)
  rw [List.drop_of_length_le (show u.length ≤ n - 1 + 1 + 1 by omega)] at e3
  have e4 := val_split' (l := v) (i := n - 1) (by omega)
  have e5 := val_drop (l := v) (i := n - 1) (by omega)
  rw [List.drop_of_length_le (show v.length ≤ n - 1 + 1 by omega)] at e5
  have en : u[n - 1 + 1]'(by omega) = u[n] := by congr 1; omega
  rw [en] at e3
  simp only [val] at e3 e5
  generalize u[n] = un at *
  generalize u[n - 1] = um at *
  generalize v[n - 1] = vm at *
  have hP : 0 < 4294967296 ^ (n - 1) := Nat.pow_pos (by decide)
  have h1 : 4294967296 ^ (n - 1) * vm ≤ val v := by rw [e4, e5]; simp only [Nat.mul_zero, Nat.add_zero]; omega
  have h2 : un * 4294967296 + um = val u / 4294967296 ^ (n - 1) := by rw [← e1, e2, e3]; omega
  rw [h2, Nat.div_div_eq_div_mul]
  exact Nat.div_le_div_left h1 (Nat.mul_pos hP hy)
theorem digit_lt {U V : Nat} (h : U < V * 4294967296) : U / V < 4294967296 := by
  rcases Nat.eq_zero_or_pos V with rfl | hp
  · simp
  · rw [Nat.div_lt_iff_lt_mul hp, Nat.mul_comm]; exact h
theorem le_quo {q U V : Nat} (hV : 0 < V) : q * V ≤ U ↔ q ≤ U / V := (Nat.le_div_iff_mul_le hV).symm
theorem quo_fin {q U V R : Nat} (hV : 0 < V) (hq : U / V ≤ q) (h : R + q * V = U) : q = U / V ∧ R = U % V := by
  have h1 : q ≤ U / V := (le_quo hV).1 (by omega)
  have h2 : q = U / V := by omega
  refine ⟨h2, ?_⟩
  have := Nat.div_add_mod U V
  rw [← h2, Nat.mul_comm] at this
  omega
/-- The window of limbs that is divided. -/
def win (u : List Nat) (j n : Nat) : List Nat := (u.drop j).take (n + 1)
def put (u : List Nat) (j n : Nat) (r : List Nat) : List Nat := u.take j ++ (r ++ u.drop (j + n + 1))
theorem win_len {u : List Nat} {j n : Nat} (h : j + n + 1 ≤ u.length) : (win u j n).length = n + 1 := by simp [win]; omega
theorem put_len {u r : List Nat} {j n : Nat} (h : j + n + 1 ≤ u.length) (hr : r.length = n + 1) : (put u j n r).length = u.length := by simp [put]; omega
theorem lb_win {u : List Nat} (h : Lb u) (j n : Nat) : Lb (win u j n) := lb_take (lb_drop h _) _
theorem lb_app {a b : List Nat} (ha : Lb a) (hb : Lb b) : Lb (a ++ b) := fun x hx => (List.mem_append.1 hx).elim (ha x) (hb x)
theorem lb_put {u r : List Nat} (h : Lb u) (hr : Lb r) (j n : Nat) : Lb (put u j n r) := lb_app (lb_take h _) (lb_app hr (lb_drop h _))
/-- The quotient from limb j on, and what is left. -/
structure QIn (U V : Nat) (u q : List Nat) (n m j : Nat) : Prop where
  lu : u.length = n + m
  lq : q.length = m
  bu : Lb u
  bq : Lb q
  v : val (q.drop j) * 4294967296 ^ j * V + val u = U
  t : val (u.drop j) < V
theorem QIn.zero {u : List Nat} {V n m : Nat} (lu : u.length = n + m) (bu : Lb u) (ht : val u < V * 4294967296 ^ m) : QIn (val u) V u (List.replicate m 0) n m m :=
  ⟨lu, by simp, bu, lb_zeros _, by rw [List.drop_of_length_le (by simp)]; simp [val], by rw [val_drop_div bu (by omega), Nat.div_lt_iff_lt_mul (Nat.pow_pos (by decide))]; exact ht⟩
theorem QIn.high {U V : Nat} {u q : List Nat} {n m j : Nat} (h : QIn U V u q n m (j + 1)) (hj : j < m) (hV : V < 4294967296 ^ n) :
    j + n + 1 ≤ u.length ∧ val (win u j n) = val (u.drop j) ∧ val (u.drop (j + n + 1)) = 0 ∧ val (win u j n) < V * 4294967296 := by
  have hl := h.lu
  have ht := h.t
  have e1 := val_drop (l := u) (i := j) (by omega)
  have hx := lb_get h.bu (show j < u.length by omega)
  have hlt : val (u.drop j) < V * 4294967296 := by
    have : (val (u.drop (j + 1)) + 1) * 4294967296 ≤ V * 4294967296 := Nat.mul_le_mul_right _ ht
    omega
  have hpow : V * 4294967296 ≤ 4294967296 ^ (n + 1) := by rw [Nat.pow_succ]; exact Nat.mul_le_mul_right _ (by omega)
  have e2 : val (win u j n) = val (u.drop j) := by
    rw [win, val_take_mod (lb_drop h.bu _) (by simp; omega), Nat.mod_eq_of_lt (by omega)]
  have e3 : val (u.drop (j + n + 1)) = 0 := by
    have : u.drop (j + n + 1) = (u.drop j).drop (n + 1) := by rw [List.drop_drop]; rfl
    rw [this, val_drop_div (lb_drop h.bu _) (by simp; omega), Nat.div_eq_of_lt (by omega)]
  exact ⟨by omega, e2, e3, by rw [e2]; exact hlt⟩
theorem QIn.step {U V : Nat} {u q r : List Nat} {n m j : Nat} (h : QIn U V u q n m (j + 1)) (hj : j < m) (hV : V < 4294967296 ^ n) (hV0 : 0 < V) (hr : r.length = n + 1) (br : Lb r) (er : val r = val (win u j n) % V) :
    QIn U V (put u j n r) (q.set j (val (win u j n) / V)) n m j := by
  obtain ⟨h1, h2, h3, h4⟩ := h.high hj hV
  have hl := h.lu
  have hq := h.lq
  have hv := h.v
  have e1 : (put u j n r).drop j = r ++ u.drop (j + n + 1) := by rw [put, List.drop_left' (by simp; omega)]
  have e2 : val ((put u j n r).drop j) = val r := by rw [e1, val_append, h3]; simp
  refine ⟨by rw [put_len h1 hr, hl], by simpa using hq, lb_put h.bu br _ _, lb_set h.bq _ _ (digit_lt h4), ?_, by rw [e2, er]; exact Nat.mod_lt _ hV0⟩
  rw [val_drop_set _ (by omega)]
  have e3 : val (put u j n r) = val (u.take j) + 4294967296 ^ j * val r := by
    have := val_split' (l := put u j n r) (i := j) (by rw [put_len h1 hr]; omega)
    rw [e2] at this
    rw [this]
    congr 2
    rw [put, List.take_left' (by simp; omega)]
  have e4 := val_split' (l := u) (i := j) (by omega)
  rw [e3, er, h2]
  have e5 := Nat.div_add_mod (val (u.drop j)) V
  rw [← hv, e4, Nat.pow_succ]
  generalize val (u.drop j) = X at *
  generalize val (q.drop (j + 1)) = Q at *
  generalize 4294967296 ^ j = P at *
  have e6 := congrArg (P * ·) e5
  simp only [Nat.mul_add] at e6
  rw [← e6, Nat.add_mul, Nat.add_mul]
  have e7 : X / V * P * V = P * (V * (X / V)) := by rw [Nat.mul_assoc, Nat.mul_left_comm, Nat.mul_comm V]
  have e8 : 4294967296 * Q * P * V = Q * (P * 4294967296) * V := by rw [Nat.mul_comm 4294967296 Q, Nat.mul_assoc Q, Nat.mul_comm 4294967296 P]
  rw [e7, e8]
  omega
theorem QIn.fin {U V : Nat} {u q : List Nat} {n m : Nat} (h : QIn U V u q n m 0) : val q = U / V ∧ val u = U % V := by
  have hv := h.v
  have ht := h.t
  simp only [List.drop_zero, Nat.pow_zero, Nat.mul_one] at hv ht
  rw [← hv]
  constructor
  · rw [Nat.mul_comm, Nat.mul_add_div (by omega), Nat.div_eq_of_lt ht]; rfl
  · rw [Nat.mul_comm, Nat.mul_add_mod, Nat.mod_eq_of_lt ht]
/-- The divisor, shifted so that its highest bit is set. -/
structure Norm (b v : List Nat) (s n : Nat) : Prop where
  len : v.length = n
  lb : Lb v
  e : val v = val b * 2 ^ s
  s1 : s ≤ 31
  n1 : 0 < n
  top : ∀ h : n - 1 < v.length, 2147483648 ≤ v[n - 1]
theorem Norm.of {b L : List Nat} {s n : Nat} (hb : Lb b) (hlen : b.length = n) (hn : 0 < n) (hs : s ≤ 31) (hL : L.length = n + 1) (bL : Lb L) (hv : val L = val b * 2 ^ s) (h1 : ∀ h : n - 1 < b.length, 2147483648 ≤ b[n - 1] * 2 ^ s ∧ b[n - 1] * 2 ^ s < 4294967296) : Norm b (L.take n) s n := by
  have h1 := h1 (by omega)
  have hP : 0 < 4294967296 ^ (n - 1) := Nat.pow_pos (by decide)
  have e1 := val_split' (l := b) (i := n - 1) (by omega)
  have e2 := val_drop (l := b) (i := n - 1) (by omega)
  rw [List.drop_of_length_le (show b.length ≤ n - 1 + 1 by omega)] at e2
  simp only [val, Nat.mul_zero, Nat.add_zero] at e2
  have e3 := val_take_lt hb (show n - 1 ≤ b.length by omega)
  rw [e2] at e1
  generalize b[n - 1] = y at *
  have hpn : 4294967296 ^ n = 4294967296 ^ (n - 1) * 4294967296 := by rw [← Nat.pow_succ]; congr 1; omega
  have hlo : 4294967296 ^ (n - 1) * (y * 2 ^ s) ≤ val L := by
    rw [hv, e1, Nat.add_mul, Nat.mul_assoc]; omega
  have hhi : val L < 4294967296 ^ (n - 1) * (y * 2 ^ s + 2 ^ s) := by
    rw [hv, e1, Nat.add_mul, Nat.mul_add, Nat.mul_assoc]
    have : val (b.take (n - 1)) * 2 ^ s < 4294967296 ^ (n - 1) * 2 ^ s := Nat.mul_lt_mul_of_pos_right e3 (Nat.two_pow_pos s)
    omega
  have hdiv : y * 2 ^ s + 2 ^ s ≤ 4294967296 := by
    have : (2 : Nat) ^ 32 = 2 ^ s * 2 ^ (32 - s) := by rw [← Nat.pow_add]; congr 1; omega
    have h32 : (2 : Nat) ^ 32 = 4294967296 := rfl
    have h2 : y + 1 ≤ 2 ^ (32 - s) := by
      have : y * 2 ^ s < 2 ^ (32 - s) * 2 ^ s := by rw [Nat.mul_comm (2 ^ (32 - s))]; omega
      exact Nat.lt_of_mul_lt_mul_right this
    have h3 : (y + 1) * 2 ^ s ≤ 2 ^ (32 - s) * 2 ^ s := Nat.mul_le_mul_right _ h2
    rw [Nat.add_mul, Nat.one_mul, Nat.mul_comm (2 ^ (32 - s))] at h3
    omega
  have hlt : val L < 4294967296 ^ n := by
    rw [hpn]
    exact Nat.lt_of_lt_of_le hhi (Nat.mul_le_mul_left _ hdiv)
  have ht : val (L.take n) = val L := by rw [val_take_mod bL (by omega), Nat.mod_eq_of_lt hlt]
  refine ⟨by simp; omega, lb_take bL _, by rw [ht, hv], hs, hn, fun h => ?_⟩
  have e4 := val_drop_div (lb_take bL n) (i := n - 1) (by omega)
  have e5 := val_drop (l := L.take n) (i := n - 1) h
  rw [List.drop_of_length_le (show (L.take n).length ≤ n - 1 + 1 by simp; omega)] at e5
  simp only [val, Nat.mul_zero, Nat.add_zero] at e5
  rw [← e5, e4, ht, Nat.le_div_iff_mul_le hP, Nat.mul_comm]
  exact Nat.le_trans (Nat.mul_le_mul_left _ h1.1) hlo
theorem Norm.lt {b v : List Nat} {s n : Nat} (h : Norm b v s n) : val v < 4294967296 ^ n := by have := val_lt v h.lb; rwa [h.len] at this
theorem Norm.ge {b v : List Nat} {s n : Nat} (h : Norm b v s n) : 4294967296 ^ (n - 1) * 2147483648 ≤ val v := by
  have hl := h.len
  have hn := h.n1
  have ht := h.top (by omega)
  have e1 := val_split' (l := v) (i := n - 1) (by omega)
  have e2 := val_drop (l := v) (i := n - 1) (by omega)
  rw [List.drop_of_length_le (show v.length ≤ n - 1 + 1 by omega)] at e2
  simp only [val, Nat.mul_zero, Nat.add_zero] at e2
  rw [e2] at e1
  have : 4294967296 ^ (n - 1) * 2147483648 ≤ 4294967296 ^ (n - 1) * v[n - 1] := Nat.mul_le_mul_left _ ht
  omega
theorem Norm.pos {b v : List Nat} {s n : Nat} (h : Norm b v s n) : 0 < val v := Nat.lt_of_lt_of_le (Nat.mul_pos (Nat.pow_pos (by decide)) (by decide)) h.ge
/-- The dividend, shifted alike, starts below the divisor. -/
theorem Norm.start {b v : List Nat} {s n : Nat} (h : Norm b v s n) {a : List Nat} {A : Nat} (ha : Lb a) (hA : A = val a * 2 ^ s) {m : Nat} (hm : a.length + 1 = n + m) : A < val v * 4294967296 ^ m := by
  have h1 := val_lt a ha
  have hn := h.n1
  have h2 : (2 : Nat) ^ s ≤ 2147483648 := Nat.pow_le_pow_right (by decide) h.s1
  have hs0 : 0 < (2 : Nat) ^ s := Nat.two_pow_pos s
  have h3 : A < 4294967296 ^ a.length * 2 ^ s := by rw [hA]; exact Nat.mul_lt_mul_of_pos_right h1 hs0
  have h4 : 4294967296 ^ a.length * 2 ^ s ≤ 4294967296 ^ a.length * 2147483648 := Nat.mul_le_mul_left _ h2
  have h5 : 4294967296 ^ (n - 1) * 2147483648 * 4294967296 ^ m ≤ val v * 4294967296 ^ m := Nat.mul_le_mul_right _ h.ge
  have h6 : 4294967296 ^ (n - 1) * 2147483648 * 4294967296 ^ m = 4294967296 ^ a.length * 2147483648 := by
    rw [Nat.mul_assoc, Nat.mul_comm 2147483648, ← Nat.mul_assoc, ← Nat.pow_add]; congr 2; omega
  omega
theorem shift_quo (A b s : Nat) : A * 2 ^ s / (b * 2 ^ s) = A / b ∧ A * 2 ^ s % (b * 2 ^ s) = A % b * 2 ^ s :=
  ⟨Nat.mul_div_mul_right _ _ (Nat.two_pow_pos s), Nat.mul_mod_mul_right _ _ _⟩
end Wd
end Go.Proofs.YtjgcbeihgeaimaaGreatDoor
/-
  The walk of down of package wide: limbs from the highest one to the lowest one.
-/
namespace Go.Proofs.YtjgcbeihgeaimaaGreatDoor
namespace Wd
open Go.RowKit Lw Go.Shelf
attribute [local go_sem] Oper.semAt_some

/-- The first k indices from the top. -/
def dn (n : Nat) : Nat → List (Fin n)
  | 0 => []
  | k + 1 => if h : k < n then dn n k ++ [⟨n - 1 - k, by omega⟩] else dn n k
theorem dn_succ {n k : Nat} (h : k < n) : dn n (k + 1) = dn n k ++ [⟨n - 1 - k, by omega⟩] := by rw [dn, dif_pos h]
theorem dn_len {n : Nat} : ∀ {k : Nat}, k ≤ n → (dn n k).length = k
  | 0, _ => rfl
  | k + 1, h => by rw [dn_succ (by omega), List.length_append, dn_len (by omega)]; rfl
/-- What a round keeps: what lay at the call, and the box with the limbs. -/
def KeepB (n₀ Bs : Nat) (W W' : World) : Prop := Below n₀ W W' ∧ W'.heap[Bs]? = W.heap[Bs]?
theorem keepB_t {n₀ Bs : Nat} {A B C : World} (h : KeepB n₀ Bs A B) (k : KeepB n₀ Bs B C) : KeepB n₀ Bs A C := ⟨h.1.trans k.1, k.2.trans h.2⟩
theorem keepB_b {n₀ Bs : Nat} {w : World} (hn : n₀ ≤ w.heap.size) (hb : Bs < w.heap.size) (W : World) (l : Nat) (o o' : Obj) (hl : w.heap.size ≤ l) (h : W.heap[l]? = some o) (h1 : o.isCells = false) (h2 : o.isWalk = false) : KeepB n₀ Bs W (W.putObj l o') :=
  ⟨belowK_b hn W l o o' hl h h1 h2, World.putObj_heap_other (by omega)⟩
end Wd
end Go.Proofs.YtjgcbeihgeaimaaGreatDoor
/-
  The iterator over the allowed pairs.
-/
namespace Go.Proofs.YtjgcbeihgeaimaaGreatDoor
namespace Tw
open Go.RowKit Lw Tk _root_.Go.Proofs.YtjgcbeihgeaimaaGreatDoor.Op Ow Go.Shelf
attribute [local go_sem] Oper.semAt_some

/-- The allowed pairs of a row, and of the first rows. -/
def rowA (l : List Ob) (u : Rl) (i : Fin l.length) : Nat → List (Fin l.length × Fin l.length)
  | 0 => []
  | j + 1 => if h : j < l.length then (if alw u l[i] (l[j]'h) then rowA l u i j ++ [(i, ⟨j, h⟩)] else rowA l u i j) else rowA l u i j
def allA (l : List Ob) (u : Rl) : Nat → List (Fin l.length × Fin l.length)
  | 0 => []
  | i + 1 => if h : i < l.length then allA l u i ++ rowA l u ⟨i, h⟩ l.length else allA l u i
theorem rowA_len (l : List Ob) (u : Rl) (i : Fin l.length) : ∀ j, (rowA l u i j).length ≤ j
  | 0 => by simp [rowA]
  | j + 1 => by
    have := rowA_len l u i j
    rw [rowA]
    split
    · split
      · simp; exact this
      · omega
    · omega
theorem allA_len (l : List Ob) (u : Rl) : ∀ k, (allA l u k).length ≤ k * l.length
  | 0 => by simp [allA]
  | k + 1 => by
    have h1 := allA_len l u k
    rw [allA, Nat.add_mul, Nat.one_mul]
    split
    · rename_i h
      have := rowA_len l u ⟨k, h⟩ l.length
      rw [List.length_append]; omega
    · omega
theorem allA_bound (l : List Ob) (u : Rl) (i : Fin l.length) {j : Nat} (hj : j < l.length) : (allA l u i.1 ++ rowA l u i j).length < l.length * l.length := by
  have h1 := allA_len l u i.1
  have h2 := rowA_len l u i j
  have h3 : i.1 * l.length + l.length ≤ l.length * l.length := by
    rw [← Nat.succ_mul]; exact Nat.mul_le_mul_right _ i.2
  rw [List.length_append]; omega
theorem rowA_yes {l : List Ob} {u : Rl} {i : Fin l.length} {j : Nat} (hj : j < l.length) (h : alw u l[i] (l[j]'hj)) : rowA l u i (j + 1) = rowA l u i j ++ [(i, ⟨j, hj⟩)] := by rw [rowA, dif_pos hj, if_pos h]
theorem rowA_no {l : List Ob} {u : Rl} {i : Fin l.length} {j : Nat} (hj : j < l.length) (h : ¬ alw u l[i] (l[j]'hj)) : rowA l u i (j + 1) = rowA l u i j := by rw [rowA, dif_pos hj, if_neg h]
theorem allA_succ {l : List Ob} {u : Rl} {k : Nat} (hk : k < l.length) : allA l u (k + 1) = allA l u k ++ rowA l u ⟨k, hk⟩ l.length := by rw [allA, dif_pos hk]
theorem blk_cell {W : World} {b : Nat} {cs : Array Value} {t : TypeId} {j : Nat} {v : Value} (h : W.heap[b]? = some (.cells cs t (0, 0))) (hj : cs[j]? = some v) : W.cell? ⟨b, j, none⟩ = some v := by
  simp [World.cell?, h, hj]
theorem below_grown {W W' : World} (h : Below W.heap.size W W') : W.grownBy W' none := ⟨h.os, h.tape, h.output, h.size, fun k hk _ => h.block k hk⟩
abbrev pEnc (n : Nat) (x : Fin n × Fin n) : Array Value := #[.int .i64 (x.1.1 : Int), .int .i64 (x.2.1 : Int)]
theorem pair_at {w0 W : World} {x : Option Addr} {l : List Ob} (hl : SlA w0 x l) (hok : ∀ o ∈ l, okO o) {B off : Nat} (hx : x = some ⟨B, off, none⟩) {i j : Nat} (hi : i < l.length) (hj : j < l.length) (hb : Below w0.heap.size w0 W) : PairAt W B off l.length i j (l[i]'hi) (l[j]'hj) := by
  obtain ⟨B', off', e, lt, row⟩ := (hl.below hb).get hi
  rw [hx] at e
  cases e
  exact ⟨hi, hj, lt, row i hi, row j hj, hok _ (List.getElem_mem hi), hok _ (List.getElem_mem hj)⟩
set_option maxRecDepth 100000 in
set_option maxHeartbeats 4000000 in
theorem pairs_walk (x : Option Addr) (n c : Nat) (u : Rl) (w : World) :
    Calls Tryz.prog 15 #[ntV x n c u] w fun e w' => e = .returned (.func (.func 30) #[] #[.pointer (some ⟨w.heap.size, 0, none⟩)]) ∧ w' = w.alloc (.cells (ntC x n c u).toArray 49) := by
  go_enter Tryz.func15, Tryz.ntmps15
  go_wp2
  exact bodyPost_ret (results_tmp rfl _ _ _) rfl ⟨rfl, rfl⟩
set_option maxRecDepth 100000 in
set_option maxHeartbeats 8000000 in
theorem pairs1_in (m : Nat) (hm : 1 ≤ m) (lp Bs : Nat) (l : List Ob) (x : Option Addr) (cap : Nat) (u : Rl) (w0 : World) (hl : SlA w0 x l) (hok : ∀ o ∈ l, okO o) (hu : okR u) (hsm : l.length ≤ 1000000) (J Jx : List (Fin l.length × Fin l.length) → World → Prop) (W : World) (hJ : AbidesFrom W.heap.size J)
    (hY : ∀ pre z W1, J pre W1 → pre.length < l.length * l.length → YieldAt Fence.wide (m - 1) Tryz.prog lp (pEnc l.length z) W1 fun e W' =>
      (e = .returned (.bool true) ∧ J (pre ++ [z]) W' ∧ Wd.KeepB w0.heap.size Bs W1 W') ∨ (e = .returned (.bool false) ∧ Jx (pre ++ [z]) W'))
    (hB0 : Below w0.heap.size w0 W) (hBs : W.heap[Bs]? = some (.cells (ntC x l.length cap u).toArray 49 (0, 0))) (h0 : J [] W) :
    CallsIn Fence.wide m Tryz.prog 30 #[.func (.yield lp) #[] #[], .pointer (some ⟨Bs, 0, none⟩)] W fun e W' => (∃ v, e = .returned v) ∧
      ((∃ ys, ys = allA l u l.length ∧ J ys W') ∨ (∃ pre, True ∧ Jx pre W')) := by
  obtain ⟨n, hn⟩ : ∃ n, l.length = n := ⟨_, rfl⟩
  have NL := Lib.hid hn
  have PA := Lib.hid (fun (B off : Nat) (hx : x = some ⟨B, off, none⟩) i j (hi : i < l.length) (hj : j < l.length) W' (hb : Wd.KeepB w0.heap.size Bs W W') => (show PairAt W' B off n i j (l[i]'hi) (l[j]'hj) from hn ▸ pair_at hl hok hx hi hj (hB0.trans hb.1)))
  have GX := Lib.hid (fun i (hi : i < l.length) => (hl.get hi))
  rw [hn] at hBs
  have CB := Lib.hid (fun W' (hb : Wd.KeepB w0.heap.size Bs W W') j v (hj : (ntC x n cap u).toArray[j]? = some v) => blk_cell (hb.2.trans hBs) hj)
  have HJ := Lib.hid hJ
  have HY := Lib.hid hY
  have H0 := Lib.hid h0
  have hlt := lt_of_block hBs
  have HC := Lib.hid (fun W1 W2 (hk : Wd.KeepB w0.heap.size Bs W W1) (hs : W.heap.size ≤ W1.heap.size) (hb : Below W1.heap.size W1 W2) => (show Wd.KeepB w0.heap.size Bs W W2 ∧ W.heap.size ≤ W2.heap.size from ⟨⟨hk.1.trans (hb.mono (Nat.le_trans (Nat.le_trans hB0.size hs) (Nat.le_refl _))), (hb.block Bs (by omega)).trans hk.2⟩, Nat.le_trans hs hb.size⟩))
  rw [hn] at hsm
  clear hl hok hJ hY h0 hBs hlt hn
  refine callsIn_of_wp Tryz.func30 rfl trivial ?_ rfl
  simp only [Tryz.ntmps30, List.size_toArray, List.length_cons, List.length_nil, Nat.reduceAdd, Nat.reduceSub, Array.replicate_succ, Array.replicate_zero, List.push_toArray, List.append_toArray, List.nil_append, List.cons_append]
  have cB := CB.out W ⟨Below.refl _ _, rfl⟩ 0 _ rfl
  gi_wp2
  clear cB
  gi_loopw [8] (fun z wr => ∃ k : Nat, k ≤ n ∧ z = .int .i64 k ∧ Hid (J (allA l u k) wr) ∧ Hid (Wd.KeepB w0.heap.size Bs W wr ∧ W.heap.size ≤ wr.heap.size)) (fun z _ => n - (intOf z).toNat)
  case atStart => exact ⟨0, Nat.zero_le _, rfl, Lib.hid H0.out, Lib.hid ⟨⟨Below.refl _ _, rfl⟩, Nat.le_refl _⟩⟩
  case round =>
    clear H0
    obtain ⟨k, hk, rfl, JK, KK⟩ := hrel
    by_cases hkn : k < n
    · have hkl : k < l.length := by rw [NL.out]; exact hkn
      obtain ⟨B, off, hx, -⟩ := GX.out k hkl
      subst hx
      have ki : (k : Int) < (n : Int) := by omega
      have cB := CB.out wr KK.out.1 0 _ rfl
      gi_wp2
      clear cB
      gi_loopw [14] (fun z ws => ∃ j : Nat, j ≤ n ∧ z = .int .i64 j ∧ Hid (J (allA l u k ++ rowA l u ⟨k, hkl⟩ j) ws) ∧ Hid (Wd.KeepB w0.heap.size Bs W ws ∧ W.heap.size ≤ ws.heap.size)) (fun z _ => n - (intOf z).toNat)
      case atStart => exact ⟨0, Nat.zero_le _, rfl, Lib.hid (by rw [rowA, List.append_nil]; exact JK.out), KK⟩
      case round =>
        clear JK KK
        obtain ⟨j, hj, rfl, JJ, KK⟩ := hrel
        by_cases hjn : j < n
        · have hjl : j < l.length := by rw [NL.out]; exact hjn
          have ji : (j : Int) < (n : Int) := by omega
          have al := allowed_any n cap k j B off u (l[k]'hkl) (l[j]'hjl) wr (PA.out B off rfl k j hkl hjl wr KK.out.1) hu
          have c0 := CB.out wr KK.out.1 0 _ rfl
          have c1 := CB.out wr KK.out.1 1 _ rfl
          have c2 := CB.out wr KK.out.1 2 _ rfl
          have c3 := CB.out wr KK.out.1 3 _ rfl
          have c4 := CB.out wr KK.out.1 4 _ rfl
          have c5 := CB.out wr KK.out.1 5 _ rfl
          have YB := Lib.hid (allA_bound l u ⟨k, hkl⟩ hjl)
          by_cases ha : alw u (l[k]'hkl) (l[j]'hjl)
          · rw [decide_eq_true ha] at al
            have RY := Lib.hid (rowA_yes (i := ⟨k, hkl⟩) hjl ha)
            gi_wp2_with (refine ⟨trivial, ?_⟩; gi_at_call 31; refine (callsIn_wide.2 al).mono ?_; rintro e w2 ⟨rfl, hb⟩; have JW := HJ.out _ _ _ none JJ.out (below_grown hb) (fun r e => by cases e); have K2 := Lib.hid (HC.out _ _ KK.out.1 KK.out.2 hb); obtain ⟨fn, tmps, assign, body, hy, hR⟩ := HY.out _ (⟨k, hkl⟩, ⟨j, hjl⟩) w2 JW YB.out; dsimp only [pEnc] at hy; clear hb JW)
            refine hR.mono ?_
            rintro e W3 (⟨rfl, hJ3, hk3⟩ | ⟨rfl, hJx3⟩)
            · have J3 := Lib.hid hJ3
              have K3 := Lib.hid (show Wd.KeepB w0.heap.size Bs W W3 ∧ W.heap.size ≤ W3.heap.size from ⟨Wd.keepB_t K2.out.1 hk3, Nat.le_trans K2.out.2 hk3.1.size⟩)
              clear hJ3 hk3 hR hy
              gi_wp2
              go_roundw
              case rel => exact ⟨j + 1, by omega, by go_num, Lib.hid (by rw [RY.out, ← List.append_assoc]; exact J3.out), K3⟩
              case measure => simp [intOf]; omega
            · clear hR hy
              gi_wp2
              refine bodyPost_ret (results_none rfl _ _ _) rfl ?_
              exact ⟨⟨_, rfl⟩, .inr ⟨_, trivial, hJx3⟩⟩
          · rw [decide_eq_false ha] at al
            have RN := Lib.hid (rowA_no (i := ⟨k, hkl⟩) hjl ha)
            gi_wp2_with (refine ⟨trivial, ?_⟩; gi_at_call 31; refine (callsIn_wide.2 al).mono ?_; rintro e w2 ⟨rfl, hb⟩; have J2 := Lib.hid (HJ.out _ _ _ none JJ.out (below_grown hb) (fun r e => by cases e)); have K2 := Lib.hid (HC.out _ _ KK.out.1 KK.out.2 hb); clear hb)
            refine ⟨fun _ h => (by cases h), ?_⟩
            gi_wp2
            go_roundw
            case rel => exact ⟨j + 1, by omega, by go_num, Lib.hid (by rw [RN.out]; exact J2.out), K2⟩
            case measure => simp [intOf]; omega
        · obtain rfl : j = n := by omega
          have JN := Lib.hid (show J (allA l u (k + 1)) wr from by rw [allA_succ hkl]; exact (congrArg (fun t => J (allA l u k ++ rowA l u ⟨k, hkl⟩ t) wr) NL.out).mpr JJ.out)
          gi_wp2
          go_roundw
          case rel => exact ⟨k + 1, by omega, by go_num, JN, KK⟩
          case measure => simp [intOf]; omega
    · obtain rfl : k = n := by omega
      gi_wp2
      go_end0
      exact ⟨⟨_, rfl⟩, .inl ⟨_, rfl, (congrArg (fun t => J (allA l u t) wr) NL.out).mpr JK.out⟩⟩
theorem pairs_stops (m : Nat) (hm : 1 ≤ m) (Bs : Nat) (l : List Ob) (x : Option Addr) (cap : Nat) (u : Rl) (w0 w : World) (hl : SlA w0 x l) (hok : ∀ o ∈ l, okO o) (hu : okR u) (hsm : l.length ≤ 1000000) (hB0 : Below w0.heap.size w0 w) (hBs : w.heap[Bs]? = some (.cells (ntC x l.length cap u).toArray 49 (0, 0))) :
    SeqStopsK Fence.wide m Tryz.prog 30 #[.pointer (some ⟨Bs, 0, none⟩)] (pEnc l.length) (Wd.KeepB w0.heap.size Bs) (fun ys => ys = allA l u l.length) (fun _ => True) (l.length * l.length) w := fun lp J Jx W hW hJ _ hY h0 =>
  pairs1_in m hm lp Bs l x cap u w0 hl hok hu hsm J Jx W hJ hY (hB0.trans (hW.mono hB0.size)) ((hW.block Bs (lt_of_block hBs)).trans hBs) h0
end Tw
end Go.Proofs.YtjgcbeihgeaimaaGreatDoor
/-
  tracklet.Pairs.
-/
namespace Go.Proofs.YtjgcbeihgeaimaaGreatDoor
namespace Tw
open Go.RowKit Lw Tk _root_.Go.Proofs.YtjgcbeihgeaimaaGreatDoor.Op Ow Go.Shelf
attribute [local go_sem] Oper.semAt_some

abbrev pN {n : Nat} (p : Fin n × Fin n) : Nat × Nat := (p.1.1, p.2.1)
/-- The allowed pairs. -/
def pairsL (l : List Ob) (u : Rl) : List (Nat × Nat) := if stT l u = 0 then (allA l u l.length).map pN else []
theorem blk_own {β : Type} (b : Nat) (cs : Array Value) (t : TypeId) : Own (fun (_ : β) W => W.heap[b]? = some (.cells cs t (0, 0))) := by
  rintro s X Y row hs hg hrow
  refine (hg.block b (lt_of_block hs) (fun e => ?_)).trans hs
  obtain ⟨o, ho, hc⟩ := hrow b e.symm
  rw [hs] at ho
  cases ho
  cases hc
theorem blk_row {W : World} {b : Nat} {cs : Array Value} {t e : TypeId} {base size n : Nat} {v : Value} {xs : List Value} (h : W.heap[b]? = some (.cells cs t (0, 0))) (hte : t ≠ e) (hr : W.ownsRow base e size v n xs) : some b ≠ v.ownBlock := by
  rcases hr.2 with ⟨rfl, _⟩ | ⟨g, cap, cur, rfl, _, hgb, _⟩
  · simp [Value.ownBlock]
  · intro e'
    obtain rfl : b = g := by simpa [Value.ownBlock] using e'
    rw [h] at hgb
    cases hgb
    exact hte rfl
theorem blk_alloc_grown {W w1 : World} {b : Nat} {cs : Array Value} {t : TypeId} {tmp : Obj} {row : Option Nat} (h : W.heap[b]? = some (.cells cs t (0, 0))) (hne : some b ≠ row) (hg : (W.alloc tmp).grownBy w1 row) : w1.heap[b]? = some (.cells cs t (0, 0)) :=
  (hg.block b (by simp; exact Nat.lt_succ_of_lt (lt_of_block h)) hne).trans ((Below.heap_alloc _ _ _ (lt_of_block h)).trans h)
theorem blk_set {W : World} {b : Nat} {cs : Array Value} {t : TypeId} (h : W.heap[b]? = some (.cells cs t (0, 0))) (c : Nat) (hne : b ≠ c) (v : Value) : (W.setCell ⟨c, 0, none⟩ v).heap[b]? = some (.cells cs t (0, 0)) := by
  show (W.heap.modify c _)[b]? = _
  rw [Array.getElem?_modify, if_neg (fun e => hne e.symm)]
  exact h
set_option maxRecDepth 100000 in
set_option maxHeartbeats 8000000 in
theorem pairs_any (x : Option Addr) (cap : Nat) (l : List Ob) (u : Rl) (w : World) (hE : ES w) (hl : SlA w x l) (hm : l.length ≤ 1000000) (hb : OBs l) :
    Calls Tryz.prog 5 #[.slice x l.length cap, rlV u] w fun e w' => ∃ V, e = .returned (.tuple #[V, .int .i64 (stT l u)]) ∧ OwnG 51 2 prE w' w.heap.size V (pairsL l u) ∧ Below w.heap.size w w' := by
  have F0 := Lib.hid ((Fr.start w).alloc (rlC u) 24)
  have ST := Lib.hid (fun w' (hbw : Below w.heap.size w w') => start_any x cap l u w' (hE.below hbw) (hl.below hbw) hm hb)
  refine (callsIn_wide (n := 4)).1 ?_
  refine callsIn_of_wp_marks Tryz.func5 rfl trivial ?_ rfl
  simp only [Tryz.ntmps5, List.size_toArray, List.length_cons, List.length_nil, Nat.reduceAdd, Nat.reduceSub, Array.replicate_succ, Array.replicate_zero, List.push_toArray, List.append_toArray, List.nil_append, List.cons_append]
  by_cases h0 : stT l u = 0
  · obtain ⟨hlen, hok, hu⟩ := stT_ok h0
    have HL := Lib.hid (fun w' (hbw : Below w.heap.size w w') => hl.below hbw)
    rw [h0] at ST ⊢
    have EP : Hid (pairsL l u = (allA l u l.length).map pN) := Lib.hid (if_pos h0)
    clear hE hl hb h0
    gi_wp2_with (first | (refine ⟨trivial, ?_⟩; gi_at_call 14; refine (callsIn_wide.2 (ST.out _ F0.out.below)).mono ?_; rintro e w1 ⟨rfl, hb⟩; have F1 := F0.out.call hb; have c0 := F1.cell 0 0 rfl rfl; have c1 := F1.cell 0 1 rfl rfl; have c2 := F1.cell 0 2 rfl rfl; have c3 := F1.cell 0 3 rfl rfl; have c4 := F1.cell 0 4 rfl rfl; have F2 := F1.alloc [.slice none 0 0] 26; have d0 := F2.cell 1 0 rfl rfl; have d1 := F2.cell 1 1 rfl rfl; have d2 := F2.cell 1 2 rfl rfl; have d3 := F2.cell 1 3 rfl rfl; have d4 := F2.cell 1 4 rfl rfl; have F2 := Lib.hid F2; clear hb F1) | (refine ⟨trivial, ?_⟩; gi_at_call 15; refine (callsIn_wide.2 (pairs_walk _ _ _ _ _)).mono ?_; rintro e w' ⟨rfl, rfl⟩))
    clear c0 c1 c2 c3 c4 d0 d1 d2 d3 d4
    have F3 := F2.out.alloc (ntC x l.length cap u) 49
    have lw := F2.out.below.size
    have lh := (F2.out.least 1 rfl).2
    simp only [World.size_alloc] at F3 lw lh
    have bO := Boxed.new w1 26 (.slice none 0 0)
    have bN := World.alloc_heap_new (w1.alloc (.cells #[.slice none 0 0] 26)) (.cells (ntC x l.length cap u).toArray 49)
    rw [World.size_alloc] at bN
    obtain ⟨i0, hi, hz0, hz1, hz2⟩ := info_parts info_pr
    refine wpIn_rangeFunc_ownG rfl (by omega) (gf := 30) (lb := #[.pointer (some ⟨w1.heap.size + 1, 0, none⟩)]) rfl trivial (enters_of Tryz.func30 (by kernel_rfl) rfl)
      (pairs_stops 3 (by omega) (w1.heap.size + 1) l x cap u w _ (HL.out w (Below.refl _ _)) hok hu hm F3.below bN) Wd.keepB_t (Wd.keepB_b (by simp; omega) (by simp)) (Below.refl _ _) (fun _ => rfl)
      (fun pre W => ((∃ v, Boxed W w1.heap.size 26 v ∧ W.ownsRow w.heap.size 51 2 v pre.length ((pre.map pN).flatMap prE) ∧ True) ∧ W.heap[w1.heap.size + 1]? = some (.cells (ntC x l.length cap u).toArray 49 (0, 0))) ∧ Below w.heap.size w W)
      (fun _ _ _ => False)
      (OwnFrom.and (OwnFrom.and (Own.from (holdsRow_own w.heap.size w1.heap.size 26 51 2 (fun (pre : List (Fin l.length × Fin l.length)) => pre.length) (fun pre => (pre.map pN).flatMap prE) (fun _ _ => True)) _) (Own.from (blk_own _ _ _) _)) (ownFrom_below (Nat.le_refl _) (by simp; omega)))
      (fun _ _ _ _ _ hs _ _ => hs)
      ⟨⟨⟨_, bO.alloc _, World.ownsRow_nil _ _ _ _, trivial⟩, bN⟩, F3.below⟩
      (fun z => { tmps := #[.slice x l.length cap, rlV u, undef, .pointer (some ⟨w.heap.size, 0, none⟩), .slice none 0 0, .int .i64 0, .int .i64 0, .pointer (some ⟨w1.heap.size, 0, none⟩), .int .i64 (z.1.1 : Int), .int .i64 (z.2.1 : Int), .slice x l.length cap, Value.agg #[.int .i64 u.least, .int .i64 u.most, .int .i64 u.speed, .int .i64 u.off, .int .i64 u.count], .int .i64 0, .int .i64 0, .bool false, undef, .slice x l.length cap, Value.agg #[.int .i64 u.least, .int .i64 u.most, .int .i64 u.speed, .int .i64 u.off, .int .i64 u.count], Value.agg #[.slice x l.length cap, .int .i64 u.least, .int .i64 u.most, .int .i64 u.speed, .int .i64 u.off, .int .i64 u.count], .func (.func 30) #[] #[.pointer (some ⟨w1.heap.size + 1, 0, none⟩)], .int .i64 (z.1.1 : Int), .int .i64 (z.2.1 : Int), undef, undef, undef, undef, undef, undef, undef], defers := [] }) ?assign ?body ?done ?stop
    case assign =>
      intro l' z W K hK
      dsimp only [pEnc]
      gi_wp2
      exact hK
    case body =>
      rintro l' pre z W ⟨⟨⟨v, hv, hrow, -⟩, hN⟩, hB⟩ hlt
      have hc := hv.cell
      have hpl : pre.length ≤ 40000 := by
        exact Nat.le_trans (Nat.le_of_lt hlt) (Nat.mul_le_mul hlen hlen)
      have hne := blk_row hN (by decide) hrow
      gi_wp2_with (gi_at_builtin; refine wpListIn_append_own _ rfl _ _ 26 rfl w.heap.size 51 i0 (.agg #[.int .i64 0, .int .i64 0]) 2 16 Tryz.underlying26 hi hz0 hz1 hz2 rfl (by decide) _ _ _ rfl (hrow.alloc _) ⟨W.heap.size, 0, none⟩ 1 1 (prE (pN z)) rfl rfl (newsG (rangeAt_new _ _ _)) (prE_one _) (by unfold maxLen; omega) (by omega) (by have := hB.size; simp; omega) ?_; intro v' w2 hown' hgrow _; obtain ⟨g', cap', rfl⟩ := ownsRow_succ hown'; obtain ⟨hv1, hv2, hr2, hk2, hb2⟩ := hv.appended (by decide) hrow hB.size (by omega) hown' hgrow; have hc1 := hv1.cell; have hf1 := hv1.frozen)
      have hN2 := blk_set (blk_alloc_grown hN hne hgrow) w1.heap.size (by omega) (.slice (some ⟨g', 0, none⟩) (pre.length + 1) cap')
      exact ⟨hk2.from _, ⟨hb2, hN2.trans hN.symm⟩, ⟨⟨⟨_, hv2, by simpa using hr2, trivial⟩, hN2⟩, hB.trans hb2⟩⟩
    case done =>
      rintro D ys W hD rfl ⟨⟨⟨v, hv, hrow, -⟩, hN⟩, hB⟩ hK
      have hc := hv.cell
      gi_wp2
      have hbb := hB.trans (belowK_b (w := w) (Nat.le_refl _) W D _ (.deferred none) (by simp at hD; omega) hK rfl rfl)
      refine ⟨by simp, .inl ⟨_, _, rfl, run_takeDeferred hK, ?_⟩⟩
      exact ⟨_, results_tmp2 rfl _ _ _, v, rfl, ⟨by rw [EP.out, List.length_map]; exact ownsRow_putObj hrow _ hK rfl, hbb.size⟩, hbb⟩
    case stop =>
      rintro D c pre W _ _ h _
      exact h.elim
  · have EP : Hid (pairsL l u = []) := Lib.hid (if_neg h0)
    clear hE hl hb
    generalize stT l u = c at *
    gi_wp2_with (refine ⟨trivial, ?_⟩; gi_at_call 14; refine (callsIn_wide.2 (ST.out _ F0.out.below)).mono ?_; rintro e w1 ⟨rfl, hb⟩; have F1 := Lib.hid (F0.out.call hb); clear hb)
    · exact ⟨_, results_tmp2 rfl _ _ _, .slice none 0 0, rfl, by rw [EP.out]; exact OwnG.nil _ _ F1.out.below.size, F1.out.below⟩
end Tw
end Go.Proofs.YtjgcbeihgeaimaaGreatDoor
