/-
  Head and tail of a text of degrees.
-/
import Derived.Test.YtmafjoboikbnnaaDoorPTrim
import Derived.Test.YtmafjoboikbnnaaDoorPRead2
namespace Go.Proofs.YtmafjoboikbnnaaDoor
namespace Ap
open Go.RowKit Lw

theorem point_iff (c : UInt8) : (c == 46) = true ↔ ((c.toNat : Nat) : Int) = 46 := by
  have e : c = 46 ↔ c.toNat = (46 : UInt8).toNat := UInt8.toNat_inj.symm
  have h46 : (46 : UInt8).toNat = 46 := rfl
  rw [beq_iff_eq, e, h46]
  omega
abbrev noPt (c : UInt8) : Bool := decide (¬ ((c.toNat : Nat) : Int) = 46)
theorem idx_pt : ∀ l : List UInt8, Lib.indexByte l 46 = if (l.takeWhile noPt).length < l.length then (((l.takeWhile noPt).length : Nat) : Int) else -1
  | [] => rfl
  | b :: l => by
    have ih := idx_pt l
    unfold Lib.indexByte
    by_cases h : (b == 46) = true
    · have hb : noPt b = false := decide_eq_false (not_not_intro ((point_iff b).1 h))
      rw [if_pos h, List.takeWhile_cons, hb]
      simp
    · have hb : noPt b = true := decide_eq_true fun g => h ((point_iff b).2 g)
      rw [if_neg h, List.takeWhile_cons, if_pos hb, ih]
      simp only [List.length_cons, beq_iff_eq]
      by_cases g : (l.takeWhile noPt).length < l.length
      · rw [if_pos g, if_neg (by omega), if_pos (by omega)]
        omega
      · rw [if_neg g, if_pos rfl, if_neg (by omega)]
theorem cut_pt (l : List UInt8) : Lib.cut l [46] = if (l.takeWhile noPt).length < l.length then (l.take (l.takeWhile noPt).length, l.drop ((l.takeWhile noPt).length + 1), true) else (l, [], false) := by
  unfold Lib.cut
  rw [Lib.index_one, idx_pt]
  by_cases h : (l.takeWhile noPt).length < l.length
  · rw [if_pos h, if_pos h, if_pos (by omega)]
    simp
  · rw [if_neg h, if_neg h, if_neg (by omega)]
theorem pt_def (t : ByteArray) : (t.data.toList.takeWhile noPt).length = ptOf t := rfl
/-- The same in terms of head and tail. -/
def formH (h r : ByteArray) : Prop := 1 ≤ r.size ∧ 1 ≤ h.size ∧ h.size ≤ 3 ∧ r.size ≤ 9 ∧ (h.size ≤ 1 ∨ ¬ (((h.get! 0).toNat : Nat) : Int) = 48)
def DegH (neg : Bool) (h r : ByteArray) (v e : Int) : Prop :=
  (formH h r ∧ numP neg (numV h.data.toList) (numV r.data.toList) ∧ v = sgnI neg (numV h.data.toList * 3600000000 + fracI (numV r.data.toList) r.size) ∧ e = 0) ∨ (¬ (formH h r ∧ numP neg (numV h.data.toList) (numV r.data.toList)) ∧ v = 0 ∧ e = 12)
theorem cut_none (neg : Bool) (t : ByteArray) (h : (Lib.cut t.data.toList [46]).2.2 = false) : DegT neg t (ptOf t) 0 12 := by
  rw [cut_pt, pt_def] at h
  refine Or.inr ⟨fun g => ?_, rfl, rfl⟩
  have g1 := g.1.1
  rw [if_pos (by simp; omega)] at h
  cases h
theorem cut_some (neg : Bool) (t : ByteArray) (h : (Lib.cut t.data.toList [46]).2.2 = true) : ∀ v e, DegH neg ⟨(Lib.cut t.data.toList [46]).1.toArray⟩ ⟨(Lib.cut t.data.toList [46]).2.1.toArray⟩ v e → DegT neg t (ptOf t) v e := by
  rw [cut_pt, pt_def] at h ⊢
  by_cases g : ptOf t < t.data.toList.length
  · rw [if_pos g] at h ⊢
    have gs : ptOf t < t.size := by simpa using g
    have e1 : (⟨(t.data.toList.take (ptOf t)).toArray⟩ : ByteArray) = t.extract 0 (ptOf t) := by
      apply ByteArray.ext
      apply Array.toList_inj.1
      simp
    have e2 : (⟨(t.data.toList.drop (ptOf t + 1)).toArray⟩ : ByteArray) = t.extract (ptOf t + 1) t.size := by
      apply ByteArray.ext
      apply Array.toList_inj.1
      rw [Lib.extract_to_end]
    show ∀ v e, DegH neg ⟨(t.data.toList.take (ptOf t)).toArray⟩ ⟨(t.data.toList.drop (ptOf t + 1)).toArray⟩ v e → _
    rw [e1, e2]
    have z1 : (t.extract 0 (ptOf t)).size = ptOf t := by simp; omega
    have z2 : (t.extract (ptOf t + 1) t.size).size = t.size - (ptOf t + 1) := by simp
    have fi : formH (t.extract 0 (ptOf t)) (t.extract (ptOf t + 1) t.size) ↔ formP t (ptOf t) := by
      unfold formH formP
      rw [z1, z2]
      by_cases h0 : 0 < ptOf t
      · have hg : (t.extract 0 (ptOf t)).get! 0 = t.get! 0 := by
          simp [ByteArray.get!]
          rw [getElem!_pos _ _ (by simp; omega), getElem!_pos _ _ (by have : t.data.size = t.size := rfl; omega)]
          simp
        rw [hg]
        constructor <;> (rintro ⟨a1, a2, a3, a4, a5⟩; exact ⟨by omega, by omega, by omega, by omega, a5⟩)
      · constructor <;> (rintro ⟨a1, a2, a3, a4, a5⟩; omega)
    intro v e H
    rcases H with ⟨h1, h2, h3, h4⟩ | ⟨h1, h2, h3⟩
    · exact Or.inl ⟨fi.1 h1, h2, by rw [z2] at h3; exact h3, h4⟩
    · exact Or.inr ⟨fun g => h1 ⟨fi.2 g.1, g.2⟩, h2, h3⟩
  · rw [if_neg g] at h
    cases h
theorem pre_neg (s : ByteArray) : (⟨(Lib.trimPrefix s.data.toList [45]).toArray⟩ : ByteArray) = bodyOf s ∧ Lib.hasPrefix s.data.toList [45] = negB s := by
  have hp : Lib.hasPrefix s.data.toList [45] = negB s := by
    unfold negB Lib.hasPrefix
    obtain ⟨l, rfl⟩ : ∃ l : List UInt8, s = ⟨l.toArray⟩ := ⟨s.data.toList, (arr_str s).symm⟩
    rw [mk_list]
    cases l with
    | nil => exact (decide_eq_false fun g => by have := g.1; simp [ByteArray.size] at this).symm
    | cons c r =>
      have e : c = 45 ↔ c.toNat = (45 : UInt8).toNat := UInt8.toNat_inj.symm
      have h45 : (45 : UInt8).toNat = 45 := rfl
      have : negP ⟨(c :: r).toArray⟩ ↔ c = 45 := by
        unfold negP
        rw [get0, size_mk, e, h45]
        simp only [List.length_cons]
        omega
      rw [List.isPrefixOf_cons_cons, List.isPrefixOf_nil_left, Bool.and_true]
      by_cases h : c = 45
      · rw [decide_eq_true (this.2 h), h]; rfl
      · rw [decide_eq_false fun g => h (this.1 g)]
        exact beq_eq_false_iff_ne.2 fun g => h g.symm
  refine ⟨?_, hp⟩
  unfold Lib.trimPrefix bodyOf
  rw [hp]
  by_cases h : negP s
  · rw [if_pos h, if_pos (show negB s = true from decide_eq_true h)]
    apply ByteArray.ext
    apply Array.toList_inj.1
    rw [Lib.extract_to_end]
    simp
  · rw [if_neg h, if_neg (by rw [negB, decide_eq_false h]; exact Bool.false_ne_true)]
    first | done | exact arr_str s
theorem frac_letters (E : Int) (n : Nat) (h0 : 0 ≤ E) (h1 : E < 10 ^ n) (hn : n ≤ 9) :
    (n ≤ 8 ∧ ∃ T Q : Int, tenI n = T ∧ (3600000000 : Int).tdiv T = Q ∧ 1 ≤ T ∧ T ≤ 100000000 ∧ 0 ≤ Q ∧ Q ≤ 3600000000 ∧ 0 ≤ E * Q ∧ E * Q ≤ 18000000001 ∧ fracI E n = E * Q) ∨
    (n = 9 ∧ ∃ T R : Int, tenI n = T ∧ 100000000 < T ∧ T ≤ 1000000000 ∧ 0 ≤ R ∧ R ≤ 18000000001 ∧ fracI E n = R ∧ E ≤ 999999999 ∧
      ∀ w : World, Calls Tryd.prog 32 #[.int .i64 (E * 18), .int .i64 5] w fun e w' => e = .returned (.int .i64 R) ∧ Below w.heap.size w w') := by
  obtain ⟨T, C, M, U, R, eT, eM, eU, c1, c2, t1, t2, mm1, mm2, u1, u2, p1, p2, r1, r2, eR, NC, NR⟩ := deg_letters E n h0 h1 hn
  by_cases h9 : n = 9
  · subst h9
    refine Or.inr ⟨rfl, _, R, rfl, by decide, by decide, r1, r2, eR.out, by omega, fun w => ?_⟩
    obtain ⟨e, rfl⟩ : ∃ e : Nat, E = e := ⟨E.toNat, by omega⟩
    have e18 : (e : Int) * 18 = ((e * 18 : Nat) : Int) := by simp
    have := round_any (e * 18) 5 w (by omega) (by omega) (by omega)
    rw [← e18] at this
    rw [← eR.out, frac_9]
    exact this.mono fun _ _ ⟨a, m, b⟩ => ⟨a, by rw [b]; exact drewN_below2 (Below.refl _ _) m⟩
  · have n8 : n ≤ 8 := by omega
    have tb : tenI n ≤ 100000000 := by
      have : ∀ k : Nat, k ≤ 8 → tenI k ≤ 100000000 := by decide
      exact this n n8
    have ft := frac_8 E n n8
    have eq : (3600000000 : Int).tdiv (tenI n) = 3600000000 / tenI n := Int.tdiv_eq_ediv_of_nonneg (by omega)
    have q := div_bd (u := 3600000000) (by omega) (tenI_bd n (by omega)).1
    rw [← eq] at ft q
    have fb := eR.out
    rw [ft] at fb
    exact Or.inl ⟨n8, _, _, rfl, rfl, (tenI_bd n (by omega)).1, tb, q.1, q.2, by omega, by omega, ft⟩
end Ap
end Go.Proofs.YtmafjoboikbnnaaDoor
