/-
  Lemmas and walks, texts joined: Frame, WPl, MNum, MTen, MLike, MGrp, MFld, WLim, WTrim, WMade, WFrom, WCheck, WCheck1, WArr, WMulPl, WTimes, WMul, WDPl, WBits.
-/
import Derived.Lib.SmallJoins
import Derived.WalkKit
import Derived.ProofKit
import Derived.Lib.Hide
import Derived.Laws.RangeAny
import Derived.LoopTactic
import Derived.Deep.QuietTactic
import Derived.BigQuiet
import Derived.WalkLawsBesides
import Derived.WalkSpells
import Derived.OneCell
import Derived.OwnWalk
import Derived.Deep.AppendLies
import Derived.StillTailTactics
import Derived.ChangeKeysEq
import Derived.Deep.RegionHeld3
import Derived.Laws.BitsAllLaws
import Derived.Test.YtmgehfakcnmdnaaGreatDoorTa01
import Derived.Test.YtmgehfakcnmdnaaGreatDoorRows
set_option linter.unusedSimpArgs false
set_option linter.unusedVariables false
/-
  Opening an argument that is a struct by value, whatever the number of its one-cell fields; for any program.
-/
namespace Go.Proofs.YtmgehfakcnmdnaaGreatDoor
namespace Fr
open Go.Joins Go.ChangeShapes Go.WideShapes Go.RowKit Go.Deep

section
variable {H : Type} {enc : TypeId × Value → H} {P : Program} {w : World} {base : Nat} {spare : Nat → Bool} {held : Bool}
theorem open_agg {r : Reach} {b0 : Nat} {t : TypeId} {fs : Array Field} {v : Value} {d : DataW H} {p : List MemPlace} (hs : P.underlying t = some (.struct fs)) (hone : oneCellFields P fs = true) (hC : P.cellsOf t = fs.size)
    (hv : Value.okWide P w r b0 t v) (h : DataW.Trod enc P w base spare held t v d p) :
    ∃ l : List Value, v = .agg l.toArray ∧ l.length = fs.size ∧ ∃ n : Nat, ∀ (j : Nat) (f : Field) (c : Value), fs[j]? = some f → l[j]? = some c → ∃ y, DataW.trod enc P w base spare held n f.type [c] = some y := by
  obtain ⟨cs, rfl, hsz⟩ := okWide_struct hs hv
  obtain ⟨l⟩ := cs
  have hl : l.length = fs.size := hsz.trans hC
  obtain ⟨fuel, hf⟩ := h
  obtain ⟨xs, n, _, hx, _, hlen, hg⟩ := DataW.trod_struct hs hf
  refine ⟨l, rfl, hl, n, fun j f c hj hc => ?_⟩
  obtain ⟨o, k⟩ := hone_of hone j f hj
  have hjl : j < l.length := (List.getElem?_eq_some_iff.1 hc).1
  have h1 := hg j f hj
  rw [o, k] at h1
  have e : ((Value.agg l.toArray).cells.toList.drop j).take 1 = [c] := by
    show (l.drop j).take 1 = [c]
    rw [List.drop_eq_getElem_cons hjl]
    have := (List.getElem?_eq_some_iff.1 hc).2
    simp [this]
  rw [e] at h1
  have hxl : j < xs.length := by omega
  exact ⟨xs[j], h1.trans (List.getElem?_eq_getElem hxl)⟩
end
theorem one_eq {a b : Value} (h : [a] = [b]) : a = b := by injection h
theorem list2 {l : List Value} (h : l.length = 2) : ∃ a b, l = [a, b] := by match l, h with | [a, b], _ => exact ⟨a, b, rfl⟩
theorem list3 {l : List Value} (h : l.length = 3) : ∃ a b c, l = [a, b, c] := by match l, h with | [a, b, c], _ => exact ⟨a, b, c, rfl⟩
theorem list4 {l : List Value} (h : l.length = 4) : ∃ a b c d, l = [a, b, c, d] := by match l, h with | [a, b, c, d], _ => exact ⟨a, b, c, d, rfl⟩
theorem list5 {l : List Value} (h : l.length = 5) : ∃ a b c d e, l = [a, b, c, d, e] := by match l, h with | [a, b, c, d, e], _ => exact ⟨a, b, c, d, e, rfl⟩
theorem list6 {l : List Value} (h : l.length = 6) : ∃ a b c d e f, l = [a, b, c, d, e, f] := by match l, h with | [a, b, c, d, e, f], _ => exact ⟨a, b, c, d, e, f, rfl⟩
theorem list7 {l : List Value} (h : l.length = 7) : ∃ a b c d e f g, l = [a, b, c, d, e, f, g] := by match l, h with | [a, b, c, d, e, f, g], _ => exact ⟨a, b, c, d, e, f, g, rfl⟩
theorem list8 {l : List Value} (h : l.length = 8) : ∃ a b c d e f g i, l = [a, b, c, d, e, f, g, i] := by match l, h with | [a, b, c, d, e, f, g, i], _ => exact ⟨a, b, c, d, e, f, g, i, rfl⟩
end Fr
end Go.Proofs.YtmgehfakcnmdnaaGreatDoor
/-
  Plain law of numbers in limbs of 32 bits; no program in sight.
-/
namespace Go.Proofs.YtmgehfakcnmdnaaGreatDoor
namespace Wd

/-- The number that limbs stand for, the lowest one first. -/
def val : List Nat → Nat
  | [] => 0
  | x :: l => x + 4294967296 * val l
def Lb (l : List Nat) : Prop := ∀ x ∈ l, x < 4294967296
/-- The limbs of a number, without zeros at the end. -/
def canon (n : Nat) : List Nat := if h : n = 0 then [] else n % 4294967296 :: canon (n / 4294967296)
termination_by n
decreasing_by omega
theorem canon_zero : canon 0 = [] := by rw [canon]; simp
theorem canon_pos {n : Nat} (h : n ≠ 0) : canon n = n % 4294967296 :: canon (n / 4294967296) := by rw [canon, dif_neg h]
theorem canon_spec (n : Nat) : val (canon n) = n ∧ Lb (canon n) ∧ (canon n = [] ↔ n = 0) ∧ (∀ h : canon n ≠ [], (canon n).getLast h ≠ 0) := by
  induction n using Nat.strongRecOn with
  | _ n ih =>
    by_cases h : n = 0
    · subst h
      rw [canon_zero]
      exact ⟨rfl, fun x hx => by simp at hx, by simp, fun h => absurd rfl h⟩
    · obtain ⟨i1, i2, i3, i4⟩ := ih (n / 4294967296) (by omega)
      rw [canon_pos h]
      refine ⟨?_, ?_, ?_, ?_⟩
      · simp only [val]; rw [i1]; omega
      · intro x hx
        rcases List.mem_cons.1 hx with rfl | hx
        · exact Nat.mod_lt _ (by decide)
        · exact i2 x hx
      · simp [h]
      · intro g
        by_cases e : canon (n / 4294967296) = []
        · have : n / 4294967296 = 0 := i3.1 e
          simp only [e, List.getLast_singleton]
          omega
        · rw [List.getLast_cons e]
          exact i4 e
theorem val_canon (n : Nat) : val (canon n) = n := (canon_spec n).1
theorem lb_canon (n : Nat) : Lb (canon n) := (canon_spec n).2.1
theorem val_lt : ∀ l, Lb l → val l < 4294967296 ^ l.length
  | [], _ => by simp [val]
  | x :: l, h => by
    have hx := h x (List.mem_cons_self ..)
    have ih := val_lt l fun y hy => h y (List.mem_cons_of_mem _ hy)
    simp only [val, List.length_cons]
    rw [Nat.pow_succ]
    omega
theorem canon_uniq : ∀ l, Lb l → (∀ h : l ≠ [], l.getLast h ≠ 0) → l = canon (val l)
  | [], _, _ => by simp [val, canon_zero]
  | x :: l, h, hl => by
    have hx := h x (List.mem_cons_self ..)
    have ih := canon_uniq l (fun y hy => h y (List.mem_cons_of_mem _ hy)) fun g => by
      have := hl (by simp)
      rwa [List.getLast_cons g] at this
    have hne : val (x :: l) ≠ 0 := by
      simp only [val]
      intro e
      have h1 : x = 0 := by omega
      have h2 : val l = 0 := by omega
      by_cases g : l = []
      · subst g
        have := hl (by simp)
        simp at this
        exact this h1
      · rw [ih, h2, canon_zero] at g
        exact g rfl
    rw [canon_pos hne]
    simp only [val]
    rw [show (x + 4294967296 * val l) % 4294967296 = x by omega, show (x + 4294967296 * val l) / 4294967296 = val l by omega, ← ih]
theorem canon_len : ∀ (k n : Nat), n < 4294967296 ^ k → (canon n).length ≤ k
  | 0, n, h => by have : n = 0 := by simpa using h
                  rw [this, canon_zero]; simp
  | k + 1, n, h => by
    by_cases e : n = 0
    · rw [e, canon_zero]; simp
    · rw [canon_pos e, List.length_cons]
      have := canon_len k (n / 4294967296) (by rw [Nat.pow_succ] at h; exact Nat.div_lt_of_lt_mul (by rw [Nat.mul_comm]; exact h))
      omega
theorem val_append : ∀ a b, val (a ++ b) = val a + 4294967296 ^ a.length * val b
  | [], b => by simp [val]
  | x :: a, b => by
    rw [List.cons_append]
    simp only [val, List.length_cons]
    rw [val_append a b, Nat.pow_succ, Nat.mul_add, Nat.mul_comm (4294967296 ^ a.length) 4294967296, Nat.mul_assoc]
    omega
theorem val_zeros : ∀ l, (∀ x ∈ l, x = 0) → val l = 0
  | [], _ => rfl
  | x :: l, h => by
    simp only [val]
    rw [h x (List.mem_cons_self ..), val_zeros l fun y hy => h y (List.mem_cons_of_mem _ hy)]
/-- Cutting zeros at the end off. -/
theorem cut_canon {l : List Nat} {k : Nat} (hl : Lb l) (hk : k ≤ l.length) (hz : ∀ j (h : j < l.length), k ≤ j → l[j] = 0) (hn : k = 0 ∨ ∃ h : k - 1 < l.length, l[k - 1] ≠ 0) : l.take k = canon (val l) := by
  have e : val (l.take k) = val l := by
    have h1 := val_append (l.take k) (l.drop k)
    rw [List.take_append_drop] at h1
    have h2 : val (l.drop k) = 0 := val_zeros _ fun x hx => by
      obtain ⟨i, hi, rfl⟩ := List.mem_iff_getElem.1 hx
      rw [List.getElem_drop]
      exact hz _ _ (by omega)
    rw [h1, h2]; simp
  rw [← e]
  refine canon_uniq _ (fun x hx => hl x (List.mem_of_mem_take hx)) fun g => ?_
  rcases hn with h0 | ⟨h, hne⟩
  · subst h0; simp at g
  · have k0 : 0 < k := by
      rcases Nat.eq_zero_or_pos k with h0 | h0
      · subst h0; simp at g
      · exact h0
    rw [List.getLast_eq_getElem]
    have hlen : (l.take k).length - 1 = k - 1 := by rw [List.length_take]; omega
    simp only [hlen, List.getElem_take]
    exact hne
theorem canon_take : ∀ l, Lb l → canon (val l) = l.take (canon (val l)).length
  | [], _ => by simp [val, canon_zero]
  | x :: l, h => by
    have hx := h x (List.mem_cons_self ..)
    have ih := canon_take l fun y hy => h y (List.mem_cons_of_mem _ hy)
    by_cases e : val (x :: l) = 0
    · rw [e, canon_zero]; rfl
    · rw [canon_pos e]
      simp only [val]
      rw [show (x + 4294967296 * val l) % 4294967296 = x by omega, show (x + 4294967296 * val l) / 4294967296 = val l by omega, List.length_cons, List.take_succ_cons, ← ih]
theorem canon_le (l : List Nat) (h : Lb l) : (canon (val l)).length ≤ l.length := by
  have e := congrArg List.length (canon_take l h)
  rw [List.length_take] at e
  omega
end Wd
end Go.Proofs.YtmgehfakcnmdnaaGreatDoor
/-
  Reading digits: number of the reference.
-/
namespace Go.Proofs.YtmgehfakcnmdnaaGreatDoor
namespace Ap
open Go.RowKit Lw

def numL (l : List UInt8) : Int := l.foldl (fun n c => 10 * n + ((c.toNat : Int) - 48)) 0
def allD (l : List UInt8) : Prop := ∀ c ∈ l, 48 ≤ (c.toNat : Int) ∧ (c.toNat : Int) ≤ 57
instance (l : List UInt8) : Decidable (allD l) := by unfold allD; infer_instance
/-- The number that a string of digits is, or -1. -/
def numV (l : List UInt8) : Int := if allD l then numL l else -1
theorem numL_snoc (l : List UInt8) (c : UInt8) : numL (l ++ [c]) = 10 * numL l + ((c.toNat : Int) - 48) := by simp [numL]
theorem allD_snoc {l : List UInt8} {c : UInt8} (h : allD l) (h1 : 48 ≤ (c.toNat : Int)) (h2 : (c.toNat : Int) ≤ 57) : allD (l ++ [c]) := fun x hx => by
  rcases List.mem_append.1 hx with g | g
  · exact h x g
  · have := List.mem_singleton.1 g; subst this; exact ⟨h1, h2⟩
theorem take_snoc (s : ByteArray) (k : Nat) (h : k < s.size) : s.data.toList.take (k + 1) = s.data.toList.take k ++ [s[k]] := by
  rw [List.take_succ_eq_append_getElem (by simpa using h)]; rfl
theorem take_all (s : ByteArray) (k : Nat) (h : ¬ k < s.size) : s.data.toList.take k = s.data.toList := List.take_of_length_le (by simp; omega)
theorem numL_bd (l : List UInt8) : ∀ k, k ≤ l.length → allD (l.take k) → 0 ≤ numL (l.take k) ∧ numL (l.take k) < 10 ^ k
  | 0, _, _ => by simp [numL]
  | k + 1, hk, h => by
    have e : l.take (k + 1) = l.take k ++ [l[k]] := List.take_succ_eq_append_getElem (by omega)
    rw [e] at h ⊢
    have ih := numL_bd l k (by omega) (fun x hx => h x (List.mem_append_left _ hx))
    have hc := h l[k] (List.mem_append_right _ (List.mem_singleton.2 rfl))
    rw [numL_snoc, Int.pow_succ]
    omega
theorem pow_17 : ∀ k : Nat, k < 18 → (10 : Int) ^ k ≤ 100000000000000000 := by decide
theorem numL_17 (s : ByteArray) (k : Nat) (hk : k ≤ s.size) (h18 : k < 18) (h : allD (s.data.toList.take k)) : 0 ≤ numL (s.data.toList.take k) ∧ numL (s.data.toList.take k) < 100000000000000000 := by
  have := numL_bd s.data.toList k (by simpa using hk) h
  have := pow_17 k h18
  omega
theorem numV_not (s : ByteArray) (k : Nat) (hk : k < s.size) (h : ¬ (48 ≤ (s[k].toNat : Int) ∧ (s[k].toNat : Int) ≤ 57)) : numV s.data.toList = -1 := by
  unfold numV
  rw [if_neg]
  intro g
  exact h (g s[k] (by
    have : s[k] = s.data.toList[k]'(by simpa using hk) := rfl
    rw [this]; exact List.getElem_mem _))
theorem numV_all (s : ByteArray) (k : Nat) (hk : ¬ k < s.size) (h : allD (s.data.toList.take k)) : numL (s.data.toList.take k) = numV s.data.toList := by
  rw [take_all s k hk] at h ⊢
  unfold numV
  rw [if_pos h]
theorem byte_bd (b : UInt8) : 0 ≤ (b.toNat : Int) ∧ (b.toNat : Int) < 256 := by have := b.toNat_lt; omega
theorem ret_i {a b : Int} (h : a = b) : Ending.returned (.int .i64 a) = .returned (.int .i64 b) := by rw [h]
theorem val_i {a b : Int} (h : a = b) : Value.int .i64 a = .int .i64 b := by rw [h]
end Ap
end Go.Proofs.YtmgehfakcnmdnaaGreatDoor
/-
  Powers of ten: package moment and the reference.
-/
namespace Go.Proofs.YtmgehfakcnmdnaaGreatDoor
namespace Ap
open Go.RowKit Lw

/-- A power of ten. -/
def tenI (k : Nat) : Int := (10 ^ k : Nat)
theorem tenI_s (k : Nat) : tenI (k + 1) = tenI k * 10 := by unfold tenI; rw [Nat.pow_succ]; omega
theorem tenI_bd : ∀ k : Nat, k ≤ 18 → 1 ≤ tenI k ∧ tenI k ≤ 1000000000000000000 := by decide
theorem tenI_17 : ∀ k : Nat, k < 18 → 1 ≤ tenI k ∧ tenI k ≤ 100000000000000000 := by decide

theorem val_u {a b : Int} (h : a = b) : Value.int .u64 a = .int .u64 b := by rw [h]
set_option maxHeartbeats 400000 in
theorem ten_any (n : Nat) (w : World) (hn : n ≤ 18) :
    Calls Tryz.prog 36 #[.int .i64 n] w fun e w' => e = .returned (.int .u64 (tenI n)) ∧ w = w' := by
  go_enter Tryz.func36, Tryz.ntmps36
  go_wp2
  go_loop [3, 5] (fun p i => ∃ k : Nat, k ≤ n ∧ i = .int .i64 k ∧ p = .int .u64 (tenI k)) (fun _ i => n - (intOf i).toNat)
  case atStart => exact ⟨0, Nat.zero_le _, rfl, rfl⟩
  case round =>
    obtain ⟨k, hk, rfl, rfl⟩ := hrel
    by_cases hlt : k < n
    · have nb := tenI_17 k (by omega)
      have HS := Lib.hid (tenI_s k)
      go_wp2
      go_round
      case rel => exact ⟨k + 1, by omega, by go_num, val_u HS.out.symm⟩
      case measure => simp [intOf]; omega
    · obtain rfl : k = n := by omega
      go_wp2
      go_ret
      exact ⟨rfl, rfl⟩

set_option maxHeartbeats 400000 in
theorem rten_any (n : Nat) (w : World) (hn : n ≤ 18) :
    Calls Tryz.prog 41 #[.int .i64 n] w fun e w' => e = .returned (.int .i64 (tenI n)) ∧ w = w' := by
  go_enter Tryz.func41, Tryz.ntmps41
  go_wp2
  go_loop [3, 4] (fun p i => ∃ k : Nat, k ≤ n ∧ i = .int .i64 k ∧ p = .int .i64 (tenI k)) (fun _ i => n - (intOf i).toNat)
  case atStart => exact ⟨0, Nat.zero_le _, rfl, rfl⟩
  case round =>
    obtain ⟨k, hk, rfl, rfl⟩ := hrel
    by_cases hlt : k < n
    · have nb := tenI_17 k (by omega)
      have HS := Lib.hid (show tenI (k + 1) = 10 * tenI k by rw [tenI_s]; omega)
      go_wp2
      go_round
      case rel => exact ⟨k + 1, by omega, by go_num, val_i HS.out.symm⟩
      case measure => simp [intOf]; omega
    · obtain rfl : k = n := by omega
      go_wp2
      go_ret
      exact ⟨rfl, rfl⟩
end Ap
end Go.Proofs.YtmgehfakcnmdnaaGreatDoor
/-
  Texts that follow a pattern: like of the reference.
-/
namespace Go.Proofs.YtmgehfakcnmdnaaGreatDoor
namespace Ap
open Go.RowKit Lw

abbrev bt (s : ByteArray) (k : Nat) : Int := ((s.get! k).toNat : Int)
/-- A byte that follows a pattern: a digit where the pattern has one, and the pattern's byte elsewhere. -/
def okAt (s p : ByteArray) (k : Nat) : Prop := (bt p k = 48 → 48 ≤ bt s k ∧ bt s k ≤ 57) ∧ (¬ bt p k = 48 → bt s k = bt p k)
instance (s p : ByteArray) (k : Nat) : Decidable (okAt s p k) := by unfold okAt; infer_instance
def likeTo (s p : ByteArray) (n : Nat) : Prop := ∀ k, k < n → okAt s p k
instance (s p : ByteArray) (n : Nat) : Decidable (likeTo s p n) := by unfold likeTo; infer_instance
def likeP (s p : ByteArray) : Prop := s.size = p.size ∧ likeTo s p s.size
instance (s p : ByteArray) : Decidable (likeP s p) := by unfold likeP; infer_instance
theorem bt_of (s : ByteArray) (i : Nat) (h : i < s.size) : bt s i = (s[i].toNat : Int) := by simp [bt, ByteArray.get!, getElem!_pos, h]; rfl
theorem like_no {s p : ByteArray} {k : Nat} (hk : k < s.size) (h : ¬ okAt s p k) : decide (likeP s p) = false := decide_eq_false fun g => h (g.2 k hk)
theorem like_yes {s p : ByteArray} {k : Nat} (hn : s.size = p.size) (hk : ¬ k < s.size) (h : likeTo s p k) : decide (likeP s p) = true := decide_eq_true ⟨hn, fun j hj => h j (by omega)⟩
theorem likeTo_s {s p : ByteArray} {k : Nat} (h : likeTo s p k) (g : okAt s p k) : likeTo s p (k + 1) := fun j hj => by
  by_cases e : j = k
  · subst e; exact g
  · exact h j (by omega)
theorem ret_b {a b : Bool} (h : a = b) : Ending.returned (.bool a) = .returned (.bool b) := by rw [h]
end Ap
end Go.Proofs.YtmgehfakcnmdnaaGreatDoor
/-
  Plain law of the numbers between separators, for any string and any pattern; no walk here.
-/
namespace Go.Proofs.YtmgehfakcnmdnaaGreatDoor
namespace Ap
open Go.RowKit Lw

/-- Is the byte before one of a number? -/
def ins (p : ByteArray) : Nat → Bool
  | 0 => false
  | k + 1 => decide (bt p k = 48)
/-- The numbers of the first bytes. -/
def grpL (s p : ByteArray) : Nat → List Int
  | 0 => []
  | k + 1 => if bt p k = 48 then (if ins p k = true then (grpL s p k).dropLast ++ [10 * (grpL s p k).getLastD 0 + (bt s k - 48)] else grpL s p k ++ [bt s k - 48]) else grpL s p k
def runAt (p : ByteArray) : Nat → Nat
  | 0 => 0
  | k + 1 => if bt p k = 48 then runAt p k + 1 else 0
theorem grp_skip {s p : ByteArray} {k : Nat} (h : ¬ bt p k = 48) : grpL s p (k + 1) = grpL s p k := by simp only [grpL]; rw [if_neg h]
theorem grp_new {s p : ByteArray} {k : Nat} (h : bt p k = 48) (g : ins p k = false) : grpL s p (k + 1) = grpL s p k ++ [bt s k - 48] := by
  simp only [grpL]; rw [if_pos h, g]; simp
theorem grp_on {s p : ByteArray} {k : Nat} {X : List Int} {v : Int} (h : bt p k = 48) (g : ins p k = true) (e : grpL s p k = X ++ [v]) : grpL s p (k + 1) = X ++ [10 * v + (bt s k - 48)] := by
  simp only [grpL]; rw [if_pos h, if_pos g, e]; simp
theorem grp_len (s p : ByteArray) : ∀ k, (grpL s p k).length ≤ k
  | 0 => by simp [grpL]
  | k + 1 => by
    have ih := grp_len s p k
    simp only [grpL]
    split
    · split
      · simp; omega
      · simp; omega
    · omega
theorem grp_last (s p : ByteArray) : ∀ k, likeTo s p k → ins p k = true → ∃ X v, grpL s p k = X ++ [v] ∧ 0 ≤ v ∧ v < 10 ^ runAt p k ∧ 1 ≤ runAt p k
  | 0, _, h => by cases h
  | k + 1, hl, h => by
    have hb : bt p k = 48 := of_decide_eq_true h
    have hd := (hl k (by omega)).1 hb
    have hr : runAt p (k + 1) = runAt p k + 1 := by simp only [runAt]; rw [if_pos hb]
    cases g : ins p k with
    | false =>
      refine ⟨_, _, grp_new hb g, by omega, ?_, by omega⟩
      have : (1 : Int) ≤ 10 ^ runAt p k := Int.pow_pos (by omega)
      rw [hr, Int.pow_succ]
      omega
    | true =>
      obtain ⟨X, v, e, h0, h1, _⟩ := grp_last s p k (fun j hj => hl j (by omega)) g
      refine ⟨_, _, grp_on hb g e, by omega, ?_, by omega⟩
      rw [hr, Int.pow_succ]
      omega
theorem ext_snoc (s : ByteArray) (i n : Nat) (h : i + n < s.size) : (s.extract i (i + (n + 1))).data.toList = (s.extract i (i + n)).data.toList ++ [s[i + n]] := by
  have e : ∀ j, (s.extract i (i + j)).data.toList = (s.data.toList.drop i).take j := fun j => by
    simp [ByteArray.data_extract, Array.toList_extract]
  rw [e, e, List.take_succ_eq_append_getElem (by simp; omega)]
  simp
  rfl
/-- A number of the pattern is the number of its bytes. -/
theorem grp_run (s p : ByteArray) (i : Nat) (h0 : ins p i = false) : ∀ n, 1 ≤ n → i + n ≤ s.size → (∀ j, i ≤ j → j < i + n → bt p j = 48) → grpL s p (i + n) = grpL s p i ++ [numL (s.extract i (i + n)).data.toList]
  | 0, h, _, _ => absurd h (by omega)
  | 1, _, hs, hp => by
    rw [show i + 1 = i + (0 + 1) by omega, ext_snoc s i 0 (by omega), grp_new (by exact hp i (by omega) (by omega)) h0]
    have := bt_of s (i + 0) (by omega)
    simp [numL]
    simpa using this
  | n + 2, _, hs, hp => by
    have ih := grp_run s p i h0 (n + 1) (by omega) (by omega) fun j a b => hp j a (by omega)
    have hi : ins p (i + (n + 1)) = true := decide_eq_true (hp (i + n) (by omega) (by omega))
    have e := grp_on (hp (i + (n + 1)) (by omega) (by omega)) hi ih
    rw [show i + (n + 2) = i + (n + 1) + 1 by omega, e, show i + (n + 1) + 1 = i + (n + 1 + 1) by omega, ext_snoc s i (n + 1) (by omega), numL_snoc, ← bt_of s (i + (n + 1)) (by omega)]
end Ap
end Go.Proofs.YtmgehfakcnmdnaaGreatDoor
/-
  Reading numbers between separators: fields of package moment and its function literal.
-/
namespace Go.Proofs.YtmgehfakcnmdnaaGreatDoor
namespace Ap
open Go.RowKit Lw

/-- What the literal captures: the two strings, the numbers, and whether the byte before was one of a number. -/
structure FS (s p : ByteArray) (w0 : World) (B : Nat) (L : List Int) (b : Bool) (wr : World) : Prop where
  cs : wr.heap[B]? = some (.cells #[.string s] 9 (0, 0))
  cp : wr.heap[B + 1]? = some (.cells #[.string p] 9 (0, 0))
  co : ∃ v, wr.heap[B + 2]? = some (.cells #[v] 99 (0, 0)) ∧ wr.ownsRow (B + 4) 3 1 v L.length (L.map (Value.int .i64))
  ci : wr.heap[B + 3]? = some (.cells #[.bool b] 4 (0, 0))
  below : Below B w0 wr
theorem owns_set {w : World} {base : Nat} {e : TypeId} {g n cap : Nat} {xs : List Value} {u : Value} (h : w.ownsRow base e 1 (.slice (some ⟨g, 0, none⟩) n cap) n (xs ++ [u])) (u' : Value) :
    (w.setCell ⟨g, xs.length, none⟩ u').ownsRow base e 1 (.slice (some ⟨g, 0, none⟩) n cap) n (xs ++ [u']) := by
  obtain ⟨h1, h2⟩ := h
  refine ⟨by simpa using h1, ?_⟩
  rcases h2 with ⟨h2, _⟩ | ⟨g', cap', cur, hv, hg, hh, hc1, hc2, hsz, ht⟩
  · cases h2
  · cases hv
    refine Or.inr ⟨g, cap, cur.set! xs.length u', rfl, hg, ?_, hc1, hc2, by simpa using hsz, ?_⟩
    · have hlt := lt_of_block hh
      have h' : w.heap[g] = .cells cur e (0, 0) := by simpa [Array.getElem?_eq_getElem hlt] using hh
      show (w.heap.modify g _)[g]? = _
      rw [Array.getElem?_eq_getElem (by simpa using hlt), Array.getElem_modify_self, h']
      rfl
    · have hn : n = xs.length + 1 := by simpa using h1.symm
      subst hn
      simp only [Nat.mul_one] at ht ⊢
      rw [Array.set!_eq_setIfInBounds, Array.toList_setIfInBounds]
      have hl : xs.length < cur.toList.length := by simp at hsz ⊢; omega
      rw [List.take_set, ht]
      simp
theorem FS.flag {s p : ByteArray} {w0 : World} {B : Nat} {L : List Int} {b : Bool} {wr : World} (h : FS s p w0 B L b wr) (b' : Bool) : FS s p w0 B L b' (wr.setCell ⟨B + 3, 0, none⟩ (.bool b')) := by
  obtain ⟨h1, h2, ⟨v, h3, h4⟩, h5, h6⟩ := h
  exact ⟨by rw [Below.heap_setCell _ _ _ _ (by simp <;> omega)]; exact h1, by rw [Below.heap_setCell _ _ _ _ (by simp <;> omega)]; exact h2,
    ⟨v, by rw [Below.heap_setCell _ _ _ _ (by simp)]; exact h3, ownsRow_setCell_below h4 (by simp) _⟩, one_setCell h5, h6.setCell (by simp <;> omega) _⟩
theorem FS.drewN {s p : ByteArray} {w0 : World} {B : Nat} {L : List Int} {b : Bool} {wr : World} (h : FS s p w0 B L b wr) (n : Nat) : FS s p w0 B L b (wr.drewN n) := by
  obtain ⟨h1, h2, ⟨v, h3, h4⟩, h5, h6⟩ := h
  exact ⟨h1, h2, ⟨v, h3, h4⟩, h5, ⟨h6.os, h6.tape, h6.output, h6.size, h6.block⟩⟩
theorem FS.drew {s p : ByteArray} {w0 : World} {B : Nat} {L : List Int} {b : Bool} {wr : World} (h : FS s p w0 B L b wr) : FS s p w0 B L b wr.drew := by
  obtain ⟨h1, h2, ⟨v, h3, h4⟩, h5, h6⟩ := h
  exact ⟨h1, h2, ⟨v, h3, h4⟩, h5, h6.drew⟩
theorem FS.app {s p : ByteArray} {w0 : World} {B : Nat} {L : List Int} {b : Bool} {wr w1 : World} {v v' : Value} {o : Obj} {z : Int} (h : FS s p w0 B L b wr) (hv : wr.heap[B + 2]? = some (.cells #[v] 99 (0, 0))) (hown : wr.ownsRow (B + 4) 3 1 v L.length (L.map (Value.int .i64)))
    (h1 : w1.ownsRow (B + 4) 3 1 v' (L.length + 1) (L.map (Value.int .i64) ++ [.int .i64 z])) (hg : (wr.alloc o).grownBy w1 v.ownBlock) : FS s p w0 B (L ++ [z]) b (w1.setCell ⟨B + 2, 0, none⟩ v') := by
  obtain ⟨a1, a2, _, a5, a6⟩ := h
  have lt3 := lt_of_block a5
  have hne : ∀ k, k < B + 4 → some k ≠ v.ownBlock := fun k hk e => by have := (hown.lt k e.symm).1; omega
  have hk : ∀ k, k < B + 4 → w1.heap[k]? = wr.heap[k]? := fun k hk => by
    rw [hg.block k (by simp <;> omega) (hne k hk)]
    exact heap_alloc_old wr o (by omega)
  refine ⟨by rw [Below.heap_setCell _ _ _ _ (by simp <;> omega), hk _ (by omega)]; exact a1, by rw [Below.heap_setCell _ _ _ _ (by simp), hk _ (by omega)]; exact a2,
    ⟨v', one_setCell (by rw [hk _ (by omega)]; exact hv), ?_⟩, by rw [Below.heap_setCell _ _ _ _ (by simp), hk _ (by omega)]; exact a5, ?_⟩
  · have := ownsRow_setCell_below h1 (a := ⟨B + 2, 0, none⟩) (by simp) v'
    simpa using this
  · exact ((a6.alloc (by omega) o).grown hg (by simp <;> omega) (fun k e => by have := (hown.lt k e).1; omega)).setCell (by simp <;> omega) _
theorem FS.app_cells {s p : ByteArray} {w0 : World} {B : Nat} {L : List Int} {b : Bool} {wr w1 : World} {v v' : Value} {o : Obj} (h : FS s p w0 B L b wr) (hv : wr.heap[B + 2]? = some (.cells #[v] 99 (0, 0))) (hown : wr.ownsRow (B + 4) 3 1 v L.length (L.map (Value.int .i64)))
    (hg : (wr.alloc o).grownBy w1 v.ownBlock) : w1.cell? ⟨B + 2, 0, none⟩ = some v ∧ w1.frozen? ⟨B + 2, 0, none⟩ = false ∧ (w1.setCell ⟨B + 2, 0, none⟩ v').cell? ⟨B + 3, 0, none⟩ = some (.bool b) ∧ (w1.setCell ⟨B + 2, 0, none⟩ v').frozen? ⟨B + 3, 0, none⟩ = false ∧
      ((w1.setCell ⟨B + 2, 0, none⟩ v').setCell ⟨B + 3, 0, none⟩ (.bool true)).heap[B + 2]? = some (.cells #[v'] 99 (0, 0)) := by
  obtain ⟨a1, a2, _, a5, a6⟩ := h
  have lt3 := lt_of_block a5
  have hne : ∀ k, k < B + 4 → some k ≠ v.ownBlock := fun k hk e => by have := (hown.lt k e.symm).1; omega
  have hk : ∀ k, k < B + 4 → w1.heap[k]? = wr.heap[k]? := fun k hk => by
    rw [hg.block k (by simp; omega) (hne k hk)]
    exact heap_alloc_old wr o (by omega)
  have h2 : w1.heap[B + 2]? = some (.cells #[v] 99 (0, 0)) := by rw [hk _ (by omega)]; exact hv
  have h3 : (w1.setCell ⟨B + 2, 0, none⟩ v').heap[B + 3]? = some (.cells #[.bool b] 4 (0, 0)) := by
    rw [Below.heap_setCell _ _ _ _ (by simp), hk _ (by omega)]; exact a5
  exact ⟨cell_of_one h2, free_of_one h2, cell_of_one h3, free_of_one h3, by rw [Below.heap_setCell _ _ _ _ (by simp)]; exact one_setCell h2⟩
theorem FS.put {s p : ByteArray} {w0 : World} {B : Nat} {X : List Int} {u : Int} {b : Bool} {wr : World} {g n cap : Nat} (h : FS s p w0 B (X ++ [u]) b wr) (hv : wr.heap[B + 2]? = some (.cells #[.slice (some ⟨g, 0, none⟩) n cap] 99 (0, 0))) (u' : Int) :
    n = X.length + 1 ∧ wr.cell? ⟨g, X.length, none⟩ = some (.int .i64 u) ∧ wr.frozen? ⟨g, X.length, none⟩ = false ∧ B + 4 ≤ g ∧ FS s p w0 B (X ++ [u']) b (wr.setCell ⟨g, X.length, none⟩ (.int .i64 u')) := by
  obtain ⟨a1, a2, ⟨v, a3, a4⟩, a5, a6⟩ := h
  rw [hv] at a3
  have a3' : v = .slice (some ⟨g, 0, none⟩) n cap := by simpa using a3.symm
  subst a3'
  have hn : n = X.length + 1 := by
    rcases a4.2 with ⟨e, _⟩ | ⟨g', cap', cur, e, _⟩
    · cases e
    · cases e; simp
  have ml : (X ++ [u]).map (Value.int .i64) = X.map (Value.int .i64) ++ [.int .i64 u] := by simp
  have ll : (X ++ [u]).length = n := by simp; omega
  rw [ml, ll] at a4
  have ce := a4.cells (g := g) rfl X.length (.int .i64 u) (by simp)
  have ae : (⟨g, 0, none⟩ : Addr).add X.length = ⟨g, X.length, none⟩ := by
    unfold Addr.add
    split
    · simp [*]
    · simp
  rw [ae] at ce
  have hgb := (a4.lt g rfl).1
  have hfz : wr.frozen? ⟨g, X.length, none⟩ = false := by
    rcases a4.2 with ⟨e, _⟩ | ⟨g', cap', cur, e, _, hh, _, _, hs, _⟩
    · cases e
    · cases e
      simp [World.frozen?, hh]
  have st := owns_set a4 (.int .i64 u')
  rw [List.length_map] at st
  refine ⟨hn, ce, hfz, hgb, by rw [Below.heap_setCell _ _ _ _ (by simp; omega)]; exact a1, by rw [Below.heap_setCell _ _ _ _ (by simp; omega)]; exact a2,
    ⟨.slice (some ⟨g, 0, none⟩) n cap, by rw [Below.heap_setCell _ _ _ _ (by simp; omega)]; exact hv, ?_⟩, by rw [Below.heap_setCell _ _ _ _ (by simp; omega)]; exact a5, a6.setCell (by simp; omega) _⟩
  have e1 : (X ++ [u']).map (Value.int .i64) = X.map (Value.int .i64) ++ [.int .i64 u'] := by simp
  have e2 : (X ++ [u']).length = n := by simp; omega
  rw [e1, e2]
  exact st
set_option maxRecDepth 100000 in
set_option maxHeartbeats 1000000 in
theorem read_sep (s p : ByteArray) (w0 w : World) (B : Nat) (L : List Int) (b : Bool) (k : Nat) (hs : k < s.size) (hp : k < p.size) (hS : FS s p w0 B L b w) (hb : ¬ bt p k = 48) :
    Calls Tryz.prog 91 #[.int .i64 k, .pointer (some ⟨B, 0, none⟩), .pointer (some ⟨B + 1, 0, none⟩), .pointer (some ⟨B + 3, 0, none⟩), .pointer (some ⟨B + 2, 0, none⟩)] w fun e w' => e = .returned (.bool (decide (okAt s p k))) ∧ FS s p w0 B L false w' := by
  have c0 := cell_of_one hS.cs
  have c1 := cell_of_one hS.cp
  have c3 := cell_of_one hS.ci
  have g3 := free_of_one hS.ci
  have S1 := Lib.hid (hS.flag false)
  have O := Lib.hid (show okAt s p k ↔ (s[k].toNat : Int) = (p[k].toNat : Int) by unfold okAt; rw [bt_of s k hs, bt_of p k hp]; rw [bt_of p k hp] at hb; exact ⟨fun g => g.2 hb, fun g => ⟨fun h => absurd h hb, fun _ => g⟩⟩)
  rw [bt_of p k hp] at hb
  have i0 : (k : Int) < (s.size : Int) := by omega
  have i1 : (k : Int) < (p.size : Int) := by omega
  have bb := byte_bd s[k]
  clear hS
  have D := Lib.hid (show ∀ v : Bool, v = ((s[k].toNat : Int) == (p[k].toNat : Int)) → v = decide (okAt s p k) from fun v h => by rw [h, Bool.eq_iff_iff, beq_iff_eq, decide_eq_true_iff]; exact O.out.symm)
  go_enter Tryz.func91, Tryz.ntmps91
  go_wp2
  all_goals
    go_quiet (fail)
    go_wp2
    go_ret
    exact ⟨ret_b (D.out _ rfl), S1.out.drewN _⟩
theorem info_int : (Tryz.prog.info? 3).map (fun i => (i.zero, i.size, i.bytes)) = some (some (.int .i64 0), 1, 8) := by kernel_rfl
set_option maxRecDepth 100000 in
set_option maxHeartbeats 2000000 in
theorem read_on (s p : ByteArray) (w0 w : World) (B : Nat) (X : List Int) (v : Int) (k : Nat) (hs : k < s.size) (hp : k < p.size) (hS : FS s p w0 B (X ++ [v]) true w) (hb : bt p k = 48) (v0 : 0 ≤ v) (v1 : v < 1000000000) (hX : X.length ≤ 1000) :
    Calls Tryz.prog 91 #[.int .i64 k, .pointer (some ⟨B, 0, none⟩), .pointer (some ⟨B + 1, 0, none⟩), .pointer (some ⟨B + 3, 0, none⟩), .pointer (some ⟨B + 2, 0, none⟩)] w fun e w' => e = .returned (.bool (decide (okAt s p k))) ∧ FS s p w0 B (X ++ [10 * v + (bt s k - 48)]) true w' := by
  have c0 := cell_of_one hS.cs
  have c1 := cell_of_one hS.cp
  have c3 := cell_of_one hS.ci
  obtain ⟨vo, hv, hown⟩ := hS.co
  obtain ⟨g, cap, rfl, hg1, hg2⟩ := hown.form (by simp)
  have c2 := cell_of_one hv
  obtain ⟨hn, ce, hf, hgb, hput⟩ := hS.drew.put hv (10 * v + (s[k].toNat : Int) - 48)
  replace ce : w.cell? ⟨g, X.length, none⟩ = some (.int .i64 v) := ce
  replace hf : w.frozen? ⟨g, X.length, none⟩ = false := hf
  have O := Lib.hid (show okAt s p k ↔ 48 ≤ (s[k].toNat : Int) ∧ (s[k].toNat : Int) ≤ 57 by unfold okAt; rw [bt_of s k hs]; exact ⟨fun g => g.1 hb, fun g => ⟨fun _ => g, fun h => absurd hb h⟩⟩)
  rw [bt_of p k hp] at hb
  have ev : 10 * v + (bt s k - 48) = 10 * v + (s[k].toNat : Int) - 48 := by rw [bt_of s k hs]; omega
  rw [ev]
  rw [hn] at c2
  have Hput := Lib.hid hput
  have bb := byte_bd s[k]
  have i0 : (k : Int) < (s.size : Int) := by omega
  have i1 : (k : Int) < (p.size : Int) := by omega
  clear hS hv hown hn hput hg1 hgb ev
  have D := Lib.hid (show ∀ b : Bool, (b = true ↔ 48 ≤ (s[k].toNat : Int) ∧ (s[k].toNat : Int) ≤ 57) → b = decide (okAt s p k) from fun b h => by rw [Bool.eq_iff_iff, h, decide_eq_true_iff]; exact O.out.symm)
  have i2 : (X.length : Int) < (X.length : Int) + 1 := by omega
  have i3 : 0 ≤ (X.length : Int) := by omega
  by_cases d1 : 48 ≤ (s[k].toNat : Int)
  · have E := Lib.hid (D.out (decide ((s[k].toNat : Int) ≤ 57)) (by rw [decide_eq_true_iff]; exact ⟨fun h => ⟨d1, h⟩, fun h => h.2⟩))
    clear D O
    go_enter Tryz.func91, Tryz.ntmps91
    go_wp2
    go_still_tail 13, (by kernel_rfl)
    repeat still_step
    try refine wpStill_nil ?_
    change wpList _ _ _ _ _ w.drew
    go_wp2_with fail
    go_ret
    exact ⟨ret_b E.out, Hput.out⟩
  · have E := Lib.hid (D.out false (by simp; omega))
    clear D O
    go_enter Tryz.func91, Tryz.ntmps91
    go_wp2
    go_still_tail 13, (by kernel_rfl)
    repeat still_step
    try refine wpStill_nil ?_
    change wpList _ _ _ _ _ w.drew
    go_wp2_with fail
    go_ret
    exact ⟨ret_b E.out, Hput.out⟩
set_option maxRecDepth 100000 in
set_option maxHeartbeats 2000000 in
theorem read_new (s p : ByteArray) (w0 w : World) (B : Nat) (L : List Int) (k : Nat) (hs : k < s.size) (hp : k < p.size) (hS : FS s p w0 B L false w) (hb : bt p k = 48) (hX : L.length ≤ 1000) :
    Calls Tryz.prog 91 #[.int .i64 k, .pointer (some ⟨B, 0, none⟩), .pointer (some ⟨B + 1, 0, none⟩), .pointer (some ⟨B + 3, 0, none⟩), .pointer (some ⟨B + 2, 0, none⟩)] w fun e w' => e = .returned (.bool (decide (okAt s p k))) ∧ FS s p w0 B (L ++ [bt s k - 48]) true w' := by
  obtain ⟨i0', hi, hz0, hz1, hz2⟩ := info_parts info_int
  have c0 := cell_of_one hS.cs
  have c1 := cell_of_one hS.cp
  have c3 := cell_of_one hS.ci
  obtain ⟨v, hv, hown⟩ := hS.co
  have c2 := cell_of_one hv
  have O := Lib.hid (show okAt s p k ↔ 48 ≤ (s[k].toNat : Int) ∧ (s[k].toNat : Int) ≤ 57 by unfold okAt; rw [bt_of s k hs]; exact ⟨fun g => g.1 hb, fun g => ⟨fun _ => g, fun h => absurd hb h⟩⟩)
  have ev : bt s k - 48 = (s[k].toNat : Int) - 48 := by rw [bt_of s k hs]
  rw [ev]
  rw [bt_of p k hp] at hb
  have bb := byte_bd s[k]
  have i0 : (k : Int) < (s.size : Int) := by omega
  have i1 : (k : Int) < (p.size : Int) := by omega
  have D := Lib.hid (show ∀ b : Bool, (b = true ↔ 48 ≤ (s[k].toNat : Int) ∧ (s[k].toNat : Int) ≤ 57) → b = decide (okAt s p k) from fun b h => by rw [Bool.eq_iff_iff, h, decide_eq_true_iff]; exact O.out.symm)
  have i2 : (L.length : Int) < (L.length : Int) + 1 := by omega
  have i3 : 0 ≤ (L.length : Int) := by omega
  have HS := Lib.hid hS
  have HV := Lib.hid hv
  have HO := Lib.hid hown
  have hsz := lt_of_block hS.ci
  clear hS hv hown ev
  by_cases d1 : 48 ≤ (s[k].toNat : Int)
  all_goals
    have E : Hid (∃ r : Bool, r = (decide (48 ≤ (s[k].toNat : Int)) && decide ((s[k].toNat : Int) ≤ 57)) ∧ r = decide (okAt s p k)) := Lib.hid ⟨_, rfl, D.out _ (by simp)⟩
    clear D O
    go_enter Tryz.func91, Tryz.ntmps91
    go_wp2_with (at_builtin; refine wpList_append_own _ rfl (.tmp 32) (.tmp 33) 99 rfl (B + 4) 3 i0' (.int .i64 0) 1 8 Tryz.underlying99 hi hz0 hz1 hz2 rfl (by decide) _ _ _ rfl (HO.out.alloc _) ⟨w.heap.size, 0, none⟩ 1 1 [.int .i64 0] rfl rfl (by intro j u hj; match j, hj with | 0, hj => (simp at hj; subst hj; simp [Addr.add])) (by intro u hu; simp at hu; subst hu; rfl) (by unfold maxLen; omega) (by omega) (by simp; omega) ?_)
    intro v' w1 hown' hgrow _
    obtain ⟨g, cap, rfl, hg1, hg2⟩ := hown'.form (by omega)
    obtain ⟨e1, e2, e3, e4, e5⟩ := HS.out.app_cells (v' := .slice (some ⟨g, 0, none⟩) (L.length + 1) cap) HV.out HO.out hgrow
    have S2 := (HS.out.app HV.out HO.out hown' hgrow).flag true
    have e6 := cell_of_one e5
    have e7 := cell_of_one S2.cs
    have z0 : IntKind.i64.wrap 0 = 0 := rfl
    obtain ⟨hn, ce, hf, hgb, hput⟩ := S2.drew.put e5 ((s[k].toNat : Int) - 48)
    have ce : (((w1.setCell ⟨B + 2, 0, none⟩ (.slice (some ⟨g, 0, none⟩) (L.length + 1) cap)).setCell ⟨B + 3, 0, none⟩ (.bool true))).cell? ⟨g, L.length, none⟩ = some (.int .i64 0) := ce
    have hf : (((w1.setCell ⟨B + 2, 0, none⟩ (.slice (some ⟨g, 0, none⟩) (L.length + 1) cap)).setCell ⟨B + 3, 0, none⟩ (.bool true))).frozen? ⟨g, L.length, none⟩ = false := hf
    have Hput := Lib.hid hput
    clear hown' hgrow hg1 hg2 S2 hput hn hgb e5
    go_wp2
    generalize ((w1.setCell ⟨B + 2, 0, none⟩ (.slice (some ⟨g, 0, none⟩) (L.length + 1) cap)).setCell ⟨B + 3, 0, none⟩ (.bool true)) = W at *
    go_still_tail 13, (by kernel_rfl)
    repeat still_step
    try refine wpStill_nil ?_
    change wpList _ _ _ _ _ W.drew
    go_wp2_with fail
    go_ret
    obtain ⟨r, hr1, hr2⟩ := E.out
    exact ⟨ret_b (by rw [← hr2, hr1]; simp [d1]; try omega), Hput.out⟩
end Ap
end Go.Proofs.YtmgehfakcnmdnaaGreatDoor
/-
  Limbs in memory.
-/
namespace Go.Proofs.YtmgehfakcnmdnaaGreatDoor
namespace Wd
open Go.RowKit Lw

abbrev u4 (x : Nat) : Value := .int .u32 (x : Int)
abbrev us (l : List Nat) : List Value := l.map u4
/-- A slice with these limbs. -/
structure Lim (w : World) (a : Option Addr) (n cap : Nat) (l : List Nat) : Prop where
  len : l.length = n
  lb : Lb l
  cp : n ≤ cap
  sm : n ≤ 1000000
  row : 0 < n → ∃ b off, a = some ⟨b, off, none⟩ ∧ b < w.heap.size ∧ w.rangeAt b off (us l)
def LimV (w : World) (v : Value) (l : List Nat) : Prop := ∃ a n cap, v = .slice a n cap ∧ Lim w a n cap l
theorem Lim.below {w w' : World} {a : Option Addr} {n cap : Nat} {l : List Nat} (h : Lim w a n cap l) (hb : Below w.heap.size w w') : Lim w' a n cap l :=
  ⟨h.len, h.lb, h.cp, h.sm, fun p => by
    obtain ⟨b, off, e, lt, r⟩ := h.row p
    have := hb.size
    exact ⟨b, off, e, by omega, fun j v hv => (hb.cell (p := ⟨b, off + j, none⟩) lt).trans (r j v hv)⟩⟩
theorem LimV.below {w w' : World} {v : Value} {l : List Nat} (h : LimV w v l) (hb : Below w.heap.size w w') : LimV w' v l := by
  obtain ⟨a, n, cap, e, h⟩ := h
  exact ⟨a, n, cap, e, h.below hb⟩
theorem Lim.nil (w : World) : Lim w none 0 0 [] := ⟨rfl, fun _ h => by simp at h, Nat.le_refl _, by omega, fun h => absurd h (by omega)⟩
theorem Lim.cell {w : World} {b off n cap : Nat} {l : List Nat} (h : Lim w (some ⟨b, off, none⟩) n cap l) {k : Nat} (hk : k < l.length) : w.cell? ⟨b, off + k, none⟩ = some (.int .u32 (l[k] : Int)) := by
  obtain ⟨b', off', e, _, r⟩ := h.row (by have := h.len; omega)
  cases e
  exact r k _ (by simp [hk])
theorem Lim.take {w : World} {a : Option Addr} {n cap : Nat} {l : List Nat} (h : Lim w a n cap l) {k : Nat} (hk : k ≤ n) : Lim w a k cap (l.take k) := by
  have hl := h.len
  have := h.cp
  have := h.sm
  refine ⟨by rw [List.length_take]; omega, fun x hx => h.lb x (List.mem_of_mem_take hx), by omega, by omega, fun p => ?_⟩
  obtain ⟨b, off, e, lt, r⟩ := h.row (by omega)
  refine ⟨b, off, e, lt, fun j v hv => r j v ?_⟩
  rw [List.getElem?_map] at hv ⊢
  by_cases hj : j < k
  · rwa [List.getElem?_take_of_lt hj] at hv
  · rw [List.getElem?_eq_none (by rw [List.length_take]; omega)] at hv
    simp at hv
theorem size_setCells (b : Nat) : ∀ (vs : List Value) (o : Nat) (w : World), (w.setCells b o vs).heap.size = w.heap.size
  | [], _, _ => rfl
  | v :: vs, o, w => by
    rw [World.setCells, size_setCells b vs]
    simp
theorem Lim.setCells {w : World} {a : Option Addr} {n cap : Nat} {l : List Nat} (h : Lim w a n cap l) {c : Nat} (hne : ∀ b off, a = some ⟨b, off, none⟩ → b ≠ c) (o : Nat) (vs : List Value) : Lim (w.setCells c o vs) a n cap l :=
  ⟨h.len, h.lb, h.cp, h.sm, fun p => by
    obtain ⟨b, off, e, lt, r⟩ := h.row p
    exact ⟨b, off, e, by rw [size_setCells]; exact lt, World.rangeAt_setCells_apart r c o vs (Or.inl (hne b off e))⟩⟩
theorem Lim.trim {w : World} {a : Option Addr} {n cap : Nat} {l : List Nat} (h : Lim w a n cap l) : Lim w a (canon (val l)).length cap (canon (val l)) := by
  have := h.take (k := (canon (val l)).length) (by rw [← h.len]; exact canon_le l h.lb)
  rwa [← canon_take l h.lb] at this
theorem addr_zero (a : Addr) : a.add 0 = a := by simp [Addr.add]
theorem und_us : Tryz.prog.underlying 27 = some (.slice 91) := Tryz.underlying27
theorem el_us : Tryz.prog.underlying 27 = some (.slice (Tryz.prog.elem 27)) := by kernel_rfl
theorem sz_us (w : World) : (sizeOf (Tryz.prog.elem 27)).run Tryz.prog w = .ok 1 w := by
  have e : (Tryz.prog.info? (Tryz.prog.elem 27)).isSome = true := by kernel_rfl
  have c : Tryz.prog.cellsOf (Tryz.prog.elem 27) = 1 := by kernel_rfl
  generalize Tryz.prog.elem 27 = T at e c
  cases hi : Tryz.prog.info? T with
  | none => rw [hi] at e; cases e
  | some i => rw [run_sizeOf _ hi, c]
theorem take_run (a : Option Addr) (n cap k : Nat) (h : k ≤ cap) (w : World) :
    (Instr.slice 27 (.slice a n cap) none (some (.int .i64 (k : Int))) none).run Tryz.prog w = .ok (.slice a k cap) w := by
  rw [run_slice_h w _ a n cap el_us .i64 k (by omega) (by omega), sz_us]
  have e : sliced a 0 (k : Int).toNat cap 1 = .slice a k cap := by
    unfold sliced
    rw [Int.toNat_natCast, Nat.sub_zero, Nat.sub_zero]
    cases a <;> simp [addr_zero]
  simp only [Result.andThen, e]
end Wd
end Go.Proofs.YtmgehfakcnmdnaaGreatDoor
/-
  The walks of trim, made and From of package wide.
-/
namespace Go.Proofs.YtmgehfakcnmdnaaGreatDoor
namespace Wd
open Go.RowKit Lw

theorem u32_z {l : List Nat} {k : Nat} (h : k < l.length) (e : ((l[k] : Nat) : Int) = 0) : l[k] = 0 := by omega
set_option maxRecDepth 100000 in
set_option maxHeartbeats 1000000 in
theorem trim_walk (l : List Nat) (a : Option Addr) (n cap : Nat) (w : World) (hL : Lim w a n cap l) :
    Calls Tryz.prog 106 #[.slice a n cap] w fun e w' => e = .returned (.slice a (canon (val l)).length cap) ∧ w = w' := by
  have HL := Lib.hid hL
  have hlen := hL.len
  have hcp := hL.cp
  have hsm := hL.sm
  clear hL
  go_enter Tryz.func106, Tryz.ntmps106
  go_wp2
  go_loopw [3] (fun i wr => ∃ k : Nat, k ≤ n ∧ i = .int .i64 k ∧ wr = w ∧ ∀ j (h : j < l.length), k ≤ j → l[j] = 0) (fun i _ => (intOf i).toNat)
  case atStart => exact ⟨n, Nat.le_refl _, rfl, rfl, fun j h g => by omega⟩
  case round =>
    obtain ⟨k, hk, rfl, rfl, hz⟩ := hrel
    have ht := take_run a n cap k (by omega)
    have fin : (k = 0 ∨ ∃ h : k - 1 < l.length, l[k - 1] ≠ 0) → Lim wr a k cap (canon (val l)) := fun g => by
      rw [← cut_canon HL.out.lb (by omega) hz g]
      exact HL.out.take hk
    have Fin := Lib.hid fin
    clear fin
    by_cases k0 : k = 0
    · subst k0
      clear hz
      go_wp2
      exact bodyPost_ret (results_tmp rfl _ _ _) rfl ⟨by rw [(Fin.out (Or.inl (by trivial))).len]; rfl, rfl⟩
    · by_cases kz : l[k - 1]'(by omega) = 0
      · have hz' : ∀ j (h : j < l.length), k - 1 ≤ j → l[j] = 0 := fun j h g => by
          by_cases e : j = k - 1
          · subst e; exact kz
          · exact hz j h (by omega)
        have Hz := Lib.hid hz'
        have hk1 : k - 1 < l.length := by omega
        obtain ⟨b, off, rfl, -, -⟩ := HL.out.row (by omega)
        have ce := HL.out.cell (k := k - 1) (by omega)
        rw [kz] at ce
        have e1 : IntKind.i64.wrap ((k : Int) - 1) = ((k - 1 : Nat) : Int) := by rw [IntWalk.i64_in _ (by omega)]; omega
        have k1 : (0 : Int) < (k : Int) := by omega
        have k2 : ((k - 1 : Nat) : Int) < (n : Int) := by omega
        clear hz hz' kz Fin ht
        go_wp2
        go_roundw
        case rel => exact ⟨k - 1, by omega, by first | rfl | trivial, by first | rfl | trivial, Hz.out⟩
        case measure => simp [intOf]; omega
      · have lm := Fin.out (Or.inr ⟨by omega, kz⟩)
        have Lm := Lib.hid lm
        obtain ⟨b, off, rfl, -, -⟩ := HL.out.row (by omega)
        have ce := HL.out.cell (k := k - 1) (by omega)
        have kz' : ¬ ((l[k - 1]'(by omega) : Nat) : Int) = 0 := by omega
        have e1 : IntKind.i64.wrap ((k : Int) - 1) = ((k - 1 : Nat) : Int) := by rw [IntWalk.i64_in _ (by omega)]; omega
        have k1 : (0 : Int) < (k : Int) := by omega
        have k2 : ((k - 1 : Nat) : Int) < (n : Int) := by omega
        have k3 : k ≤ cap := by omega
        clear hz Fin lm
        go_wp2
        exact bodyPost_ret (results_tmp rfl _ _ _) rfl ⟨by rw [Lm.out.len]; rfl, rfl⟩
end Wd
end Go.Proofs.YtmgehfakcnmdnaaGreatDoor
/-
  The walk of made of package wide.
-/
namespace Go.Proofs.YtmgehfakcnmdnaaGreatDoor
namespace Wd
open Go.RowKit Lw

theorem infoW : (Tryz.prog.info? 29).map (·.size) = some 2 := by kernel_rfl
/-- The value of a whole number, whose limbs lie at or behind block B. -/
def Wide (B : Nat) (w : World) (V : Value) (z : Int) : Prop := ∃ a k cap, V = .agg #[.bool (decide (z < 0)), .slice a k cap] ∧ Lim w a k cap (canon z.natAbs) ∧ ∀ b off, a = some ⟨b, off, none⟩ → B ≤ b
theorem Wide.below {B : Nat} {w w' : World} {V : Value} {z : Int} (h : Wide B w V z) (hb : Below w.heap.size w w') : Wide B w' V z := by
  obtain ⟨a, k, cap, e, h, g⟩ := h
  exact ⟨a, k, cap, e, h.below hb, g⟩
theorem Wide.mono {B B' : Nat} {w : World} {V : Value} {z : Int} (h : Wide B w V z) (hb : B' ≤ B) : Wide B' w V z := by
  obtain ⟨a, k, cap, e, h, g⟩ := h
  exact ⟨a, k, cap, e, h, fun b off e => Nat.le_trans hb (g b off e)⟩
/-- The number with a sign. -/
def sgn (neg : Bool) (n : Nat) : Int := if neg then -(n : Int) else n
theorem sgn_abs (neg : Bool) (n : Nat) : (sgn neg n).natAbs = n := by cases neg <;> simp [sgn]
theorem sgn_neg (neg : Bool) (n : Nat) : decide (sgn neg n < 0) = (neg && decide (0 < n)) := by
  cases neg
  · simp [sgn]
  · simp only [sgn]; rw [Bool.true_and]; congr 1; simp
theorem canon_lenpos (n : Nat) : 0 < (canon n).length ↔ 0 < n := by
  have := (canon_spec n).2.2.1
  constructor
  · intro h; rcases Nat.eq_zero_or_pos n with e | e
    · rw [this.2 e] at h; simp at h
    · exact e
  · intro h; rcases List.length_pos_iff.2 (fun e => by have := this.1 e; omega) with h; exact h
/-- What made returns: the same limbs, trimmed. -/
def MadePost (w : World) (a : Option Addr) (l : List Nat) (cap : Nat) (z : Int) (e : Ending) (w' : World) : Prop := e = .returned (.tuple #[.agg #[.bool (decide (z < 0)), .slice a (canon (val l)).length cap], .int .i64 0]) ∧ Lim w' a (canon (val l)).length cap (canon (val l)) ∧ Below w.heap.size w w'
theorem made_pick (neg : Bool) (k : Nat) (l : List Nat) (h : (canon (val l)).length = k) : (if neg = true then decide ((0 : Int) < (k : Int)) else false) = decide (sgn neg (val l) < 0) := by
  rw [sgn_neg]
  have := canon_lenpos (val l)
  cases neg
  · simp
  · simp only [if_true, Bool.true_and]; congr 1; simp; omega
set_option maxRecDepth 100000 in
set_option maxHeartbeats 1000000 in
theorem made_walk (neg : Bool) (l : List Nat) (a : Option Addr) (n cap : Nat) (w : World) (hL : Lim w a n cap l) (hm : (canon (val l)).length ≤ 4096) :
    Calls Tryz.prog 72 #[.bool neg, .slice a n cap] w (MadePost w a l cap (sgn neg (val l))) := by
  have th := there_new w #[.bool false, .slice none 0 0] 29 2 (by simp)
  have hB := (Below.refl w.heap.size w).alloc (Nat.le_refl _) (.cells #[.bool false, .slice none 0 0] 29)
  have hL1 := hL.below hB
  have HW := fun w' (hb : Below w.heap.size w w') => hL.trim.below hb
  have HP := made_pick neg _ l rfl
  have HF : ∀ e w', e = .returned (.tuple #[.agg #[.bool (decide (sgn neg (val l) < 0)), .slice a (canon (val l)).length cap], .int .i64 0]) → Below w.heap.size w w' → MadePost w a l cap (sgn neg (val l)) e w' := fun e w' h1 h2 => ⟨h1, HW w' h2, h2⟩
  generalize hk : (canon (val l)).length = k at hm HF HP
  generalize hz : sgn neg (val l) = z at HF HP ⊢
  have hk2 : ¬ (4096 : Int) < (k : Int) := by omega
  have Hk := Lib.hid hk
  have HF' := Lib.hid HF
  have HP' := Lib.hid HP
  have Key := Lib.hid (fun (b : Bool) (g : b = decide (z < 0)) => (show World.rangeAt ((w.alloc (.cells #[.bool false, .slice none 0 0] 29)).setCells w.heap.size 0 [.bool b, .slice a k cap]) w.heap.size 0 [.bool (decide (z < 0)), .slice a k cap] by rw [← g]; exact World.rangeAt_setCells_same _ _ _ _ th))
  clear hm hL hk hz HW HF HP
  go_enter Tryz.func72, Tryz.ntmps72
  go_wp2_with fail
  refine (trim_walk l a n cap _ hL1).mono ?_
  rintro e w' ⟨rfl, rfl⟩
  rw [Hk.out]
  clear hL1
  go_wp2_with (refine wpList_store_mid rfl _ (.tmp 4) (.tmp 19) rfl w.heap.size 0 _ rfl rfl ?_ infoW ?_ ?_; exact th; simp [Value.oneCell'])
  all_goals
    refine bodyPost_ret (ret_cell_tmp Tryz.results72 _ _ w.heap.size [.bool (decide (z < 0)), .slice a k cap] _ rfl ?_ Tryz.underlying29 rfl infoW) rfl (HF'.out _ _ rfl (below_setCells _ (Nat.le_refl _) _ _ _ hB))
    refine Key.out _ ?_
    rw [← HP'.out]
    first | rw [if_pos ‹_›] | rw [if_neg ‹_›]
    try simp
end Wd
end Go.Proofs.YtmgehfakcnmdnaaGreatDoor
/-
  The walk of From of package wide.
-/
namespace Go.Proofs.YtmgehfakcnmdnaaGreatDoor
namespace Wd
open Go.RowKit Lw

theorem Lim.new (w : World) (l : List Nat) (t : TypeId) (cap : Nat) (hl : Lb l) (hc : l.length ≤ cap) (hs : l.length ≤ 1000000) : Lim (w.alloc (.cells (us l).toArray t)) (some ⟨w.heap.size, 0, none⟩) l.length cap l :=
  ⟨rfl, hl, hc, hs, fun _ => ⟨_, _, rfl, by simp, rangeAt_new w (us l) t⟩⟩
theorem two_val (n : Nat) (h : n < 18446744073709551616) : val [n % 4294967296, n / 4294967296] = n ∧ Lb [n % 4294967296, n / 4294967296] := by
  refine ⟨by simp only [val]; omega, fun x hx => ?_⟩
  simp only [List.mem_cons, List.not_mem_nil, or_false] at hx
  rcases hx with rfl | rfl <;> omega
theorem from_sgn (t : Int) : sgn (decide (t < 0)) t.natAbs = t := by
  by_cases h : t < 0 <;> simp [sgn, h] <;> omega
def FromPost (w : World) (z : Int) (e : Ending) (w' : World) : Prop := ∃ V, e = .returned V ∧ Wide w.heap.size w' V z ∧ Below w.heap.size w w'
set_option maxRecDepth 100000 in
set_option maxHeartbeats 1000000 in
theorem from_walk (t : Int) (w : World) (h0 : -9223372036854775808 ≤ t) (h1 : t < 9223372036854775808) :
    Calls Tryz.prog 44 #[.int .i64 t] w (FromPost w t) := by
  have th := there_new w #[.bool false, .slice none 0 0] 29 2 (by simp)
  have hB := (Below.refl w.heap.size w).alloc (Nat.le_refl _) (.cells #[.bool false, .slice none 0 0] 29)
  generalize hn : t.natAbs = n
  have hn64 : n < 18446744073709551616 := by omega
  obtain ⟨v1, v2⟩ := two_val n hn64
  have hL := Lim.new (w.alloc (.cells #[.bool false, .slice none 0 0] 29)) [n % 4294967296, n / 4294967296] 91 2 v2 (by simp) (by simp)
  have hM := made_walk (decide (t < 0)) _ _ 2 2 _ hL (by rw [v1]; exact Nat.le_trans (canon_len 2 n (by omega)) (by decide))
  rw [v1, show sgn (decide (t < 0)) n = t by rw [← hn]; exact from_sgn t] at hM
  have r1 : (IntKind.u32.wrap (n : Int)) = ((n % 4294967296 : Nat) : Int) := by rw [IntKind.wrap_u32]; omega
  have hM1 : Calls Tryz.prog 72 #[.bool (decide (t < 0)), .slice (some ⟨w.heap.size + 1, 0, none⟩) 2 2] ((w.alloc (.cells #[.bool false, .slice none 0 0] 29)).alloc (.cells #[.int .u32 ((n : Int) % 4294967296), .int .u32 ((n : Int) / 4294967296)] 91)) (MadePost ((w.alloc (.cells #[.bool false, .slice none 0 0] 29)).alloc (.cells #[.int .u32 ((n : Int) % 4294967296), .int .u32 ((n : Int) / 4294967296)] 91)) (some ⟨w.heap.size + 1, 0, none⟩) [n % 4294967296, n / 4294967296] 2 t) := by
    simpa [us, u4] using hM
  have hB1 := hB.alloc (by simp) (.cells #[.int .u32 ((n : Int) % 4294967296), .int .u32 ((n : Int) / 4294967296)] 91)
  have th1 := World.there_alloc th (.cells #[.int .u32 ((n : Int) % 4294967296), .int .u32 ((n : Int) / 4294967296)] 91)
  clear hM hL v2 hB th
  generalize hW : (w.alloc (.cells #[.bool false, .slice none 0 0] 29)).alloc (.cells #[.int .u32 ((n : Int) % 4294967296), .int .u32 ((n : Int) / 4294967296)] 91) = W at hM1 hB1 th1
  have hsz : W.heap.size = w.heap.size + 2 := by rw [← hW]; simp
  have HW := Lib.hid hW
  clear hW
  have main : ∀ e w2, MadePost W (some ⟨w.heap.size + 1, 0, none⟩) [n % 4294967296, n / 4294967296] 2 t e w2 → ∃ k, e = .returned (.tuple #[.agg #[.bool (decide (t < 0)), .slice (some ⟨w.heap.size + 1, 0, none⟩) k 2], .int .i64 0]) ∧ Hid (Lim w2 (some ⟨w.heap.size + 1, 0, none⟩) k 2 (canon t.natAbs) ∧ Below w.heap.size w w2 ∧ w2.there w.heap.size 0 2 ∧ w.heap.size + 2 ≤ w2.heap.size) := by
    rintro e w2 ⟨rfl, hV, hb⟩
    rw [v1, ← hn] at hV ⊢
    exact ⟨_, rfl, Lib.hid ⟨hV, below_then hB1 hb, there_below th1 hb (by omega), by have := hb.size; omega⟩⟩
  have fin : ∀ k (w2 : World), Lim w2 (some ⟨w.heap.size + 1, 0, none⟩) k 2 (canon t.natAbs) ∧ Below w.heap.size w w2 ∧ w2.there w.heap.size 0 2 ∧ w.heap.size + 2 ≤ w2.heap.size → ∀ vs, FromPost w t (.returned (.agg #[.bool (decide (t < 0)), .slice (some ⟨w.heap.size + 1, 0, none⟩) k 2])) ((w2.alloc (.cells vs 29)).setCells w.heap.size 0 [.bool (decide (t < 0)), .slice (some ⟨w.heap.size + 1, 0, none⟩) k 2]) := by
    rintro k w2 ⟨hV, hb, th, hs⟩ vs
    refine ⟨_, rfl, ⟨_, k, 2, rfl, (hV.below ((Below.refl _ w2).alloc (Nat.le_refl _) _)).setCells (fun b off e => by cases e; omega) _ _, fun b off e => by cases e; omega⟩, below_setCells _ (Nat.le_refl _) _ _ _ (hb.alloc (by omega) _)⟩
  have Main := Lib.hid main
  have Fin := Lib.hid fin
  clear main fin hB1 th1
  by_cases g : t < 0
  · have r2 : IntKind.u64.wrap t = t + 18446744073709551616 := by rw [IntKind.wrap_u64]; omega
    have r3 : IntKind.u64.wrap (-(t + 18446744073709551616)) = (n : Int) := by rw [IntKind.wrap_u64]; omega
    rw [show decide (t < 0) = true from decide_eq_true g] at hM1
    have dg : decide (t < 0) = true := decide_eq_true g
    have Dg := Lib.hid dg
    have HM1 := Lib.hid hM1
    clear hM1 dg
    go_enter Tryz.func44, Tryz.ntmps44
    go_wp2_with fail
    rw [HW.out]
    refine HM1.out.mono ?_
    intro e w2 he
    obtain ⟨k, rfl, hP⟩ := Main.out e w2 he
    clear he r2 r3 HM1
    have F2 := Lib.hid (Fin.out k w2 hP.out)
    obtain ⟨-, -, th, -⟩ := hP.out
    clear hP
    go_wp2_with (first | (refine wpList_store_new rfl _ (.tmp 4) (.tmp 22) rfl _ _ rfl rfl infoW rfl ?_ ?_; simp [Value.oneCell']) | (refine wpList_store_mid rfl _ (.tmp 2) (.tmp 24) rfl w.heap.size 0 _ rfl rfl ?_ infoW ?_ ?_; exact World.there_alloc th _; simp [Value.oneCell']))
    have F3 := F2.out
    rw [Dg.out] at F3
    exact bodyPost_ret (ret_cell Tryz.results44 _ _ w.heap.size [.bool true, .slice _ k 2] _ rfl (World.rangeAt_setCells_same _ _ _ _ (World.there_alloc th _)) Tryz.underlying29 rfl infoW) rfl (F3 _)
  · have r2 : IntKind.u64.wrap t = (n : Int) := by rw [IntKind.wrap_u64]; omega
    rw [show decide (t < 0) = false from decide_eq_false g] at hM1
    have dg : decide (t < 0) = false := decide_eq_false g
    have Dg := Lib.hid dg
    have HM1 := Lib.hid hM1
    clear hM1 dg
    go_enter Tryz.func44, Tryz.ntmps44
    go_wp2_with fail
    rw [HW.out]
    refine HM1.out.mono ?_
    intro e w2 he
    obtain ⟨k, rfl, hP⟩ := Main.out e w2 he
    clear he r2 HM1
    have F2 := Lib.hid (Fin.out k w2 hP.out)
    obtain ⟨-, -, th, -⟩ := hP.out
    clear hP
    rw [Dg.out]
    go_wp2_with (first | (refine wpList_store_new rfl _ (.tmp 4) (.tmp 22) rfl _ _ rfl rfl infoW rfl ?_ ?_; simp [Value.oneCell']) | (refine wpList_store_mid rfl _ (.tmp 2) (.tmp 24) rfl w.heap.size 0 _ rfl rfl ?_ infoW ?_ ?_; exact World.there_alloc th _; simp [Value.oneCell']))
    have F3 := F2.out
    rw [Dg.out] at F3
    exact bodyPost_ret (ret_cell Tryz.results44 _ _ w.heap.size [.bool false, .slice _ k 2] _ rfl (World.rangeAt_setCells_same _ _ _ _ (World.there_alloc th _)) Tryz.underlying29 rfl infoW) rfl (F3 _)
end Wd
end Go.Proofs.YtmgehfakcnmdnaaGreatDoor
/-
  The walks of check and Check of package wide.
-/
namespace Go.Proofs.YtmgehfakcnmdnaaGreatDoor
namespace Wd
open Go.RowKit Lw

/-- A row of whole numbers in memory, all of them valid. -/
structure WRow (w : World) (b n : Nat) (Z : Nat → Int) : Prop where
  lt : b < w.heap.size
  row : ∀ k, k < n → ∃ a m cap, w.cell? ⟨b, k * 2, none⟩ = some (.bool (decide (Z k < 0))) ∧ w.cell? ⟨b, k * 2 + 1, none⟩ = some (.slice a m cap) ∧ Lim w a m cap (canon (Z k).natAbs) ∧ m ≤ 4096
theorem canon_last {n m : Nat} (h : (canon n).length = m) (hm : 0 < m) : (canon n)[m - 1]'(by omega) ≠ 0 := by
  have hne : canon n ≠ [] := List.ne_nil_of_length_pos (by omega)
  have := (canon_spec n).2.2.2 hne
  rw [List.getLast_eq_getElem] at this
  subst h
  exact this
set_option maxRecDepth 100000 in
set_option maxHeartbeats 2000000 in
theorem check_walk (Z : Nat → Int) (b n cap : Nat) (w : World) (hR : WRow w b n Z) (hn : n ≤ 100) :
    Calls Tryz.prog 71 #[.slice (some ⟨b, 0, none⟩) n cap] w fun e w' => e = .returned (.int .i64 0) ∧ Below w.heap.size w w' := by
  have HR := Lib.hid hR
  clear hR
  go_enter Tryz.func71, Tryz.ntmps71
  go_wp2
  go_loopw [8] (fun i wr => ∃ k : Nat, k ≤ n ∧ i = .int .i64 k ∧ Below w.heap.size w wr) (fun i _ => n - (intOf i).toNat)
  case atStart => exact ⟨0, by omega, rfl, Below.refl _ _⟩
  case round =>
    obtain ⟨k, hk, rfl, hB⟩ := hrel
    by_cases hlt : k < n
    · obtain ⟨a, m, c, ha0, hb0, hl0, hm⟩ := HR.out.row k hlt
      have ha := (hB.cell (p := ⟨b, k * 2, none⟩) HR.out.lt).trans ha0
      have hb := (hB.cell (p := ⟨b, k * 2 + 1, none⟩) HR.out.lt).trans hb0
      have hl := hl0.below hB
      have hlen := hl.len
      have Hl := Lib.hid hl
      have i1 : (k : Int) < (n : Int) := by omega
      clear hl0 ha0 hb0 hl
      have m1 : ¬ (4096 : Int) < (m : Int) := by omega
      have fin : ∀ vs, Below w.heap.size w (wr.alloc (.cells vs 29)) := fun vs => hB.alloc hB.size _
      have Fin := Lib.hid fin
      clear fin
      by_cases m0 : m = 0
      · subst m0
        have zz : decide (Z k < 0) = false := by
          have := (canon_spec (Z k).natAbs).2.2.1.1 (List.length_eq_zero_iff.1 hlen)
          exact decide_eq_false (by omega)
        rw [zz] at ha
        clear zz hlen m1 hm
        go_wp2_with fail
        go_roundw
        case rel => exact ⟨k + 1, by omega, by go_num, Fin.out _⟩
        case measure => simp [intOf]; omega
      · have mp : 0 < m := by omega
        obtain ⟨b', off', rfl, -, -⟩ := Hl.out.row mp
        have kz := canon_last hlen mp
        have hl2 : ∀ vs, (wr.alloc (.cells vs 29)).cell? ⟨b', off' + (m - 1), none⟩ = some (.int .u32 ((canon (Z k).natAbs)[m - 1]'(by omega) : Int)) := fun vs => (Hl.out.below ((Below.refl _ wr).alloc (Nat.le_refl _) _)).cell (by omega)
        generalize (canon (Z k).natAbs)[m - 1]'(by omega) = q at kz hl2
        have q0 : ¬ (q : Int) = 0 := by omega
        have e1 : IntKind.i64.wrap ((m : Int) - 1) = ((m - 1 : Nat) : Int) := by rw [IntWalk.i64_in _ (by omega)]; omega
        have k1 : (0 : Int) < (m : Int) := by omega
        have k2 : ((m - 1 : Nat) : Int) < (m : Int) := by omega
        have k3 : ¬ (m : Int) = 0 := by omega
        go_wp2_with (refine wpList_store_new rfl _ (.tmp 4) (.tmp 11) rfl _ _ rfl rfl infoW rfl ?_ ?_; simp [Value.oneCell'])
        go_roundw
        case rel => exact ⟨k + 1, by omega, by go_num, Fin.out _⟩
        case measure => simp [intOf]; omega
    · obtain rfl : k = n := by omega
      go_wp2
      exact bodyPost_ret (results_tmp rfl _ _ _) rfl ⟨rfl, hB⟩
end Wd
end Go.Proofs.YtmgehfakcnmdnaaGreatDoor
/-
  The walk of Check of package wide.
-/
namespace Go.Proofs.YtmgehfakcnmdnaaGreatDoor
namespace Wd
open Go.RowKit Lw

set_option maxRecDepth 100000 in
set_option maxHeartbeats 2000000 in
theorem check1_walk (V : Value) (z : Int) (w : World) (hV : Wide 0 w V z) (hz : (canon z.natAbs).length ≤ 4096) :
    Calls Tryz.prog 77 #[V] w fun e w' => e = .returned (.int .i64 0) ∧ Below w.heap.size w w' := by
  obtain ⟨a, m, c, rfl, hL, -⟩ := hV
  have hB := ((Below.refl w.heap.size w).alloc (Nat.le_refl _) (.cells #[.bool (decide (z < 0)), .slice a m c] 29)).alloc (by simp) (.cells #[.bool (decide (z < 0)), .slice a m c] 29)
  have hR : WRow ((w.alloc (.cells #[.bool (decide (z < 0)), .slice a m c] 29)).alloc (.cells #[.bool (decide (z < 0)), .slice a m c] 29)) (w.heap.size + 1) 1 (fun _ => z) := by
    have r := rangeAt_new (w.alloc (.cells #[.bool (decide (z < 0)), .slice a m c] 29)) [.bool (decide (z < 0)), .slice a m c] 29
    rw [World.size_alloc] at r
    refine ⟨by simp, fun k hk => ⟨a, m, c, ?_, ?_, hL.below hB, by have := hL.len; omega⟩⟩
    · obtain rfl : k = 0 := by omega
      exact r 0 _ rfl
    · obtain rfl : k = 0 := by omega
      exact r 1 _ rfl
  have HC := Lib.hid (check_walk _ _ 1 1 _ hR (by omega))
  have Bt := Lib.hid hB
  clear hR hL hB
  go_enter Tryz.func77, Tryz.ntmps77
  go_wp2_with fail
  refine HC.out.mono ?_
  rintro e w' ⟨rfl, hb⟩
  have hB2 := Lib.hid (below_then Bt.out hb)
  clear hb
  go_wp2
  exact bodyPost_ret (results_tmp rfl _ _ _) rfl ⟨rfl, hB2.out⟩
end Wd
end Go.Proofs.YtmgehfakcnmdnaaGreatDoor
/-
  Limbs that are made and written: a block of its own.
-/
namespace Go.Proofs.YtmgehfakcnmdnaaGreatDoor
namespace Wd
open Go.RowKit Lw

/-- A block with these limbs. -/
def Arr (w : World) (g : Nat) (L : List Nat) : Prop := w.heap[g]? = some (.cells (us L).toArray 91 (0, 0))
theorem Arr.new (w : World) (L : List Nat) : Arr (w.alloc (.cells (us L).toArray 91)) w.heap.size L := by
  unfold Arr
  exact heap_alloc_new w _
theorem Arr.lt {w : World} {g : Nat} {L : List Nat} (h : Arr w g L) : g < w.heap.size := lt_of_block h
theorem Arr.cell {w : World} {g : Nat} {L : List Nat} (h : Arr w g L) {k : Nat} (hk : k < L.length) : w.cell? ⟨g, k, none⟩ = some (.int .u32 (L[k] : Int)) := by
  unfold Arr at h
  simp [World.cell?, h, hk]
theorem Arr.free {w : World} {g : Nat} {L : List Nat} (h : Arr w g L) (k : Nat) : w.frozen? ⟨g, k, none⟩ = false := by
  unfold Arr at h
  simp [World.frozen?, h]
theorem Arr.set {w : World} {g : Nat} {L : List Nat} (h : Arr w g L) (k v : Nat) : Arr (w.setCell ⟨g, k, none⟩ (.int .u32 (v : Int))) g (L.set k v) := by
  have hlt := h.lt
  unfold Arr at h ⊢
  have h' : w.heap[g] = .cells (us L).toArray 91 (0, 0) := by simpa [Array.getElem?_eq_getElem hlt] using h
  show (w.heap.modify g _)[g]? = _
  rw [Array.getElem?_eq_getElem (by simpa using hlt), Array.getElem_modify_self, h']
  simp [us, Array.set!_eq_setIfInBounds, List.map_set]
theorem Arr.other {w : World} {g : Nat} {L : List Nat} (h : Arr w g L) {p : Addr} (hp : p.block ≠ g) (v : Value) : Arr (w.setCell p v) g L := by
  unfold Arr at h ⊢
  rw [Below.heap_setCell _ _ _ _ (by simpa using Ne.symm hp)]
  exact h
theorem Arr.below {w w' : World} {g : Nat} {L : List Nat} (h : Arr w g L) (hb : Below w.heap.size w w') : Arr w' g L := by
  have := hb.block g h.lt
  unfold Arr at h ⊢
  rw [this]; exact h
theorem Arr.lim {w : World} {g : Nat} {L : List Nat} (h : Arr w g L) (hl : Lb L) {cap : Nat} (hc : L.length ≤ cap) (hs : L.length ≤ 1000000) : Lim w (some ⟨g, 0, none⟩) L.length cap L :=
  ⟨rfl, hl, hc, hs, fun _ => ⟨g, 0, rfl, h.lt, fun j v hv => by
    have hj : j < L.length := by have := (List.getElem?_eq_some_iff.1 hv).1; simpa [us] using this
    rw [Nat.zero_add, h.cell hj]
    simpa [us, hj] using hv⟩⟩
theorem info4 : (Tryz.prog.info? 91).map (fun i => (i.zero, i.size, i.bytes)) = some (some (.int .u32 0), 1, 4) := by kernel_rfl
theorem made_us (n : Nat) : madeCells #[.int .u32 0] n = (us (List.replicate n 0)).toArray := by
  apply Array.ext
  · simp [size_madeCells, us]
  · intro i h1 h2
    have e : i % 1 = 0 := Nat.mod_one i
    simp [madeCells, us, e]
theorem make_us (n : Nat) (hn : n ≤ 1000000) (w : World) : (Instr.makeSlice 27 (.int .i64 (n : Int)) (.int .i64 (n : Int))).run Tryz.prog w = .ok (.slice (some ⟨w.heap.size, 0, none⟩) n n) (w.alloc (.cells (us (List.replicate n 0)).toArray 91)) := by
  obtain ⟨i, hi, hzz⟩ := Option.map_eq_some_iff.1 info4
  simp only [Prod.mk.injEq] at hzz
  obtain ⟨hz, hs, hb⟩ := hzz
  have h := run_make (P := Tryz.prog) w 27 91 i _ Tryz.underlying27 hi hz .i64 .i64 (n : Int) (n : Int) (by omega) (Int.le_refl _) (by rw [hb]; omega) (by omega)
  rw [hs, Int.toNat_natCast, Nat.mul_one] at h
  rw [← made_us]
  exact h
/-- The cells of a new slice. -/
def nu (n : Nat) : Array Value := (us (List.replicate n 0)).toArray
theorem Arr.nu (w : World) (n : Nat) : Arr (w.alloc (.cells (nu n) 91)) w.heap.size (List.replicate n 0) := Arr.new w _
theorem make_nu (n : Nat) (hn : n ≤ 1000000) (w : World) : (Instr.makeSlice 27 (.int .i64 (n : Int)) (.int .i64 (n : Int))).run Tryz.prog w = .ok (.slice (some ⟨w.heap.size, 0, none⟩) n n) (w.alloc (.cells (nu n) 91)) := make_us n hn w
end Wd
end Go.Proofs.YtmgehfakcnmdnaaGreatDoor
/-
  Plain law of the product in limbs; no program in sight.
-/
namespace Go.Proofs.YtmgehfakcnmdnaaGreatDoor
namespace Wd

theorem val_set : ∀ (L : List Nat) (j v : Nat) (h : j < L.length), val (L.set j v) + 4294967296 ^ j * L[j] = val L + 4294967296 ^ j * v
  | x :: L, 0, v, _ => by simp only [List.set_cons_zero, val, List.getElem_cons_zero, Nat.pow_zero]; omega
  | x :: L, j + 1, v, h => by
    have ih := val_set L j v (by simpa using h)
    simp only [List.set_cons_succ, val, List.getElem_cons_succ]
    rw [Nat.pow_succ, Nat.mul_comm (4294967296 ^ j) 4294967296, Nat.mul_assoc, Nat.mul_assoc]
    omega
theorem val_take : ∀ (l : List Nat) (k : Nat) (h : k < l.length), val (l.take (k + 1)) = val (l.take k) + 4294967296 ^ k * l[k]
  | x :: l, 0, _ => by simp [val]
  | x :: l, k + 1, h => by
    have ih := val_take l k (by simpa using h)
    simp only [List.take_succ_cons, val, List.getElem_cons_succ]
    rw [ih, Nat.pow_succ, Nat.mul_comm (4294967296 ^ k) 4294967296, Nat.mul_assoc]
    omega
theorem lb_get {l : List Nat} (h : Lb l) {k : Nat} (hk : k < l.length) : l[k] < 4294967296 := h _ (List.getElem_mem hk)
theorem lb_set {l : List Nat} (h : Lb l) (k v : Nat) (hv : v < 4294967296) : Lb (l.set k v) := fun x hx => by
  rcases List.mem_or_eq_of_mem_set hx with g | g
  · exact h x g
  · rw [g]; exact hv
structure TOut (a b L : List Nat) (i : Nat) : Prop where
  len : L.length = a.length + b.length
  lb : Lb L
  v : val L = val (a.take i) * val b
  z : ∀ j (h : j < L.length), i + b.length ≤ j → L[j] = 0
structure TIn (a b L : List Nat) (i k c x : Nat) : Prop where
  len : L.length = a.length + b.length
  lb : Lb L
  c1 : c < 4294967296
  v : val L + c * 4294967296 ^ (i + k) = val (a.take i) * val b + x * (4294967296 ^ i * val (b.take k))
  z : ∀ j (h : j < L.length), i + b.length ≤ j → L[j] = 0
theorem TOut.zero (a b : List Nat) : TOut a b (List.replicate (a.length + b.length) 0) 0 :=
  ⟨by simp, fun x hx => by have := List.eq_of_mem_replicate hx; omega, by rw [val_zeros _ fun x hx => List.eq_of_mem_replicate hx]; simp [val], fun j h _ => by simp⟩
theorem TOut.start {a b L : List Nat} {i : Nat} (h : TOut a b L i) (x : Nat) : TIn a b L i 0 0 x :=
  ⟨h.len, h.lb, by omega, by rw [h.v]; simp [val], h.z⟩
theorem prod_bd {x y c l : Nat} (hx : x < 4294967296) (hy : y < 4294967296) (hc : c < 4294967296) (hl : l < 4294967296) : x * y ≤ 18446744065119617025 ∧ c + (x * y + l) < 18446744073709551616 := by
  have : x * y ≤ 4294967295 * 4294967295 := Nat.mul_le_mul (by omega) (by omega)
  omega
theorem TIn.step {a b L : List Nat} {i k c x : Nat} (h : TIn a b L i k c x) (hi : i < a.length) (hk : k < b.length) (hb : Lb b) (hx : x < 4294967296) (hj : i + k < L.length) :
    TIn a b (L.set (i + k) ((c + (x * b[k] + L[i + k])) % 4294967296)) i (k + 1) ((c + (x * b[k] + L[i + k])) / 4294967296) x := by
  have hv := val_set L (i + k) ((c + (x * b[k] + L[i + k])) % 4294967296) hj
  have hp := (prod_bd hx (lb_get hb hk) h.c1 (lb_get h.lb hj)).2
  refine ⟨by simpa using h.len, lb_set h.lb _ _ (Nat.mod_lt _ (by decide)), by omega, ?_, fun j hjl hge => ?_⟩
  · rw [val_take b k hk]
    have hv2 := h.v
    generalize hL : L[i + k] = l at *
    generalize hy : b[k] = y at *
    generalize hq : (c + (x * y + l)) = t at *
    have e : 4294967296 ^ (i + (k + 1)) = 4294967296 ^ (i + k) * 4294967296 := by rw [← Nat.add_assoc, Nat.pow_succ]
    have e2 : x * (4294967296 ^ i * (val (b.take k) + 4294967296 ^ k * y)) = x * (4294967296 ^ i * val (b.take k)) + 4294967296 ^ (i + k) * (x * y) := by
      rw [Nat.mul_add, Nat.mul_add, Nat.pow_add]
      congr 1
      rw [← Nat.mul_assoc (4294967296 ^ i), Nat.mul_left_comm]
    rw [e, e2]
    have e3 : t / 4294967296 * (4294967296 ^ (i + k) * 4294967296) + 4294967296 ^ (i + k) * (t % 4294967296) = 4294967296 ^ (i + k) * t := by
      rw [Nat.mul_left_comm, ← Nat.mul_add, Nat.mul_comm (t / 4294967296), Nat.div_add_mod]
    have e4 : 4294967296 ^ (i + k) * t = c * 4294967296 ^ (i + k) + 4294967296 ^ (i + k) * (x * y) + 4294967296 ^ (i + k) * l := by
      rw [← hq, Nat.mul_add, Nat.mul_add, Nat.mul_comm _ c]; omega
    omega
  · rw [List.getElem_set_ne (by omega)]
    exact h.z j (by simpa using hjl) hge
theorem TIn.fin {a b L : List Nat} {i c : Nat} (hi : i < a.length) (h : TIn a b L i b.length c a[i]) : TOut a b (L.set (i + b.length) c) (i + 1) := by
  have hj : i + b.length < L.length := by rw [h.len]; omega
  have hv := val_set L (i + b.length) c hj
  have hz := h.z (i + b.length) hj (Nat.le_refl _)
  refine ⟨by simpa using h.len, lb_set h.lb _ _ h.c1, ?_, fun j hjl hge => ?_⟩
  · have hv2 := h.v
    rw [List.take_length] at hv2
    rw [hz] at hv
    rw [val_take a i hi, Nat.add_mul, Nat.mul_comm (4294967296 ^ i), Nat.mul_assoc]
    rw [Nat.mul_comm c] at hv2
    omega
  · rw [List.getElem_set_ne (by omega)]
    exact h.z j (by simpa using hjl) (by omega)
end Wd
end Go.Proofs.YtmgehfakcnmdnaaGreatDoor
/-
  The walk of times of package wide.
-/
namespace Go.Proofs.YtmgehfakcnmdnaaGreatDoor
namespace Wd
open Go.RowKit Lw

/-- A list in a block of its own, behind what was there. -/
def FreshPost (w : World) (n : Nat) (p : List Nat → Prop) (e : Ending) (w' : World) : Prop :=
  ∃ L, e = .returned (.slice (some ⟨w.heap.size, 0, none⟩) n n) ∧ L.length = n ∧ Lb L ∧ p L ∧ Arr w' w.heap.size L ∧ Below w.heap.size w w'
set_option maxRecDepth 100000 in
set_option maxHeartbeats 4000000 in
theorem times_walk (a b : List Nat) (A D : Option Addr) (na ca nb cb : Nat) (w : World) (hA : Lim w A na ca a) (hD : Lim w D nb cb b) (hn : na + nb ≤ 1000000) :
    Calls Tryz.prog 73 #[.slice A na ca, .slice D nb cb] w (FreshPost w (na + nb) fun L => val L = val a * val b) := by
  have la := hA.len
  have lb := hD.len
  have HA := Lib.hid hA
  have HD := Lib.hid hD
  clear hA hD
  have hmk : ∀ w, (Instr.makeSlice 27 (.int .i64 ((na : Int) + (nb : Int))) (.int .i64 ((na : Int) + (nb : Int)))).run Tryz.prog w = .ok (.slice (some ⟨w.heap.size, 0, none⟩) (na + nb) (na + nb)) (w.alloc (.cells (nu (na + nb)) 91)) := fun w => by
    have := make_nu (na + nb) hn w
    rwa [Int.natCast_add] at this
  go_enter Tryz.func73, Tryz.ntmps73
  go_wp2
  have st : TOut a b (List.replicate (na + nb) 0) 0 := by rw [← la, ← lb]; exact TOut.zero a b
  have hA0 := Arr.nu w (na + nb)
  have hB0 := (Below.refl w.heap.size w).alloc (Nat.le_refl _) (.cells (nu (na + nb)) 91)
  clear hmk
  go_loopw [19] (fun i wr => ∃ (k : Nat) (L : List Nat), k ≤ na ∧ i = .int .i64 k ∧ TOut a b L k ∧ Arr wr w.heap.size L ∧ Below w.heap.size w wr) (fun i _ => na - (intOf i).toNat)
  case atStart => exact ⟨0, _, by omega, rfl, st, hA0, hB0⟩
  case round =>
    clear hA0 hB0 st
    obtain ⟨i, L, hi, rfl, hT, hR, hB⟩ := hrel
    by_cases hlt : i < na
    · have hAw := HA.out.below hB
      obtain ⟨bA, oA, rfl, -, -⟩ := hAw.row (by omega)
      have cA := hAw.cell (k := i) (by omega)
      have i1 : (i : Int) < (na : Int) := by omega
      have xb := lb_get hAw.lb (k := i) (by omega)
      generalize hx : a[i]'(by omega) = x at cA xb
      have T0 := Lib.hid (hT.start x)
      have HR := Lib.hid hR
      have HB := Lib.hid hB
      clear hT hR hB hAw
      go_wp2
      go_loopw [8, 26] (fun c j w2 => ∃ (k cc : Nat) (L : List Nat), k ≤ nb ∧ j = .int .i64 k ∧ c = .int .u64 cc ∧ TIn a b L i k cc x ∧ Arr w2 w.heap.size L ∧ Below w.heap.size w w2) (fun _ j _ => nb - (intOf j).toNat)
      case atStart => exact ⟨0, 0, _, by omega, rfl, rfl, T0.out, HR.out, HB.out⟩
      case round =>
        clear T0 HR HB
        obtain ⟨k, cc, L, hk, rfl, rfl, hT, hR, hB⟩ := hrel
        have hLl := hT.len
        by_cases hlk : k < nb
        · have hDw := HD.out.below hB
          obtain ⟨bD, oD, rfl, -, -⟩ := hDw.row (by omega)
          have cD := hDw.cell (k := k) (by omega)
          have k1 : (k : Int) < (nb : Int) := by omega
          have yb := lb_get hDw.lb (k := k) (by omega)
          have cL := hR.cell (k := i + k) (by omega)
          have fL := hR.free (i + k)
          have lbd := lb_get hT.lb (k := i + k) (by omega)
          have ts := hT.step (by omega) (by omega) hDw.lb xb (by omega)
          have ccb := hT.c1
          have pb := prod_bd xb yb ccb lbd
          generalize b[k]'(by omega) = y at cD yb ts pb
          generalize L[i + k]'(by omega) = l at cL lbd ts pb
          have r1 : IntKind.u64.wrap ((x : Int) * (y : Int)) = ((x * y : Nat) : Int) := by rw [← Int.natCast_mul]; exact IntWalk.u64_in _ (by omega)
          generalize x * y = p at ts pb r1
          have ev : (((cc + (p + l)) % 4294967296 : Nat) : Int) = ((cc : Int) + ((p : Int) + (l : Int))) % 4294967296 := by omega
          have ed : (((cc + (p + l)) / 4294967296 : Nat) : Int) = ((cc : Int) + ((p : Int) + (l : Int))) / 4294967296 := by omega
          have rs := hR.set (i + k) ((cc + (p + l)) % 4294967296)
          rw [ev] at rs
          have bs : Below w.heap.size w (wr.setCell ⟨w.heap.size, i + k, none⟩ (.int .u32 (((cc : Int) + ((p : Int) + (l : Int))) % 4294967296))) := hB.setCell (p := ⟨w.heap.size, i + k, none⟩) (Nat.le_refl _) _
          have fin : ∃ (k' cc' : Nat) (L' : List Nat), k' ≤ nb ∧ Value.int .i64 ((k : Int) + 1) = .int .i64 (k' : Int) ∧ Value.int .u64 (((cc : Int) + ((p : Int) + (l : Int))) / 4294967296) = .int .u64 (cc' : Int) ∧ TIn a b L' i k' cc' x ∧ Arr (wr.setCell ⟨w.heap.size, i + k, none⟩ (.int .u32 (((cc : Int) + ((p : Int) + (l : Int))) % 4294967296))) w.heap.size L' ∧ Below w.heap.size w (wr.setCell ⟨w.heap.size, i + k, none⟩ (.int .u32 (((cc : Int) + ((p : Int) + (l : Int))) % 4294967296))) :=
            ⟨k + 1, _, _, by omega, by simp, by rw [← ed], ts, rs, bs⟩
          have Fin := Lib.hid fin
          obtain ⟨-, pb2⟩ := pb
          clear fin ts rs bs ev ed hT hR hB hDw
          go_wp2
          go_roundw
          case rel => exact Fin.out
          case measure => simp [intOf]; omega
        · obtain rfl : k = nb := by omega
          have rs := hR.set (i + k) cc
          have cL := hR.cell (k := i + k) (by omega)
          have fL := hR.free (i + k)
          have ccb := hT.c1
          have bs : Below w.heap.size w (wr.setCell ⟨w.heap.size, i + k, none⟩ (.int .u32 (cc : Int))) := hB.setCell (p := ⟨w.heap.size, i + k, none⟩) (Nat.le_refl _) _
          have tf : TOut a b (L.set (i + k) cc) (i + 1) := by
            have := TIn.fin (a := a) (b := b) (L := L) (i := i) (c := cc) (by omega) (by rw [hx, lb]; exact hT)
            rwa [lb] at this
          have fin : ∃ (k' : Nat) (L' : List Nat), k' ≤ na ∧ Value.int .i64 ((i : Int) + 1) = .int .i64 (k' : Int) ∧ TOut a b L' k' ∧ Arr (wr.setCell ⟨w.heap.size, i + k, none⟩ (.int .u32 (cc : Int))) w.heap.size L' ∧ Below w.heap.size w (wr.setCell ⟨w.heap.size, i + k, none⟩ (.int .u32 (cc : Int))) :=
            ⟨i + 1, _, by omega, by simp, tf, rs, bs⟩
          have Fin := Lib.hid fin
          clear fin tf rs bs hT hR hB
          go_wp2
          go_roundw
          case rel => exact Fin.out
          case measure => simp [intOf]; omega
    · obtain rfl : i = na := by omega
      go_wp2
      refine bodyPost_ret (results_tmp rfl _ _ _) rfl ⟨L, rfl, by rw [hT.len]; omega, hT.lb, ?_, hR, hB⟩
      show val L = val a * val b
      rw [hT.v, ← la, List.take_length]
end Wd
end Go.Proofs.YtmgehfakcnmdnaaGreatDoor
/-
  The walk of Mul of package wide.
-/
namespace Go.Proofs.YtmgehfakcnmdnaaGreatDoor
namespace Wd
open Go.RowKit Lw

/-- Two whole numbers in boxes of their own, and a cell for a result. -/
structure BX (w0 : World) (x y : Bool) (u v : Value) (w : World) : Prop where
  below : Below w0.heap.size w0 w
  size : w0.heap.size + 3 ≤ w.heap.size
  x0 : w.cell? ⟨w0.heap.size, 0, none⟩ = some (.bool x)
  x1 : w.cell? ⟨w0.heap.size, 1, none⟩ = some u
  y0 : w.cell? ⟨w0.heap.size + 1, 0, none⟩ = some (.bool y)
  y1 : w.cell? ⟨w0.heap.size + 1, 1, none⟩ = some v
  th : w.there (w0.heap.size + 2) 0 2
theorem BX.new (w0 : World) (x y : Bool) (u v : Value) : BX w0 x y u v (((w0.alloc (.cells #[.bool x, u] 29)).alloc (.cells #[.bool y, v] 29)).alloc (.cells #[.bool false, .slice none 0 0] 29)) := by
  have h1 := (Below.refl w0.heap.size w0).alloc (Nat.le_refl _) (.cells #[.bool x, u] 29)
  have h2 := h1.alloc h1.size (.cells #[.bool y, v] 29)
  have h3 := h2.alloc h2.size (.cells #[.bool false, .slice none 0 0] 29)
  have r1 := rangeAt_new w0 [.bool x, u] 29
  have r2 := rangeAt_new (w0.alloc (.cells #[.bool x, u] 29)) [.bool y, v] 29
  have b2 := (Below.refl _ (w0.alloc (.cells #[.bool x, u] 29))).alloc (Nat.le_refl _) (.cells #[.bool y, v] 29)
  have b3 := (Below.refl _ ((w0.alloc (.cells #[.bool x, u] 29)).alloc (.cells #[.bool y, v] 29))).alloc (Nat.le_refl _) (.cells #[.bool false, .slice none 0 0] 29)
  have r1' := rangeAt_below (rangeAt_below r1 b2 (by simp)) b3 (by simp; omega)
  have r2' := rangeAt_below r2 b3 (by simp)
  have t := there_new ((w0.alloc (.cells #[.bool x, u] 29)).alloc (.cells #[.bool y, v] 29)) #[.bool false, .slice none 0 0] 29 2 (by simp)
  simp only [World.size_alloc] at r2' t
  exact ⟨h3, by simp, r1' 0 _ rfl, r1' 1 _ rfl, r2' 0 _ rfl, r2' 1 _ rfl, t⟩
theorem BX.call {w0 w w' : World} {x y : Bool} {u v : Value} (h : BX w0 x y u v w) (hb : Below w.heap.size w w') : BX w0 x y u v w' := by
  have hs := h.size
  have := hb.size
  have q0 : w0.heap.size < w.heap.size := by omega
  have q1 : w0.heap.size + 1 < w.heap.size := by omega
  exact ⟨below_then h.below hb, by omega, (hb.cell (p := ⟨_, 0, none⟩) q0).trans h.x0, (hb.cell (p := ⟨_, 1, none⟩) q0).trans h.x1, (hb.cell (p := ⟨_, 0, none⟩) q1).trans h.y0, (hb.cell (p := ⟨_, 1, none⟩) q1).trans h.y1, there_below h.th hb (by omega)⟩
theorem BX.drew {w0 w : World} {x y : Bool} {u v : Value} (h : BX w0 x y u v w) : BX w0 x y u v w.drew := ⟨h.below.drew, h.size, h.x0, h.x1, h.y0, h.y1, h.th⟩
theorem BX.drewN {w0 w : World} {x y : Bool} {u v : Value} (h : BX w0 x y u v w) (n : Nat) : BX w0 x y u v (w.drewN n) := ⟨drewN_below2 h.below n, h.size, h.x0, h.x1, h.y0, h.y1, h.th⟩
theorem BX.row {w0 w : World} {x y : Bool} {u v : Value} (h : BX w0 x y u v w) : BX w0 x y u v (w.alloc (.cells #[.bool x, u, .bool y, v] 29)) := h.call ((Below.refl _ w).alloc (Nat.le_refl _) _)
def cellOf (w : World) (p : Addr) : Value := (w.cell? p).getD undef
theorem cellOf_some {w : World} {p : Addr} (h : (w.cell? p).isSome = true) : w.cell? p = some (cellOf w p) := by
  obtain ⟨v, hv⟩ := Option.isSome_iff_exists.1 h
  rw [cellOf, hv]; rfl
theorem there_setCell {w : World} {b n : Nat} (h : w.there b 0 n) (q : Addr) (v : Value) : (w.setCell q v).there b 0 n := by
  intro j hj
  obtain ⟨h1, h2⟩ := h j hj
  obtain ⟨x, hx⟩ := Option.isSome_iff_exists.1 h1
  obtain ⟨x', hx'⟩ := Go.RowKit.cell?_setCell_some (p := q) (x := v) hx
  exact ⟨by rw [hx']; rfl, by rw [World.frozen?_setCell]; exact h2⟩
theorem BX.set {w0 w : World} {x y : Bool} {u v : Value} (h : BX w0 x y u v w) (o : Nat) (z : Value) : BX w0 x y u v (w.setCell ⟨w0.heap.size + 2, o, none⟩ z) := by
  refine ⟨h.below.setCell (by simp) _, by simpa using h.size, ?_, ?_, ?_, ?_, there_setCell h.th _ _⟩
  · exact (World.cell?_setCell_other _ _ _ _ (by simp)).trans h.x0
  · exact (World.cell?_setCell_other _ _ _ _ (by simp)).trans h.x1
  · exact (World.cell?_setCell_other _ _ _ _ (by simp)).trans h.y0
  · exact (World.cell?_setCell_other _ _ _ _ (by simp)).trans h.y1
abbrev BXS (w0 : World) (x y : Bool) (u v : Value) (w : World) : Prop :=
  w.cell? ⟨w0.heap.size, 0, none⟩ = some (.bool x) ∧ w.cell? ⟨w0.heap.size, 1, none⟩ = some u ∧ w.cell? ⟨w0.heap.size + 1, 0, none⟩ = some (.bool y) ∧ w.cell? ⟨w0.heap.size + 1, 1, none⟩ = some v ∧
    w.cell? ⟨w0.heap.size + 2, 0, none⟩ = some (cellOf w ⟨w0.heap.size + 2, 0, none⟩) ∧ w.cell? ⟨w0.heap.size + 2, 1, none⟩ = some (cellOf w ⟨w0.heap.size + 2, 1, none⟩) ∧ w.frozen? ⟨w0.heap.size + 2, 0, none⟩ = false ∧ w.frozen? ⟨w0.heap.size + 2, 1, none⟩ = false ∧ BX w0 x y u v w
theorem BX.s {w0 w : World} {x y : Bool} {u v : Value} (h : BX w0 x y u v w) : BXS w0 x y u v w :=
  ⟨h.x0, h.x1, h.y0, h.y1, cellOf_some (h.th 0 (by omega)).1, cellOf_some (h.th 1 (by omega)).1, (h.th 0 (by omega)).2, (h.th 1 (by omega)).2, h⟩
def NumPost (w : World) (z : Int) (e : Ending) (w' : World) : Prop := ∃ V, e = .returned (.tuple #[V, .int .i64 0]) ∧ Wide w.heap.size w' V z ∧ Below w.heap.size w w'
theorem sgn_mul (z1 z2 : Int) : sgn (!(decide (z1 < 0) == decide (z2 < 0))) (z1 * z2).natAbs = z1 * z2 := by
  rw [Int.natAbs_mul]
  by_cases h1 : z1 < 0 <;> by_cases h2 : z2 < 0
  · have e1 : z1 = -(z1.natAbs : Int) := by omega
    have e2 : z2 = -(z2.natAbs : Int) := by omega
    simp only [sgn, h1, h2, decide_true, beq_self_eq_true, Bool.not_true, if_false, Bool.false_eq_true, Int.natCast_mul]
    generalize z1.natAbs = p at *; generalize z2.natAbs = q at *; subst e1; subst e2
    rw [Int.neg_mul_neg]
  · have e1 : z1 = -(z1.natAbs : Int) := by omega
    have e2 : z2 = (z2.natAbs : Int) := by omega
    simp only [sgn, h1, h2, decide_true, decide_false, Int.natCast_mul]
    generalize z1.natAbs = p at *; generalize z2.natAbs = q at *; subst e1; subst e2
    rw [Int.neg_mul]; rfl
  · have e1 : z1 = (z1.natAbs : Int) := by omega
    have e2 : z2 = -(z2.natAbs : Int) := by omega
    simp only [sgn, h1, h2, decide_true, decide_false, Int.natCast_mul]
    generalize z1.natAbs = p at *; generalize z2.natAbs = q at *; subst e1; subst e2
    rw [Int.mul_neg]; rfl
  · have e1 : z1 = (z1.natAbs : Int) := by omega
    have e2 : z2 = (z2.natAbs : Int) := by omega
    simp only [sgn, h1, h2, decide_false, beq_self_eq_true, Bool.not_true, if_false, Bool.false_eq_true, Int.natCast_mul]
    generalize z1.natAbs = p at *; generalize z2.natAbs = q at *; subst e1; subst e2; rfl
theorem num_fin {w w' : World} {x y : Bool} {u v : Value} {g k cap : Nat} {z : Int} (h : BX w x y u v w') (hM : Lim w' (some ⟨g, 0, none⟩) k cap (canon z.natAbs)) (hg : w.heap.size + 3 ≤ g) :
    World.rangeAt (w'.setCells (w.heap.size + 2) 0 [.bool (decide (z < 0)), .slice (some ⟨g, 0, none⟩) k cap]) (w.heap.size + 2) 0 [.bool (decide (z < 0)), .slice (some ⟨g, 0, none⟩) k cap] ∧
    NumPost w z (.returned (.tuple #[.agg #[.bool (decide (z < 0)), .slice (some ⟨g, 0, none⟩) k cap], .int .i64 0])) (w'.setCells (w.heap.size + 2) 0 [.bool (decide (z < 0)), .slice (some ⟨g, 0, none⟩) k cap]) :=
  ⟨World.rangeAt_setCells_same _ _ _ _ h.th, _, rfl, ⟨_, k, cap, rfl, hM.setCells (fun b off e => by cases e; omega) _ _, fun b off e => by cases e; omega⟩, below_setCells _ (by omega) _ _ _ h.below⟩
set_option maxRecDepth 100000 in
set_option maxHeartbeats 4000000 in
theorem mul_walk (V1 V2 : Value) (z1 z2 : Int) (w : World) (h1 : Wide 0 w V1 z1) (h2 : Wide 0 w V2 z2) (hn : (canon z1.natAbs).length + (canon z2.natAbs).length ≤ 4096) :
    Calls Tryz.prog 43 #[V1, V2] w (NumPost w (z1 * z2)) := by
  obtain ⟨a, n, ca, rfl, hA, -⟩ := h1
  obtain ⟨d, m, cd, rfl, hD, -⟩ := h2
  have la := hA.len
  have ld := hD.len
  have hS0 := BX.new w (decide (z1 < 0)) (decide (z2 < 0)) (.slice a n ca) (.slice d m cd)
  have hsz : (((w.alloc (.cells #[.bool (decide (z1 < 0)), .slice a n ca] 29)).alloc (.cells #[.bool (decide (z2 < 0)), .slice d m cd] 29)).alloc (.cells #[.bool false, .slice none 0 0] 29)).heap.size = w.heap.size + 3 := by simp
  have hW : WRow ((((w.alloc (.cells #[.bool (decide (z1 < 0)), .slice a n ca] 29)).alloc (.cells #[.bool (decide (z2 < 0)), .slice d m cd] 29)).alloc (.cells #[.bool false, .slice none 0 0] 29)).alloc (.cells #[.bool (decide (z1 < 0)), .slice a n ca, .bool (decide (z2 < 0)), .slice d m cd] 29)) (w.heap.size + 3) 2 (fun k => if k = 0 then z1 else z2) := by
    have r := rangeAt_new (((w.alloc (.cells #[.bool (decide (z1 < 0)), .slice a n ca] 29)).alloc (.cells #[.bool (decide (z2 < 0)), .slice d m cd] 29)).alloc (.cells #[.bool false, .slice none 0 0] 29)) [.bool (decide (z1 < 0)), .slice a n ca, .bool (decide (z2 < 0)), .slice d m cd] 29
    rw [hsz] at r
    have hb := hS0.row.below
    refine ⟨by simp, fun k hk => ?_⟩
    match k, hk with
    | 0, _ => exact ⟨a, n, ca, r 0 _ rfl, r 1 _ rfl, hA.below hb, by omega⟩
    | 1, _ => exact ⟨d, m, cd, r 2 _ rfl, r 3 _ rfl, hD.below hb, by omega⟩
  have hS1 := hS0.row
  have HC := Lib.hid (check_walk _ _ 2 2 _ hW (by omega))
  clear hW hS0 hsz
  have HA := Lib.hid hA
  have HD := Lib.hid hD
  have HS := Lib.hid hS1
  clear hA hD hS1
  go_enter Tryz.func43, Tryz.ntmps43
  go_wp2_with fail
  refine HC.out.mono ?_
  rintro e w1 ⟨rfl, hb⟩
  have hS := HS.out.call hb
  clear hb HS HC
  go_wp2_with fail
  have KA := fun w' (h : BXS w (decide (z1 < 0)) (decide (z2 < 0)) (.slice a n ca) (.slice d m cd) w') => HA.out.below h.2.2.2.2.2.2.2.2.below
  have KD := fun w' (h : BXS w (decide (z1 < 0)) (decide (z2 < 0)) (.slice a n ca) (.slice d m cd) w') => HD.out.below h.2.2.2.2.2.2.2.2.below
  have KC := fun w' w2 (h : BXS w (decide (z1 < 0)) (decide (z2 < 0)) (.slice a n ca) (.slice d m cd) w') (hb : Below w'.heap.size w' w2) => h.2.2.2.2.2.2.2.2.call hb
  have nm : n + m ≤ 1000000 := by omega
  have nl : ∀ L : List Nat, Lb L → L.length = n + m → (canon (val L)).length ≤ 4096 := fun L h1 h2 => by have := canon_le L h1; omega
  have nc : ∀ L : List Nat, ∀ w2 g, Arr w2 g L → Lb L → L.length = n + m → Lim w2 (some ⟨g, 0, none⟩) (n + m) (n + m) L := fun L w2 g h1 h2 h3 => by have := h1.lim (cap := n + m) h2 (by omega) (by omega); rwa [h3] at this
  go_region_held3 (fun w' => w'.cell? ⟨w.heap.size, 0, none⟩ = some (.bool (decide (z1 < 0))) ∧ w'.cell? ⟨w.heap.size, 1, none⟩ = some (.slice a n ca) ∧ w'.cell? ⟨w.heap.size + 1, 0, none⟩ = some (.bool (decide (z2 < 0))) ∧ w'.cell? ⟨w.heap.size + 1, 1, none⟩ = some (.slice d m cd) ∧ w'.cell? ⟨w.heap.size + 2, 0, none⟩ = some (cellOf w' ⟨w.heap.size + 2, 0, none⟩) ∧ w'.cell? ⟨w.heap.size + 2, 1, none⟩ = some (cellOf w' ⟨w.heap.size + 2, 1, none⟩) ∧ w'.frozen? ⟨w.heap.size + 2, 0, none⟩ = false ∧ w'.frozen? ⟨w.heap.size + 2, 1, none⟩ = false ∧ BX w (decide (z1 < 0)) (decide (z2 < 0)) (.slice a n ca) (.slice d m cd) w') (first | exact BX.s (BX.drew hS) | exact BX.s hS | exact BX.s hk2 | exact BX.s hk | exact BX.s (BX.set (BX.set hk2 _ _) _ _) | exact BX.s (by assumption)) (first | (go_at_call 73; refine (times_walk _ _ _ _ n ca m cd _ (KA _ (by assumption)) (KD _ (by assumption)) nm).mono ?_; rintro e w' ⟨L, rfl, hL1, hL2, hL3, hL4, hb⟩; have hk := KC _ _ (by assumption) hb; clear hb) | (go_at_call 72; refine (made_walk _ L _ _ _ _ (nc L _ _ hL4 hL2 hL1) (nl L hL2 hL1)).mono ?_; rintro e w' ⟨rfl, hM, hb⟩; have hk2 := BX.call hk hb; clear hb))
  have nv : val (canon z1.natAbs) * val (canon z2.natAbs) = (z1 * z2).natAbs := by rw [val_canon, val_canon, Int.natAbs_mul]
  have e : val L = (z1 * z2).natAbs := hL3.trans nv
  rw [e] at hM
  have hs := hS.size
  have F := Lib.hid (num_fin hk2 hM (by simpa using hs))
  clear hM
  have SM := Lib.hid (sgn_mul z1 z2)
  have NV := Lib.hid nv
  clear e nv
  go_wp2_with fail
  rw [NV.out, SM.out]
  exact bodyPost_ret (ret_cell_tmp Tryz.results43 _ _ (w.heap.size + 2) [.bool _, .slice _ _ _] _ rfl F.out.1 Tryz.underlying29 rfl infoW) rfl F.out.2
end Wd
end Go.Proofs.YtmgehfakcnmdnaaGreatDoor
/-
  Plain law of sums, differences, shifts and quotients in limbs; no program in sight.
-/
namespace Go.Proofs.YtmgehfakcnmdnaaGreatDoor
namespace Wd

theorem take_set_eq (L : List Nat) (i v : Nat) : (L.set i v).take i = L.take i := by
  rw [List.take_set]; exact List.set_eq_of_length_le (by rw [List.length_take]; exact Nat.min_le_left _ _)
theorem val_take_set {L : List Nat} {i : Nat} (v : Nat) (h : i < L.length) : val ((L.set i v).take (i + 1)) = val (L.take i) + 4294967296 ^ i * v := by
  rw [val_take _ i (by simpa using h), take_set_eq]; simp
theorem val_drop {l : List Nat} {i : Nat} (h : i < l.length) : val (l.drop i) = l[i] + 4294967296 * val (l.drop (i + 1)) := by
  rw [List.drop_eq_getElem_cons h]; rfl
theorem drop_set_gt (L : List Nat) {i k : Nat} (v : Nat) (h : i < k) : (L.set i v).drop k = L.drop k := by
  apply List.ext_getElem
  · simp
  · intro j h1 h2
    simp only [List.getElem_drop]
    exact List.getElem_set_ne (by omega) _
theorem val_drop_set {L : List Nat} {i : Nat} (v : Nat) (h : i < L.length) : val ((L.set i v).drop i) = v + 4294967296 * val (L.drop (i + 1)) := by
  rw [val_drop (by simpa using h), drop_set_gt _ _ (by omega)]; simp
theorem split_pow (P t : Nat) : P * (t % 4294967296) + t / 4294967296 * (P * 4294967296) = P * t := by
  rw [Nat.mul_left_comm, ← Nat.mul_add, Nat.mul_comm (t / 4294967296), Nat.add_comm, Nat.div_add_mod]
/-- A limb, or 0 behind the last one. -/
def at0 (b : List Nat) (i : Nat) : Nat := if h : i < b.length then b[i] else 0
theorem at0_in {b : List Nat} {i : Nat} (h : i < b.length) : at0 b i = b[i] := dif_pos h
theorem at0_out {b : List Nat} {i : Nat} (h : ¬ i < b.length) : at0 b i = 0 := dif_neg h
theorem at0_lt {b : List Nat} (hb : Lb b) (i : Nat) : at0 b i < 4294967296 := by
  by_cases h : i < b.length
  · rw [at0_in h]; exact lb_get hb h
  · rw [at0_out h]; omega
theorem val_take0 (b : List Nat) (i : Nat) : val (b.take (i + 1)) = val (b.take i) + 4294967296 ^ i * at0 b i := by
  by_cases h : i < b.length
  · rw [at0_in h]; exact val_take b i h
  · rw [at0_out h, List.take_of_length_le (by omega), List.take_of_length_le (by omega)]; simp
/-- plus. -/
structure PIn (a b L : List Nat) (i c : Nat) : Prop where
  len : L.length = a.length + 1
  lb : Lb L
  c1 : c ≤ 1
  v : val (L.take i) + c * 4294967296 ^ i = val (a.take i) + val (b.take i)
theorem lb_zeros (n : Nat) : Lb (List.replicate n 0) := fun x hx => by have := List.eq_of_mem_replicate hx; omega
theorem PIn.zero (a b : List Nat) : PIn a b (List.replicate (a.length + 1) 0) 0 0 := ⟨by simp, lb_zeros _, by omega, by simp [val]⟩
theorem PIn.step {a b L : List Nat} {i c : Nat} (h : PIn a b L i c) (hi : i < a.length) (ha : Lb a) (hb : Lb b) :
    PIn a b (L.set i ((a[i] + at0 b i + c) % 4294967296)) (i + 1) ((a[i] + at0 b i + c) / 4294967296) := by
  have hl := h.len
  have hx := lb_get ha hi
  have hy := at0_lt hb i
  have hc := h.c1
  refine ⟨by simpa using hl, lb_set h.lb _ _ (Nat.mod_lt _ (by decide)), by omega, ?_⟩
  have hv := h.v
  rw [val_take_set _ (by omega), val_take a i hi, val_take0, Nat.pow_succ]
  generalize a[i] = x at *
  generalize at0 b i = y at *
  have e := split_pow (4294967296 ^ i) (x + y + c)
  have e2 : 4294967296 ^ i * (x + y + c) = 4294967296 ^ i * x + 4294967296 ^ i * y + c * 4294967296 ^ i := by rw [Nat.mul_add, Nat.mul_add, Nat.mul_comm _ c]
  omega
theorem PIn.fin {a b L : List Nat} {c : Nat} (h : PIn a b L a.length c) (hb : b.length ≤ a.length) : val (L.set a.length c) = val a + val b ∧ Lb (L.set a.length c) := by
  have hv := h.v
  have hl := h.len
  have e := val_take_set (L := L) (i := a.length) c (by omega)
  rw [List.take_of_length_le (by simp; omega)] at e
  rw [List.take_of_length_le (Nat.le_refl _), List.take_of_length_le hb] at hv
  exact ⟨by rw [e, ← hv, Nat.mul_comm c], lb_set h.lb _ _ (by have := h.c1; omega)⟩
theorem sub_digit {x y c : Nat} (hx : x < 4294967296) (hy : y < 4294967296) (hc : c ≤ 1) : (x + 4294967296 - y - c) % 4294967296 + y + c = x + 4294967296 * (if x < y + c then 1 else 0) := by
  split <;> omega
theorem sub_pow (P : Nat) {x y c : Nat} (hx : x < 4294967296) (hy : y < 4294967296) (hc : c ≤ 1) :
    P * ((x + 4294967296 - y - c) % 4294967296) + P * y + c * P = P * x + (if x < y + c then 1 else 0) * (P * 4294967296) := by
  have := congrArg (P * ·) (sub_digit hx hy hc)
  simp only [Nat.mul_add] at this
  rw [Nat.mul_comm c P, this, ← Nat.mul_assoc, Nat.mul_comm (if x < y + c then 1 else 0)]
theorem br_le (x y c : Nat) : (if x < y + c then 1 else 0 : Nat) ≤ 1 := by split <;> omega
/-- minus. -/
structure MIn (a b L : List Nat) (i c : Nat) : Prop where
  len : L.length = a.length
  lb : Lb L
  c1 : c ≤ 1
  v : val (L.take i) + val (b.take i) = val (a.take i) + c * 4294967296 ^ i
theorem MIn.zero (a b : List Nat) : MIn a b (List.replicate a.length 0) 0 0 := ⟨by simp, lb_zeros _, by omega, by simp [val]⟩
theorem MIn.step {a b L : List Nat} {i c : Nat} (h : MIn a b L i c) (hi : i < a.length) (ha : Lb a) (hb : Lb b) :
    MIn a b (L.set i ((a[i] + 4294967296 - at0 b i - c) % 4294967296)) (i + 1) (if a[i] < at0 b i + c then 1 else 0) := by
  have hl := h.len
  have hx := lb_get ha hi
  have hy := at0_lt hb i
  have hc := h.c1
  refine ⟨by simpa using hl, lb_set h.lb _ _ (Nat.mod_lt _ (by decide)), br_le _ _ _, ?_⟩
  have hv := h.v
  rw [val_take_set _ (by omega), val_take a i hi, val_take0, Nat.pow_succ]
  have e := sub_pow (4294967296 ^ i) hx hy hc
  generalize (if a[i] < at0 b i + c then 1 else 0 : Nat) = g at *
  generalize a[i] = x at *
  generalize at0 b i = y at *
  omega
theorem MIn.fin {a b L : List Nat} {c : Nat} (h : MIn a b L a.length c) (hb : b.length ≤ a.length) (hle : val b ≤ val a) : val L = val a - val b := by
  have hv := h.v
  have hl := h.len
  have hlt := val_lt L h.lb
  rw [List.take_of_length_le (by omega), List.take_of_length_le (Nat.le_refl _), List.take_of_length_le hb] at hv
  rw [hl] at hlt
  have hc := h.c1
  rcases Nat.eq_zero_or_pos c with rfl | h0
  · omega
  · obtain rfl : c = 1 := by omega
    omega
/-- A multiple of limbs that is taken away. -/
structure SIn (u0 v : List Nat) (q : Nat) (u : List Nat) (i c br : Nat) : Prop where
  len : u.length = u0.length
  lb : Lb u
  c1 : c < 4294967296
  b1 : br ≤ 1
  v : val (u.take i) + q * val (v.take i) = val (u0.take i) + (br + c) * 4294967296 ^ i
  d : u.drop i = u0.drop i
theorem SIn.zero {u0 : List Nat} (v : List Nat) (q : Nat) (h : Lb u0) : SIn u0 v q u0 0 0 0 := ⟨rfl, h, by omega, by omega, by simp [val], rfl⟩
theorem drop_get {u u0 : List Nat} {i : Nat} (h : u.drop i = u0.drop i) (hi : i < u.length) (h0 : i < u0.length) : u[i] = u0[i] := by
  rw [List.drop_eq_getElem_cons hi, List.drop_eq_getElem_cons h0] at h
  exact (List.cons.inj h).1
theorem q_bd {q x c : Nat} (hq : q < 4294967296) (hx : x < 4294967296) (hc : c < 4294967296) : c + q * x < 4294967296 * 4294967296 ∧ (c + q * x) / 4294967296 < 4294967296 := by
  have : q * x ≤ 4294967295 * 4294967295 := Nat.mul_le_mul (by omega) (by omega)
  constructor <;> omega
theorem SIn.step {u0 v u : List Nat} {q i c br : Nat} (h : SIn u0 v q u i c br) (hi : i < v.length) (hu : i < u.length) (hv : Lb v) (hq : q < 4294967296) :
    SIn u0 v q (u.set i ((u[i] + 4294967296 - (c + q * v[i]) % 4294967296 - br) % 4294967296)) (i + 1) ((c + q * v[i]) / 4294967296) (if u[i] < (c + q * v[i]) % 4294967296 + br then 1 else 0) := by
  have hl := h.len
  have hw := lb_get h.lb hu
  have hx := lb_get hv hi
  have hb := q_bd hq hx h.c1
  have e0 := drop_get h.d hu (by omega)
  refine ⟨by simpa using hl, lb_set h.lb _ _ (Nat.mod_lt _ (by decide)), hb.2, br_le _ _ _, ?_, ?_⟩
  · have hvv := h.v
    have e1 := sub_pow (4294967296 ^ i) hw (Nat.mod_lt (c + q * v[i]) (by decide)) h.b1
    have e2 := split_pow (4294967296 ^ i) (c + q * v[i])
    rw [val_take_set _ hu, val_take v i hi, val_take u0 i (by omega), ← e0, Nat.pow_succ]
    generalize (if u[i] < (c + q * v[i]) % 4294967296 + br then 1 else 0 : Nat) = g at *
    generalize u[i] = w at *
    generalize v[i] = x at *
    have e3 : 4294967296 ^ i * (c + q * x) = c * 4294967296 ^ i + q * (4294967296 ^ i * x) := by rw [Nat.mul_add, Nat.mul_comm _ c, Nat.mul_left_comm]
    generalize (c + q * x) % 4294967296 = m at *
    generalize (c + q * x) / 4294967296 = d at *
    rw [e3] at e2
    rw [Nat.mul_add q, Nat.add_mul g]
    rw [Nat.add_mul] at hvv
    omega
  · have e := congrArg (List.drop 1) h.d
    rw [List.drop_drop, List.drop_drop] at e
    rw [drop_set_gt _ _ (by omega)]
    exact e
theorem SIn.last {u0 v u : List Nat} {q c br : Nat} (h : SIn u0 v q u v.length c br) (hu : v.length + 1 = u.length) :
    Lb (u.set v.length ((u[v.length] + 4294967296 - c - br) % 4294967296)) ∧
    val (u.set v.length ((u[v.length] + 4294967296 - c - br) % 4294967296)) + q * val v = val u0 + (if u[v.length] < c + br then 1 else 0) * 4294967296 ^ (v.length + 1) := by
  have hl := h.len
  have hw := lb_get h.lb (show v.length < u.length by omega)
  have e0 := drop_get h.d (show v.length < u.length by omega) (by omega)
  refine ⟨lb_set h.lb _ _ (Nat.mod_lt _ (by decide)), ?_⟩
  have hvv := h.v
  rw [List.take_of_length_le (Nat.le_refl _)] at hvv
  have e1 := sub_pow (4294967296 ^ v.length) hw h.c1 h.b1
  have e := val_take_set (L := u) (i := v.length) ((u[v.length] + 4294967296 - c - br) % 4294967296) (by omega)
  rw [List.take_of_length_le (by simp; omega)] at e
  have e4 := val_take u0 v.length (by omega)
  rw [List.take_of_length_le (by omega), ← e0] at e4
  rw [e, e4, Nat.pow_succ]
  generalize (if u[v.length] < c + br then 1 else 0 : Nat) = g at *
  rw [Nat.add_mul, Nat.mul_comm c] at hvv
  omega
theorem SIn.done {u0 v u' : List Nat} {q g : Nat} (hl : u'.length = u0.length) (hu : v.length + 1 = u0.length) (hb : Lb u') (h0 : Lb u0) (hg : g ≤ 1) (h : val u' + q * val v = val u0 + g * 4294967296 ^ (v.length + 1)) :
    (g = 0 ↔ q * val v ≤ val u0) ∧ (g = 0 → val u' + q * val v = val u0) := by
  have h1 := val_lt u' hb
  have h2 := val_lt u0 h0
  rw [hl, ← hu] at h1
  rw [← hu] at h2
  rcases Nat.eq_zero_or_pos g with rfl | hp
  · constructor
    · exact ⟨fun _ => by omega, fun _ => rfl⟩
    · intro _; omega
  · obtain rfl : g = 1 := by omega
    refine ⟨⟨fun e => by omega, fun e => by omega⟩, fun e => by omega⟩
/-- A quotient by one limb, from the top. -/
structure DIn (l L : List Nat) (d i r : Nat) : Prop where
  len : L.length = l.length
  lb : Lb L
  r1 : r < d
  v : val (L.drop i) * d + r = val (l.drop i)
theorem DIn.zero (l : List Nat) {d : Nat} (h : 0 < d) : DIn l (List.replicate l.length 0) d l.length 0 := ⟨by simp, lb_zeros _, h, by rw [List.drop_of_length_le (by simp), List.drop_of_length_le (Nat.le_refl _)]; simp [val]⟩
theorem quo_lt {r x d : Nat} (hr : r < d) (hx : x < 4294967296) : (r * 4294967296 + x) / d < 4294967296 := by
  rw [Nat.div_lt_iff_lt_mul (by omega), Nat.mul_comm]
  have : (r + 1) * 4294967296 ≤ d * 4294967296 := Nat.mul_le_mul_right _ hr
  omega
theorem DIn.step {l L : List Nat} {d i r : Nat} (h : DIn l L d (i + 1) r) (hi : i < l.length) (hl : Lb l) : DIn l (L.set i ((r * 4294967296 + l[i]) / d)) d i ((r * 4294967296 + l[i]) % d) := by
  have hlen := h.len
  have hr := h.r1
  have hx := lb_get hl hi
  refine ⟨by simpa using hlen, lb_set h.lb _ _ (quo_lt hr hx), Nat.mod_lt _ (by omega), ?_⟩
  have hv := h.v
  rw [val_drop_set _ (by omega), val_drop hi]
  generalize l[i] = x at *
  have e := Nat.div_add_mod (r * 4294967296 + x) d
  rw [← hv, Nat.add_mul, Nat.mul_assoc]
  rw [Nat.mul_comm d] at e
  omega
theorem DIn.fin {l L : List Nat} {d r : Nat} (h : DIn l L d 0 r) : val L = val l / d ∧ r = val l % d := by
  have hv := h.v
  have hr := h.r1
  rw [List.drop_zero, List.drop_zero] at hv
  rw [← hv]
  constructor
  · rw [Nat.mul_comm, Nat.mul_add_div (by omega), Nat.div_eq_of_lt hr]; rfl
  · rw [Nat.mul_comm, Nat.mul_add_mod, Nat.mod_eq_of_lt hr]
/-- left. -/
structure FIn (l L : List Nat) (s i c : Nat) : Prop where
  len : L.length = i
  lb : Lb L
  c1 : c < 2 ^ s
  v : val L + c * 4294967296 ^ i = val (l.take i) * 2 ^ s
theorem FIn.zero (l : List Nat) (s : Nat) : FIn l [] s 0 0 := ⟨rfl, fun x hx => by simp at hx, Nat.two_pow_pos s, by simp [val]⟩
theorem val_snoc (L : List Nat) (x : Nat) : val (L ++ [x]) = val L + 4294967296 ^ L.length * x := by rw [val_append]; simp [val]
theorem lb_snoc {L : List Nat} (h : Lb L) {x : Nat} (hx : x < 4294967296) : Lb (L ++ [x]) := fun y hy => by
  rcases List.mem_append.1 hy with g | g
  · exact h y g
  · rw [List.mem_singleton.1 g]; exact hx
theorem FIn.step {l L : List Nat} {s i c : Nat} (h : FIn l L s i c) (hi : i < l.length) (hl : Lb l) : FIn l (L ++ [(c + l[i] * 2 ^ s) % 4294967296]) s (i + 1) ((c + l[i] * 2 ^ s) / 4294967296) := by
  have hlen := h.len
  subst hlen
  have hx := lb_get hl hi
  have hc := h.c1
  have hv := h.v
  refine ⟨by simp, lb_snoc h.lb (Nat.mod_lt _ (by decide)), ?_, ?_⟩
  · rw [Nat.div_lt_iff_lt_mul (by decide)]
    have : l[L.length] * 2 ^ s ≤ 4294967295 * 2 ^ s := Nat.mul_le_mul_right _ (by omega)
    omega
  · rw [val_snoc, val_take l L.length hi, Nat.pow_succ]
    generalize l[L.length] = x at *
    have e := split_pow (4294967296 ^ L.length) (c + x * 2 ^ s)
    have e2 : 4294967296 ^ L.length * (c + x * 2 ^ s) = c * 4294967296 ^ L.length + 4294967296 ^ L.length * x * 2 ^ s := by rw [Nat.mul_add, Nat.mul_comm _ c, Nat.mul_assoc]
    rw [Nat.add_mul]
    omega
theorem FIn.fin {l L : List Nat} {s c : Nat} (h : FIn l L s l.length c) (hs : s ≤ 32) : val (L ++ [c]) = val l * 2 ^ s ∧ Lb (L ++ [c]) ∧ (L ++ [c]).length = l.length + 1 := by
  have hv := h.v
  have hp : (2 : Nat) ^ s ≤ 2 ^ 32 := Nat.pow_le_pow_right (by decide) hs
  have hc := h.c1
  rw [List.take_of_length_le (Nat.le_refl _)] at hv
  refine ⟨by rw [val_snoc, h.len, ← hv, Nat.mul_comm c], lb_snoc h.lb (by have : (2:Nat) ^ 32 = 4294967296 := rfl; omega), by simp [h.len]⟩
/-- What stands below and above. -/
theorem val_split (l : List Nat) (i : Nat) : val l = val (l.take i) + 4294967296 ^ (l.take i).length * val (l.drop i) := by
  have := val_append (l.take i) (l.drop i)
  rwa [List.take_append_drop] at this
theorem val_split' {l : List Nat} {i : Nat} (h : i ≤ l.length) : val l = val (l.take i) + 4294967296 ^ i * val (l.drop i) := by
  have := val_split l i
  rwa [List.length_take, Nat.min_eq_left h] at this
theorem lb_take {l : List Nat} (h : Lb l) (i : Nat) : Lb (l.take i) := fun x hx => h x (List.mem_of_mem_take hx)
theorem lb_drop {l : List Nat} (h : Lb l) (i : Nat) : Lb (l.drop i) := fun x hx => h x (List.mem_of_mem_drop hx)
theorem val_take_lt {l : List Nat} (h : Lb l) {i : Nat} (hi : i ≤ l.length) : val (l.take i) < 4294967296 ^ i := by
  have := val_lt _ (lb_take h i)
  rwa [List.length_take, Nat.min_eq_left hi] at this
theorem val_take_mod {l : List Nat} (h : Lb l) {i : Nat} (hi : i ≤ l.length) : val (l.take i) = val l % 4294967296 ^ i := by
  rw [val_split' hi, Nat.add_mul_mod_self_left, Nat.mod_eq_of_lt (val_take_lt h hi)]
theorem val_drop_div {l : List Nat} (h : Lb l) {i : Nat} (hi : i ≤ l.length) : val (l.drop i) = val l / 4294967296 ^ i := by
  have hp : 0 < 4294967296 ^ i := Nat.pow_pos (by decide)
  conv => rhs; rw [val_split' hi]
  rw [Nat.add_mul_div_left _ _ hp, Nat.div_eq_of_lt (val_take_lt h hi), Nat.zero_add]
theorem lt_of_top {a b : List Nat} (ha : Lb a) (hlen : a.length = b.length) {i : Nat} (hi : i < a.length) (hd : a.drop (i + 1) = b.drop (i + 1)) (h : a[i] < b[i]) : val a < val b := by
  have e1 := val_split' (l := a) (i := i) (by omega)
  have e2 := val_split' (l := b) (i := i) (by omega)
  have e3 := val_drop hi
  have e4 := val_drop (l := b) (i := i) (by omega)
  rw [hd] at e3
  have e5 := val_take_lt ha (show i ≤ a.length by omega)
  have e6 : 4294967296 ^ i * (val (a.drop i) + 1) ≤ 4294967296 ^ i * val (b.drop i) := Nat.mul_le_mul_left _ (by omega)
  rw [Nat.mul_add, Nat.mul_one] at e6
  omega
theorem canon_lt_of_len {A B : Nat} (h : (canon A).length < (canon B).length) : A < B := by
  rcases Nat.lt_or_ge A B with g | g
  · exact g
  · have h1 := val_lt _ (lb_canon A)
    rw [val_canon] at h1
    have := canon_len (canon A).length B (by omega)
    omega
end Wd
end Go.Proofs.YtmgehfakcnmdnaaGreatDoor
/-
  The walks of math/bits.Add32, Sub32 and Div32.
-/
namespace Go.Proofs.YtmgehfakcnmdnaaGreatDoor
namespace Wd
open Go.RowKit Lw

set_option maxRecDepth 100000 in
set_option maxHeartbeats 1000000 in
theorem add32 (x y c : Nat) (w : World) (hx : x < 4294967296) (hy : y < 4294967296) (hc : c ≤ 1) :
    Calls Tryz.prog 136 #[.int .u32 (x : Int), .int .u32 (y : Int), .int .u32 (c : Int)] w fun e w' => e = .returned (.tuple #[.int .u32 (((x + y + c) % 4294967296 : Nat) : Int), .int .u32 (((x + y + c) / 4294967296 : Nat) : Int)]) ∧ w = w' := by
  go_enter Tryz.func136, Tryz.ntmps136
  go_wp2
  all_goals
    refine bodyPost_ret (results_tmp2 rfl _ _ _) rfl ⟨?_, rfl⟩
    simp
theorem top_bit {n : Nat} (h : n < 4294967296) : n / 2147483648 = if n.testBit 31 then 1 else 0 := by
  rw [Nat.testBit_eq_decide_div_mod_eq]
  have : n / 2 ^ 31 = n / 2147483648 := rfl
  rw [this]
  simp only [decide_eq_true_eq]
  split <;> omega
theorem top_dec {n : Nat} (h : n < 4294967296) : n.testBit 31 = decide (2147483648 ≤ n) := by
  rw [Nat.testBit_eq_decide_div_mod_eq]
  have : n / 2 ^ 31 = n / 2147483648 := rfl
  rw [this, decide_eq_decide]
  omega
theorem borrow_nat (x y c : Nat) (hx : x < 4294967296) (hy : y < 4294967296) (hc : c ≤ 1) :
    (((4294967295 ^^^ x) &&& y) ||| ((4294967295 ^^^ (x ^^^ y)) &&& ((x + 4294967296 - y - c) % 4294967296))) / 2147483648 = if x < y + c then 1 else 0 := by
  have hd : (x + 4294967296 - y - c) % 4294967296 < 4294967296 := Nat.mod_lt _ (by decide)
  have hM : (4294967295 : Nat) < 2 ^ 32 := by decide
  have h1 : ((4294967295 ^^^ x) &&& y) < 2 ^ 32 := Nat.and_lt_two_pow _ hy
  have h2 : ((4294967295 ^^^ (x ^^^ y)) &&& ((x + 4294967296 - y - c) % 4294967296)) < 2 ^ 32 := Nat.and_lt_two_pow _ hd
  rw [top_bit (Nat.or_lt_two_pow h1 h2)]
  simp only [Nat.testBit_or, Nat.testBit_and, Nat.testBit_xor, top_dec hx, top_dec hy, top_dec hd, top_dec (show 4294967295 < 4294967296 by decide)]
  have e : ∀ b : Bool, b = decide (x < y + c) → (if b = true then 1 else 0 : Nat) = if x < y + c then 1 else 0 := fun b h => by rw [h]; simp
  refine e _ ?_
  by_cases a1 : 2147483648 ≤ x <;> by_cases a2 : 2147483648 ≤ y <;> by_cases a3 : 2147483648 ≤ (x + 4294967296 - y - c) % 4294967296 <;> simp [a1, a2, a3] <;> omega
theorem borrow_int (x y c : Nat) (hx : x < 4294967296) (hy : y < 4294967296) (hc : c ≤ 1) :
    bits BinOp.or IntKind.u32 (bits BinOp.and IntKind.u32 (bits BinOp.xor IntKind.u32 IntKind.u32.max (x : Int)) (y : Int)) (bits BinOp.and IntKind.u32 (bits BinOp.xor IntKind.u32 IntKind.u32.max (bits BinOp.xor IntKind.u32 (x : Int) (y : Int))) (((x : Int) - (y : Int) - (c : Int)) % 4294967296)) / 2147483648 = if x < y + c then 1 else 0 := by
  have em : IntKind.u32.max = ((4294967295 : Nat) : Int) := by decide
  have ed : ((x : Int) - (y : Int) - (c : Int)) % 4294967296 = (((x + 4294967296 - y - c) % 4294967296 : Nat) : Int) := by omega
  have hM : (4294967295 : Nat) < 2 ^ 32 := by decide
  have hd : (x + 4294967296 - y - c) % 4294967296 < 4294967296 := Nat.mod_lt _ (by decide)
  have hxy : x ^^^ y < 2 ^ 32 := Nat.xor_lt_two_pow hx hy
  have h1 : ((4294967295 ^^^ x) &&& y) < 2 ^ 32 := Nat.and_lt_two_pow _ hy
  have h2 : ((4294967295 ^^^ (x ^^^ y)) &&& ((x + 4294967296 - y - c) % 4294967296)) < 2 ^ 32 := Nat.and_lt_two_pow _ hd
  have hb := borrow_nat x y c hx hy hc
  rw [em, ed, u32_xor_nat _ _ hM hx, u32_and_nat _ _ (Nat.xor_lt_two_pow hM hx) hy, u32_xor_nat _ _ hx hy, u32_xor_nat _ _ hM hxy, u32_and_nat _ _ (Nat.xor_lt_two_pow hM hxy) hd, u32_or_nat _ _ h1 h2]
  generalize (((4294967295 ^^^ x) &&& y) ||| ((4294967295 ^^^ (x ^^^ y)) &&& ((x + 4294967296 - y - c) % 4294967296))) = N at hb
  by_cases g : x < y + c
  · rw [if_pos g] at hb ⊢; omega
  · rw [if_neg g] at hb ⊢; omega
set_option maxRecDepth 100000 in
set_option maxHeartbeats 1000000 in
theorem sub32 (x y c : Nat) (w : World) (hx : x < 4294967296) (hy : y < 4294967296) (hc : c ≤ 1) :
    Calls Tryz.prog 137 #[.int .u32 (x : Int), .int .u32 (y : Int), .int .u32 (c : Int)] w fun e w' => e = .returned (.tuple #[.int .u32 (((x + 4294967296 - y - c) % 4294967296 : Nat) : Int), .int .u32 (if x < y + c then 1 else 0)]) ∧ w = w' := by
  have ed : ((x : Int) - (y : Int) - (c : Int)) % 4294967296 = ((x + 4294967296 - y - c : Nat) : Int) % 4294967296 := by omega
  have HB := Lib.hid (borrow_int x y c hx hy hc)
  have key : ∀ B C : Int, B = C → Ending.returned (.tuple #[.int .u32 (((x : Int) - (y : Int) - (c : Int)) % 4294967296), .int .u32 B]) = Ending.returned (.tuple #[.int .u32 (((x + 4294967296 - y - c : Nat) : Int) % 4294967296), .int .u32 C]) := fun B C h => by rw [h, ed]
  have Key := Lib.hid key
  clear key ed
  go_enter Tryz.func137, Tryz.ntmps137
  go_wp2
  all_goals
    refine bodyPost_ret (results_tmp2 rfl _ _ _) rfl ⟨?_, rfl⟩
    have hb := HB.out
    first | rw [if_pos ‹_›] at hb | rw [if_neg ‹_›] at hb
    refine Eq.trans ?_ (Key.out _ _ hb)
    simp
theorem sub32n (x y c : Nat) (w : World) (hx : x < 4294967296) (hy : y < 4294967296) (hc : c ≤ 1) :
    Calls Tryz.prog 137 #[.int .u32 (x : Int), .int .u32 (y : Int), .int .u32 (c : Int)] w fun e w' => e = .returned (.tuple #[.int .u32 (((x + 4294967296 - y - c) % 4294967296 : Nat) : Int), .int .u32 ((if x < y + c then 1 else 0 : Nat) : Int)]) ∧ w = w' :=
  (sub32 x y c w hx hy hc).mono fun e w' h => ⟨by rw [h.1]; split <;> rfl, h.2⟩
theorem or_sum (h l : Nat) (hh : h < 4294967296) (hl : l < 4294967296) : bits BinOp.or IntKind.u64 ((h : Int) * 4294967296) (l : Int) = ((h * 4294967296 + l : Nat) : Int) := by
  have e : h * 4294967296 + l = h * 4294967296 ||| l := by
    have := Nat.shiftLeft_add_eq_or_of_lt (show l < 2 ^ 32 by omega) h
    rwa [Nat.shiftLeft_eq] at this
  have e2 : ((h : Int) * 4294967296) = ((h * 4294967296 : Nat) : Int) := by omega
  rw [e2, u64_or_nat _ _ (by omega) (by omega), ← e]
set_option maxRecDepth 100000 in
set_option maxHeartbeats 1000000 in
theorem div32 (h l y : Nat) (w : World) (hh : h < y) (hl : l < 4294967296) (hy : y < 4294967296) :
    Calls Tryz.prog 164 #[.int .u32 (h : Int), .int .u32 (l : Int), .int .u32 (y : Int)] w fun e w' => e = .returned (.tuple #[.int .u32 (((h * 4294967296 + l) / y : Nat) : Int), .int .u32 (((h * 4294967296 + l) % y : Nat) : Int)]) ∧ ∃ n, w' = w.drewN n := by
  have hq := quo_lt hh hl
  have hm : (h * 4294967296 + l) % y < 4294967296 := Nat.lt_trans (Nat.mod_lt _ (by omega)) hy
  have r1 := or_sum h l (by omega) hl
  have ht : h * 4294967296 + l < 18446744073709551616 := by omega
  generalize h * 4294967296 + l = T at *
  have y0 : ¬ (y : Int) = 0 := by omega
  have hr : ¬ (y : Int) ≤ (h : Int) := by omega
  have r2 : (T : Int).tdiv (y : Int) = ((T / y : Nat) : Int) := by rw [Int.tdiv_eq_ediv_of_nonneg (by omega)]; rfl
  have r3 : (T : Int).tmod (y : Int) = ((T % y : Nat) : Int) := by rw [Int.tmod_eq_emod_of_nonneg (by omega)]; rfl
  generalize T / y = q at *
  generalize T % y = m at *
  have r4 : IntKind.u64.wrap (q : Int) = (q : Int) := IntWalk.u64_in _ (by omega)
  have r5 : (q : Int) % 4294967296 = (q : Int) := by omega
  have r6 : (m : Int) % 4294967296 = (m : Int) := by omega
  go_enter Tryz.func164, Tryz.ntmps164
  go_wp2
  go_quiet (fail)
  go_wp2
  exact bodyPost_ret (results_tmp2 rfl _ _ _) rfl ⟨rfl, nq, rfl⟩
end Wd
end Go.Proofs.YtmgehfakcnmdnaaGreatDoor
