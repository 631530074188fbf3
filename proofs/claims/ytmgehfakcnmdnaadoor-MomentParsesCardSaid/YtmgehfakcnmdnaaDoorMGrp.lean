/-
  Plain law of the numbers between separators, for any string and any pattern; no walk here.
-/
import Derived.Test.YtmgehfakcnmdnaaDoorMLike
namespace Go.Proofs.YtmgehfakcnmdnaaDoor
namespace Ap
open Go.RowKit Lw

/-- Is the byte before one of a number? -/
def ins (p : ByteArray) : Nat → Bool
  | 0 => false
  | k + 1 => decide (bt p k = 48)
/-- The numbers of the first bytes. -/
def grpL (s p : ByteArray) : Nat → List Int
  | 0 => []
  | k + 1 => if bt p k = 48 then (if ins p k = true then (grpL s p k).dropLast ++ [10 * (grpL s p k).getLastD 0 + (bt s k - 48)] else grpL s p k ++ [bt s k - 48]) else grpL s p k
def runAt (p : ByteArray) : Nat → Nat
  | 0 => 0
  | k + 1 => if bt p k = 48 then runAt p k + 1 else 0
theorem grp_skip {s p : ByteArray} {k : Nat} (h : ¬ bt p k = 48) : grpL s p (k + 1) = grpL s p k := by simp only [grpL]; rw [if_neg h]
theorem grp_new {s p : ByteArray} {k : Nat} (h : bt p k = 48) (g : ins p k = false) : grpL s p (k + 1) = grpL s p k ++ [bt s k - 48] := by
  simp only [grpL]; rw [if_pos h, g]; simp
theorem grp_on {s p : ByteArray} {k : Nat} {X : List Int} {v : Int} (h : bt p k = 48) (g : ins p k = true) (e : grpL s p k = X ++ [v]) : grpL s p (k + 1) = X ++ [10 * v + (bt s k - 48)] := by
  simp only [grpL]; rw [if_pos h, if_pos g, e]; simp
theorem grp_len (s p : ByteArray) : ∀ k, (grpL s p k).length ≤ k
  | 0 => by simp [grpL]
  | k + 1 => by
    have ih := grp_len s p k
    simp only [grpL]
    split
    · split
      · simp; omega
      · simp; omega
    · omega
theorem grp_last (s p : ByteArray) : ∀ k, likeTo s p k → ins p k = true → ∃ X v, grpL s p k = X ++ [v] ∧ 0 ≤ v ∧ v < 10 ^ runAt p k ∧ 1 ≤ runAt p k
  | 0, _, h => by cases h
  | k + 1, hl, h => by
    have hb : bt p k = 48 := of_decide_eq_true h
    have hd := (hl k (by omega)).1 hb
    have hr : runAt p (k + 1) = runAt p k + 1 := by simp only [runAt]; rw [if_pos hb]
    cases g : ins p k with
    | false =>
      refine ⟨_, _, grp_new hb g, by omega, ?_, by omega⟩
      have : (1 : Int) ≤ 10 ^ runAt p k := Int.pow_pos (by omega)
      rw [hr, Int.pow_succ]
      omega
    | true =>
      obtain ⟨X, v, e, h0, h1, _⟩ := grp_last s p k (fun j hj => hl j (by omega)) g
      refine ⟨_, _, grp_on hb g e, by omega, ?_, by omega⟩
      rw [hr, Int.pow_succ]
      omega
theorem ext_snoc (s : ByteArray) (i n : Nat) (h : i + n < s.size) : (s.extract i (i + (n + 1))).data.toList = (s.extract i (i + n)).data.toList ++ [s[i + n]] := by
  have e : ∀ j, (s.extract i (i + j)).data.toList = (s.data.toList.drop i).take j := fun j => by
    simp [ByteArray.data_extract, Array.toList_extract]
  rw [e, e, List.take_succ_eq_append_getElem (by simp; omega)]
  simp
  rfl
/-- A number of the pattern is the number of its bytes. -/
theorem grp_run (s p : ByteArray) (i : Nat) (h0 : ins p i = false) : ∀ n, 1 ≤ n → i + n ≤ s.size → (∀ j, i ≤ j → j < i + n → bt p j = 48) → grpL s p (i + n) = grpL s p i ++ [numL (s.extract i (i + n)).data.toList]
  | 0, h, _, _ => absurd h (by omega)
  | 1, _, hs, hp => by
    rw [show i + 1 = i + (0 + 1) by omega, ext_snoc s i 0 (by omega), grp_new (by exact hp i (by omega) (by omega)) h0]
    have := bt_of s (i + 0) (by omega)
    simp [numL]
    simpa using this
  | n + 2, _, hs, hp => by
    have ih := grp_run s p i h0 (n + 1) (by omega) (by omega) fun j a b => hp j a (by omega)
    have hi : ins p (i + (n + 1)) = true := decide_eq_true (hp (i + n) (by omega) (by omega))
    have e := grp_on (hp (i + (n + 1)) (by omega) (by omega)) hi ih
    rw [show i + (n + 2) = i + (n + 1) + 1 by omega, e, show i + (n + 1) + 1 = i + (n + 1 + 1) by omega, ext_snoc s i (n + 1) (by omega), numL_snoc, ← bt_of s (i + (n + 1)) (by omega)]
end Ap
end Go.Proofs.YtmgehfakcnmdnaaDoor
