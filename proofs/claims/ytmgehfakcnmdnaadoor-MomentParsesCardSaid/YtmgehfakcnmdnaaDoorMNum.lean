/-
  Reading digits: number of the reference.
-/
import Derived.Test.YtmgehfakcnmdnaaDoorLaw
import Derived.Test.YtmgehfakcnmdnaaDoorRows
import Derived.ProofKit
import Derived.Lib.Hide
import Derived.Laws.RangeAny
import Derived.LoopTactic
namespace Go.Proofs.YtmgehfakcnmdnaaDoor
namespace Ap
open Go.RowKit Lw

def numL (l : List UInt8) : Int := l.foldl (fun n c => 10 * n + ((c.toNat : Int) - 48)) 0
def allD (l : List UInt8) : Prop := ∀ c ∈ l, 48 ≤ (c.toNat : Int) ∧ (c.toNat : Int) ≤ 57
instance (l : List UInt8) : Decidable (allD l) := by unfold allD; infer_instance
/-- The number that a string of digits is, or -1. -/
def numV (l : List UInt8) : Int := if allD l then numL l else -1
theorem numL_snoc (l : List UInt8) (c : UInt8) : numL (l ++ [c]) = 10 * numL l + ((c.toNat : Int) - 48) := by simp [numL]
theorem allD_snoc {l : List UInt8} {c : UInt8} (h : allD l) (h1 : 48 ≤ (c.toNat : Int)) (h2 : (c.toNat : Int) ≤ 57) : allD (l ++ [c]) := fun x hx => by
  rcases List.mem_append.1 hx with g | g
  · exact h x g
  · have := List.mem_singleton.1 g; subst this; exact ⟨h1, h2⟩
theorem take_snoc (s : ByteArray) (k : Nat) (h : k < s.size) : s.data.toList.take (k + 1) = s.data.toList.take k ++ [s[k]] := by
  rw [List.take_succ_eq_append_getElem (by simpa using h)]; rfl
theorem take_all (s : ByteArray) (k : Nat) (h : ¬ k < s.size) : s.data.toList.take k = s.data.toList := List.take_of_length_le (by simp; omega)
theorem numL_bd (l : List UInt8) : ∀ k, k ≤ l.length → allD (l.take k) → 0 ≤ numL (l.take k) ∧ numL (l.take k) < 10 ^ k
  | 0, _, _ => by simp [numL]
  | k + 1, hk, h => by
    have e : l.take (k + 1) = l.take k ++ [l[k]] := List.take_succ_eq_append_getElem (by omega)
    rw [e] at h ⊢
    have ih := numL_bd l k (by omega) (fun x hx => h x (List.mem_append_left _ hx))
    have hc := h l[k] (List.mem_append_right _ (List.mem_singleton.2 rfl))
    rw [numL_snoc, Int.pow_succ]
    omega
theorem pow_17 : ∀ k : Nat, k < 18 → (10 : Int) ^ k ≤ 100000000000000000 := by decide
theorem numL_17 (s : ByteArray) (k : Nat) (hk : k ≤ s.size) (h18 : k < 18) (h : allD (s.data.toList.take k)) : 0 ≤ numL (s.data.toList.take k) ∧ numL (s.data.toList.take k) < 100000000000000000 := by
  have := numL_bd s.data.toList k (by simpa using hk) h
  have := pow_17 k h18
  omega
theorem numV_not (s : ByteArray) (k : Nat) (hk : k < s.size) (h : ¬ (48 ≤ (s[k].toNat : Int) ∧ (s[k].toNat : Int) ≤ 57)) : numV s.data.toList = -1 := by
  unfold numV
  rw [if_neg]
  intro g
  exact h (g s[k] (by
    have : s[k] = s.data.toList[k]'(by simpa using hk) := rfl
    rw [this]; exact List.getElem_mem _))
theorem numV_all (s : ByteArray) (k : Nat) (hk : ¬ k < s.size) (h : allD (s.data.toList.take k)) : numL (s.data.toList.take k) = numV s.data.toList := by
  rw [take_all s k hk] at h ⊢
  unfold numV
  rw [if_pos h]
theorem byte_bd (b : UInt8) : 0 ≤ (b.toNat : Int) ∧ (b.toNat : Int) < 256 := by have := b.toNat_lt; omega
theorem ret_i {a b : Int} (h : a = b) : Ending.returned (.int .i64 a) = .returned (.int .i64 b) := by rw [h]
theorem val_i {a b : Int} (h : a = b) : Value.int .i64 a = .int .i64 b := by rw [h]

set_option maxHeartbeats 1000000 in
theorem number_any (s : ByteArray) (w : World) (hs : s.size ≤ 18) :
    Calls Tryd.prog 13 #[.string s] w fun e w' => e = .returned (.int .i64 (numV s.data.toList)) ∧ w = w' := by
  go_enter Tryd.func13, Tryd.ntmps13
  go_wp2
  go_loop [3, 4] (fun n i => ∃ k : Nat, k ≤ s.size ∧ i = .int .i64 k ∧ n = .int .i64 (numL (s.data.toList.take k)) ∧ Hid (allD (s.data.toList.take k))) (fun _ i => s.size - (intOf i).toNat)
  case atStart => exact ⟨0, Nat.zero_le _, rfl, rfl, Lib.hid (by intro c hc; simp at hc)⟩
  case round =>
    obtain ⟨k, hk, rfl, rfl, D⟩ := hrel
    by_cases hlt : k < s.size
    · have nb := numL_17 s k hk (by omega) D.out
      have bb := byte_bd s[k]
      by_cases d : 48 ≤ (s[k].toNat : Int) ∧ (s[k].toNat : Int) ≤ 57
      · have HS := Lib.hid (show numL (s.data.toList.take (k + 1)) = 10 * numL (s.data.toList.take k) + ((s[k].toNat : Int) - 48) by rw [take_snoc s k hlt, numL_snoc])
        have D2 := Lib.hid (show allD (s.data.toList.take (k + 1)) by rw [take_snoc s k hlt]; exact allD_snoc D.out d.1 d.2)
        obtain ⟨d1, d2⟩ := d
        go_wp2
        go_round
        case rel => exact ⟨k + 1, by omega, by go_num, val_i HS.out.symm, D2⟩
        case measure => simp [intOf]; omega
      · have N := Lib.hid (numV_not s k hlt d)
        have d' : (s[k].toNat : Int) < 48 ∨ 57 < (s[k].toNat : Int) := by omega
        clear d
        go_wp2
        all_goals first | (exfalso; omega) | (go_ret; exact ⟨ret_i N.out.symm, rfl⟩)
    · have N := Lib.hid (numV_all s k hlt D.out)
      go_wp2
      go_ret
      exact ⟨ret_i N.out, rfl⟩
end Ap
end Go.Proofs.YtmgehfakcnmdnaaDoor
