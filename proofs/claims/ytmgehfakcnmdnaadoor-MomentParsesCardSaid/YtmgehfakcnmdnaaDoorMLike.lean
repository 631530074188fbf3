/-
  Texts that follow a pattern: like of the reference.
-/
import Derived.Test.YtmgehfakcnmdnaaDoorMTen
namespace Go.Proofs.YtmgehfakcnmdnaaDoor
namespace Ap
open Go.RowKit Lw

abbrev bt (s : ByteArray) (k : Nat) : Int := ((s.get! k).toNat : Int)
/-- A byte that follows a pattern: a digit where the pattern has one, and the pattern's byte elsewhere. -/
def okAt (s p : ByteArray) (k : Nat) : Prop := (bt p k = 48 → 48 ≤ bt s k ∧ bt s k ≤ 57) ∧ (¬ bt p k = 48 → bt s k = bt p k)
instance (s p : ByteArray) (k : Nat) : Decidable (okAt s p k) := by unfold okAt; infer_instance
def likeTo (s p : ByteArray) (n : Nat) : Prop := ∀ k, k < n → okAt s p k
instance (s p : ByteArray) (n : Nat) : Decidable (likeTo s p n) := by unfold likeTo; infer_instance
def likeP (s p : ByteArray) : Prop := s.size = p.size ∧ likeTo s p s.size
instance (s p : ByteArray) : Decidable (likeP s p) := by unfold likeP; infer_instance
theorem bt_of (s : ByteArray) (i : Nat) (h : i < s.size) : bt s i = (s[i].toNat : Int) := by simp [bt, ByteArray.get!, getElem!_pos, h]; rfl
theorem like_no {s p : ByteArray} {k : Nat} (hk : k < s.size) (h : ¬ okAt s p k) : decide (likeP s p) = false := decide_eq_false fun g => h (g.2 k hk)
theorem like_yes {s p : ByteArray} {k : Nat} (hn : s.size = p.size) (hk : ¬ k < s.size) (h : likeTo s p k) : decide (likeP s p) = true := decide_eq_true ⟨hn, fun j hj => h j (by omega)⟩
theorem likeTo_s {s p : ByteArray} {k : Nat} (h : likeTo s p k) (g : okAt s p k) : likeTo s p (k + 1) := fun j hj => by
  by_cases e : j = k
  · subst e; exact g
  · exact h j (by omega)
theorem ret_b {a b : Bool} (h : a = b) : Ending.returned (.bool a) = .returned (.bool b) := by rw [h]
set_option maxHeartbeats 1000000 in
theorem like_any (s p : ByteArray) (w : World) (hs : s.size ≤ 100) :
    Calls Tryd.prog 12 #[.string s, .string p] w fun e w' => e = .returned (.bool (decide (likeP s p))) ∧ Below w.heap.size w w' := by
  by_cases hn : s.size = p.size
  · have i0 : ((s.size : Int) == (p.size : Int)) = true := beq_iff_eq.2 (by omega)
    go_enter Tryd.func12, Tryd.ntmps12
    go_wp2
    go_loopw [5] (fun i wr => ∃ k : Nat, k ≤ s.size ∧ i = .int .i64 k ∧ Hid (likeTo s p k) ∧ Below w.heap.size w wr) (fun i _ => s.size - (intOf i).toNat)
    case atStart => exact ⟨0, Nat.zero_le _, rfl, Lib.hid fun k hk => absurd hk (by omega), Below.refl _ _⟩
    case round =>
      obtain ⟨k, hk, rfl, D, hB⟩ := hrel
      by_cases hlt : k < s.size
      · have hlp : k < p.size := by omega
        have bs := bt_of s k hlt
        have bp := bt_of p k hlp
        have O := Lib.hid (show okAt s p k ↔ (((p[k].toNat : Nat) : Int) = 48 → 48 ≤ ((s[k].toNat : Nat) : Int) ∧ ((s[k].toNat : Nat) : Int) ≤ 57) ∧ (¬ ((p[k].toNat : Nat) : Int) = 48 → ((s[k].toNat : Nat) : Int) = ((p[k].toNat : Nat) : Int)) by unfold okAt; rw [bs, bp])
        clear bs bp
        have bb := byte_bd s[k]
        have bb2 := byte_bd p[k]
        by_cases c1 : (p[k].toNat : Int) = 48
        · have d1 : ((p[k].toNat : Int) == 48) = true := beq_iff_eq.2 c1
          by_cases c2 : (s[k].toNat : Int) < 48
          · have N := Lib.hid (like_no hlt fun g => by have := (O.out.1 g).1 c1; omega)
            have d2 : decide ((s[k].toNat : Int) < 48) = true := decide_eq_true c2
            clear c1 c2 bb bb2
            go_wp2
            go_quiet (fail)
            go_wp2
            go_ret
            exact ⟨ret_b N.out.symm, drewN_below2 hB _⟩
          · have d2 : decide ((s[k].toNat : Int) < 48) = false := decide_eq_false c2
            by_cases c3 : 57 < (s[k].toNat : Int)
            · have N := Lib.hid (like_no hlt fun g => by have := (O.out.1 g).1 c1; omega)
              have d3 : decide (57 < (s[k].toNat : Int)) = true := decide_eq_true c3
              clear c1 c2 c3 bb bb2
              go_wp2
              go_quiet (fail)
              go_wp2
              go_ret
              exact ⟨ret_b N.out.symm, drewN_below2 hB _⟩
            · have d3 : decide (57 < (s[k].toNat : Int)) = false := decide_eq_false c3
              have D2 := Lib.hid (likeTo_s D.out (O.out.2 ⟨fun _ => by omega, fun g => absurd c1 g⟩))
              have d4 : ((p[k].toNat : Int) != 48) = false := by simp [c1]
              clear c1 c2 c3 bb bb2
              go_wp2
              go_quiet (fail)
              go_wp2
              go_roundw
              case rel => exact ⟨k + 1, by omega, by go_num, D2, drewN_below2 hB _⟩
              case measure => simp [intOf]; omega
        · have d1 : ((p[k].toNat : Int) == 48) = false := beq_eq_false_iff_ne.2 c1
          have d4 : ((p[k].toNat : Int) != 48) = true := by simp [c1]
          by_cases c2 : (s[k].toNat : Int) = (p[k].toNat : Int)
          · have D2 := Lib.hid (likeTo_s D.out (O.out.2 ⟨fun g => absurd g c1, fun _ => c2⟩))
            have d5 : ((s[k].toNat : Int) != (p[k].toNat : Int)) = false := by simp [c2]
            clear c1 c2 bb bb2
            go_wp2
            go_quiet (fail)
            go_wp2
            go_roundw
            case rel => exact ⟨k + 1, by omega, by go_num, D2, drewN_below2 hB _⟩
            case measure => simp [intOf]; omega
          · have N := Lib.hid (like_no hlt fun g => c2 ((O.out.1 g).2 c1))
            have d5 : ((s[k].toNat : Int) != (p[k].toNat : Int)) = true := by simp [c2]
            clear c1 c2 bb bb2
            go_wp2
            go_quiet (fail)
            go_wp2
            go_ret
            exact ⟨ret_b N.out.symm, drewN_below2 hB _⟩
      · have N := Lib.hid (like_yes hn hlt D.out)
        go_wp2
        go_ret
        exact ⟨ret_b N.out.symm, hB⟩
  · have i0 : ((s.size : Int) == (p.size : Int)) = false := beq_eq_false_iff_ne.2 (by omega)
    have N := Lib.hid (show decide (likeP s p) = false from decide_eq_false fun g => hn g.1)
    go_enter Tryd.func12, Tryd.ntmps12
    go_wp2
    go_ret
    exact ⟨ret_b N.out.symm, Below.refl _ _⟩
end Ap
end Go.Proofs.YtmgehfakcnmdnaaDoor
