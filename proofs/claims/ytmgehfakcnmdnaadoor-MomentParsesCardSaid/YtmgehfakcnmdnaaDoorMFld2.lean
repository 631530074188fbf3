/-
  The walk of fields of package moment.
-/
import Derived.Test.YtmgehfakcnmdnaaDoorMFld
namespace Go.Proofs.YtmgehfakcnmdnaaDoor
namespace Ap
open Go.RowKit Lw

/-- What fields returns: the numbers, or that the string does not follow the pattern. -/
def FldPost (s p : ByteArray) (w : World) (e : Ending) (w' : World) : Prop := Below w.heap.size w w' ∧
  ((likeP s p ∧ ∃ v, e = .returned (.tuple #[v, .bool true]) ∧ w'.ownsRow (w.heap.size + 4) 3 1 v (grpL s p s.size).length ((grpL s p s.size).map (Value.int .i64))) ∨
   (¬ likeP s p ∧ e = .returned (.tuple #[.slice none 0 0, .bool false])))
theorem read_any (s p : ByteArray) (w0 w : World) (B : Nat) (k : Nat) (hs : k < s.size) (hp : k < p.size) (hS : FS s p w0 B (grpL s p k) (ins p k) w) (hl : likeTo s p k) (hr : runAt p k ≤ 8) (hk : k ≤ 900) :
    Calls Tryd.prog 28 #[.int .i64 k, .pointer (some ⟨B, 0, none⟩), .pointer (some ⟨B + 1, 0, none⟩), .pointer (some ⟨B + 3, 0, none⟩), .pointer (some ⟨B + 2, 0, none⟩)] w fun e w' => e = .returned (.bool (decide (okAt s p k))) ∧ FS s p w0 B (grpL s p (k + 1)) (ins p (k + 1)) w' := by
  have gl := grp_len s p k
  by_cases hb : bt p k = 48
  · have hi : ins p (k + 1) = true := decide_eq_true hb
    rw [hi]
    cases hc : ins p k with
    | false =>
      rw [hc] at hS
      rw [grp_new hb hc]
      exact read_new s p w0 w B (grpL s p k) k hs hp hS hb (by omega)
    | true =>
      rw [hc] at hS
      obtain ⟨X, v, e, h0, h1, _⟩ := grp_last s p k hl hc
      rw [grp_on hb hc e]
      rw [e] at hS gl
      have h8 : (10 : Int) ^ runAt p k ≤ 100000000 := by
        have : ∀ r : Nat, r ≤ 8 → (10 : Int) ^ r ≤ 100000000 := by decide
        exact this _ hr
      exact read_on s p w0 w B X v k hs hp hS hb h0 (by omega) (by simp at gl; omega)
  · have hi : ins p (k + 1) = false := decide_eq_false hb
    rw [hi, grp_skip hb]
    exact read_sep s p w0 w B (grpL s p k) (ins p k) k hs hp hS hb
set_option maxRecDepth 100000 in
set_option maxHeartbeats 2000000 in
theorem fields_any (s p : ByteArray) (w : World) (hs : p.size ≤ 100) (hz : s.size ≤ maxLen) (hr : ∀ k, k < p.size → runAt p k ≤ 8) :
    Calls Tryd.prog 10 #[.string s, .string p] w (FldPost s p w) := by
  by_cases hn : s.size = p.size
  · have i0 : ((s.size : Int) != (p.size : Int)) = false := by simp; omega
    have S0 : FS s p w w.heap.size [] false ((((w.alloc (.cells #[.string s] 9)).alloc (.cells #[.string p] 9)).alloc (.cells #[.slice none 0 0] 32)).alloc (.cells #[.bool false] 4)) := by
      have z1 : (w.alloc (.cells #[.string s] 9)).heap.size = w.heap.size + 1 := by simp
      have z2 : ((w.alloc (.cells #[.string s] 9)).alloc (.cells #[.string p] 9)).heap.size = w.heap.size + 2 := by simp
      have z3 : (((w.alloc (.cells #[.string s] 9)).alloc (.cells #[.string p] 9)).alloc (.cells #[.slice none 0 0] 32)).heap.size = w.heap.size + 3 := by simp
      have n0 := heap_alloc_new w (.cells #[.string s] 9)
      have n1 := heap_alloc_new (w.alloc (.cells #[.string s] 9)) (.cells #[.string p] 9)
      have n2 := heap_alloc_new ((w.alloc (.cells #[.string s] 9)).alloc (.cells #[.string p] 9)) (.cells #[.slice none 0 0] 32)
      have n3 := heap_alloc_new (((w.alloc (.cells #[.string s] 9)).alloc (.cells #[.string p] 9)).alloc (.cells #[.slice none 0 0] 32)) (.cells #[.bool false] 4)
      rw [z1] at n1
      rw [z2] at n2
      rw [z3] at n3
      refine ⟨?_, ?_, ⟨.slice none 0 0, ?_, World.ownsRow_nil _ _ _ _⟩, n3, ?_⟩
      · rw [heap_alloc_old _ _ (by omega), heap_alloc_old _ _ (by omega), heap_alloc_old _ _ (by omega)]; exact n0
      · rw [heap_alloc_old _ _ (by omega), heap_alloc_old _ _ (by omega)]; exact n1
      · rw [heap_alloc_old _ _ (by omega)]; exact n2
      · exact ((((Below.refl _ _).alloc (Nat.le_refl _) _).alloc (by omega) _).alloc (by omega) _).alloc (by omega) _
    have H0 := Lib.hid S0
    clear S0
    go_enter Tryd.func10, Tryd.ntmps10
    go_wp2_with fail
    go_loopw [18] (fun i wr => ∃ k : Nat, k ≤ s.size ∧ i = .int .i64 k ∧ FS s p w w.heap.size (grpL s p k) (ins p k) wr ∧ Hid (likeTo s p k)) (fun i _ => s.size - (intOf i).toNat)
    case atStart => exact ⟨0, Nat.zero_le _, rfl, H0.out, Lib.hid fun k hk => absurd hk (by omega)⟩
    case round =>
      obtain ⟨k, hk, rfl, S1, D⟩ := hrel
      by_cases hlt : k < s.size
      · have i1 : (k : Int) < (s.size : Int) := by omega
        have S2 := Lib.hid S1
        clear S1
        go_wp2_with fail
        refine (read_any s p w _ w.heap.size k hlt (by omega) S2.out D.out (hr k (by omega)) (by omega)).mono ?_
        rintro e w2 ⟨rfl, S3⟩
        have S4 := Lib.hid S3
        clear S3
        by_cases ho : okAt s p k
        · have D2 := Lib.hid (likeTo_s D.out ho)
          rw [decide_eq_true ho]
          go_wp2_with fail
          go_roundw
          case rel => exact ⟨k + 1, by omega, by go_num, S4.out, D2⟩
          case measure => simp [intOf]; omega
        · have N := Lib.hid (show ¬ likeP s p from fun g => ho (g.2 k hlt))
          rw [decide_eq_false ho]
          clear ho
          go_wp2_with fail
          go_ret2
          exact ⟨S4.out.below, Or.inr ⟨N.out, rfl⟩⟩
      · obtain rfl : k = s.size := by omega
        obtain ⟨v, hv, hown⟩ := S1.co
        have c2 := cell_of_one hv
        have Z := Lib.hid (And.intro S1.below hown)
        clear S1 hv hown
        go_wp2_with fail
        go_ret2
        exact ⟨Z.out.1, Or.inl ⟨⟨hn, D.out⟩, v, rfl, Z.out.2⟩⟩
  · have i0 : ((s.size : Int) != (p.size : Int)) = true := by simp; omega
    have hno : ¬ likeP s p := fun g => hn g.1
    go_enter Tryd.func10, Tryd.ntmps10
    go_wp2_with fail
    go_ret2
    exact ⟨((Below.refl _ _).alloc (Nat.le_refl _) _).alloc (by simp) _, Or.inr ⟨hno, rfl⟩⟩
end Ap
end Go.Proofs.YtmgehfakcnmdnaaDoor
