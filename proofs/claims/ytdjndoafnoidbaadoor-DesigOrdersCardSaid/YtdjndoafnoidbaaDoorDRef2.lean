/-
  The walks of Before and Compare of the reference.
-/
import Derived.Test.YtdjndoafnoidbaaDoorDRef1
import Derived.Test.YtdjndoafnoidbaaDoorDWalk2
namespace Go.Proofs.YtdjndoafnoidbaaDoor
namespace Dw
open Go.RowKit Dp Lw

/-- The order of two rows of five numbers, from a place on. -/
def lexRem (f g : Nat → Int) (j : Nat) : Nat → Int
  | 0 => 0
  | r + 1 => if f j < g j then -1 else if g j < f j then 1 else lexRem f g (j + 1) r
theorem lex_five (a b c d e a' b' c' d' e' : Int) : lexRem (seqAt [a, b, c, d, e]) (seqAt [a', b', c', d', e']) 0 5 = orr (sgn a a') (orr (sgn b b') (orr (sgn c c') (orr (sgn d d') (sgn e e')))) := by
  have h : ∀ (x y r : Int), (if x < y then -1 else if y < x then 1 else r) = orr (sgn x y) r := fun x y r => by
    unfold orr sgn
    by_cases h1 : x < y
    · rw [if_pos h1, if_pos h1, if_neg (by omega)]
    · rw [if_neg h1, if_neg h1]
      by_cases h2 : y < x
      · rw [if_pos h2, if_pos h2, if_neg (by omega)]
      · rw [if_neg h2, if_neg h2, if_pos rfl]
  simp only [lexRem, h]
  simp only [seqAt, List.getD_cons_zero, List.getD_cons_succ]
  have h0 : ∀ x : Int, orr x 0 = x := fun x => by unfold orr; split <;> omega
  rw [h0]

theorem cells5 (w : World) (a b c d e : Int) (T : TypeId) : ∀ j, j < 5 → (w.alloc (.cells #[.int .i64 a, .int .i64 b, .int .i64 c, .int .i64 d, .int .i64 e] T)).cell? ⟨w.heap.size, j, none⟩ = some (.int .i64 (seqAt [a, b, c, d, e] j)) := fun j hj => by
  rw [World.cell?_alloc_at _ _ _ _ rfl]
  match j, hj with
  | 0, _ => rfl
  | 1, _ => rfl
  | 2, _ => rfl
  | 3, _ => rfl
  | 4, _ => rfl

theorem cells5n (w : World) (a b c d e : Int) (T : TypeId) (n : Nat) (hn : n = w.heap.size) : ∀ j, j < 5 → (w.alloc (.cells #[.int .i64 a, .int .i64 b, .int .i64 c, .int .i64 d, .int .i64 e] T)).cell? ⟨n, j, none⟩ = some (.int .i64 (seqAt [a, b, c, d, e] j)) := by
  subst hn; exact cells5 w a b c d e T
theorem cells5p (w : World) (o : Obj) (f : Nat → Int) (n : Nat) (hn : n < w.heap.size) (h : ∀ j, j < 5 → w.cell? ⟨n, j, none⟩ = some (.int .i64 (f j))) : ∀ j, j < 5 → (w.alloc o).cell? ⟨n, j, none⟩ = some (.int .i64 (f j)) := fun j hj => by
  rw [World.cell?_alloc_past _ _ _ hn]; exact h j hj

/-- What a walk over two rows of five knows of its world. -/
structure Rows5 (w W : World) (f g : Nat → Int) : Prop where
  a : ∀ j, j < 5 → W.cell? ⟨w.heap.size + 1 + 1, j, none⟩ = some (.int .i64 (f j))
  b : ∀ j, j < 5 → W.cell? ⟨w.heap.size + 1 + 1 + 1, j, none⟩ = some (.int .i64 (g j))
  below : Below w.heap.size w W
theorem rows5_new (w : World) (o1 o2 : Obj) (T : TypeId) (a b c d e a' b' c' d' e' : Int) :
    Rows5 w ((((w.alloc o1).alloc o2).alloc (.cells #[.int .i64 a, .int .i64 b, .int .i64 c, .int .i64 d, .int .i64 e] T)).alloc (.cells #[.int .i64 a', .int .i64 b', .int .i64 c', .int .i64 d', .int .i64 e'] T)) (seqAt [a, b, c, d, e]) (seqAt [a', b', c', d', e']) :=
  ⟨cells5p _ _ _ _ (by simp) (cells5n _ _ _ _ _ _ _ _ (by simp)), cells5n _ _ _ _ _ _ _ _ (by simp),
   ((((Below.refl _ _).alloc (Nat.le_refl _) _).alloc (by simp) _).alloc (by simp; omega) _).alloc (by simp; omega) _⟩


set_option maxRecDepth 100000 in
set_option maxHeartbeats 4000000 in
theorem before_any (n y u s c n' y' u' s' c' : Int) (w : World) (u0 : 0 ≤ u) (u1 : u < 256) (s0 : 0 ≤ s) (s1 : s < 256) (u0' : 0 ≤ u') (u1' : u' < 256) (s0' : 0 ≤ s') (s1' : s' < 256) :
    Calls Tryd.prog 31 #[desigV n y u s c, desigV n' y' u' s' c'] w fun e w' => e = .returned (.int .i64 (cmpR n y u s c n' y' u' s' c')) ∧ Below w.heap.size w w' := by
  by_cases hn : n = 0
  · subst hn
    by_cases hn' : n' = 0
    · subst hn'
      have Fin := Lib.hid (show lexRem (seqAt [15396336, y, u, c, s]) (seqAt [15396336, y', u', c', s']) 0 5 = cmpR 0 y u s c 0 y' u' s' c' by rw [lex_five]; unfold cmpR; rw [show big 0 = 15396336 from rfl])
      have rw5 := rows5_new w (.cells #[.int .i64 0, .int .i64 y, .int .u8 u, .int .u8 s, .int .i64 c] 23) (.cells #[.int .i64 0, .int .i64 y', .int .u8 u', .int .u8 s', .int .i64 c'] 23) 78 15396336 y u c s 15396336 y' u' c' s'
      go_enter Tryd.func31, Tryd.ntmps31
      go_wp2_with fail
      generalize (((w.alloc (.cells #[.int .i64 0, .int .i64 y, .int .u8 u, .int .u8 s, .int .i64 c] 23)).alloc (.cells #[.int .i64 0, .int .i64 y', .int .u8 u', .int .u8 s', .int .i64 c'] 23)).alloc (.cells #[.int .i64 15396336, .int .i64 y, .int .i64 u, .int .i64 c, .int .i64 s] 78)).alloc (.cells #[.int .i64 15396336, .int .i64 y', .int .i64 u', .int .i64 c', .int .i64 s'] 78) = W at *
      obtain ⟨ra, rb, hB⟩ := rw5
      generalize seqAt [15396336, y, u, c, s] = f at *
      generalize seqAt [15396336, y', u', c', s'] = g at *
      have Ra := Lib.hid ra
      have Rb := Lib.hid rb
      clear ra rb
      go_loopw [7] (fun i wr => ∃ j q : Nat, j ≤ 5 ∧ i = .int .i64 j ∧ wr = W.drewN q ∧ Hid (lexRem f g 0 5 = lexRem f g j (5 - j))) (fun i _ => 5 - (intOf i).toNat)
      case atStart => exact ⟨0, 0, by omega, rfl, rfl, Lib.hid rfl⟩
      case round =>
        obtain ⟨j, q, hj, rfl, rfl, hO⟩ := hrel
        by_cases hlt : j < 5
        · have ca := Ra.out j hlt
          have cb := Rb.out j hlt
          have i0 : (0 : Int) ≤ (j : Int) := by omega
          have i1 : (j : Int) < 5 := by omega
          have es : lexRem f g j (5 - j) = if f j < g j then -1 else if g j < f j then 1 else lexRem f g (j + 1) (5 - (j + 1)) := by
            rw [show 5 - j = (5 - (j + 1)) + 1 by omega]; rfl
          by_cases h1 : f j < g j
          · rw [if_pos h1] at es
            have Es := Lib.hid es
            clear es
            go_wp2
            go_quiet (fail)
            go_wp2
            go_ret
            exact ⟨ret_int (by rw [← Fin.out, hO.out, Es.out]), drewN_below2 (drewN_below2 hB _) _⟩
          · rw [if_neg h1] at es
            have d1 : decide (f j < g j) = false := by simpa using h1
            by_cases h2 : g j < f j
            · rw [if_pos h2] at es
              have Es := Lib.hid es
              clear es
              go_wp2
              go_quiet (fail)
              go_wp2
              go_quiet (fail)
              go_wp2
              go_ret
              exact ⟨ret_int (by rw [← Fin.out, hO.out, Es.out]), by repeat (first | exact hB | refine drewN_below2 ?_ _)⟩
            · rw [if_neg h2] at es
              have Es := Lib.hid es
              have d2 : decide (g j < f j) = false := by simpa using h2
              clear es
              go_wp2
              go_quiet (fail)
              go_wp2
              go_quiet (fail)
              go_wp2
              go_roundw
              case rel => exact ⟨j + 1, _, by omega, by go_num, rfl, Lib.hid (hO.out.trans Es.out)⟩
              case measure => simp [intOf]; omega
        · obtain rfl : j = 5 := by omega
          go_wp2
          go_ret
          exact ⟨ret_int (by rw [← Fin.out, hO.out]; rfl), drewN_below2 hB _⟩
    · have e2 : (n' == 0) = false := beq_eq_false_iff_ne.2 hn'
      have Fin := Lib.hid (show lexRem (seqAt [15396336, y, u, c, s]) (seqAt [n', y', u', c', s']) 0 5 = cmpR 0 y u s c n' y' u' s' c' by rw [lex_five]; unfold cmpR; rw [show big 0 = 15396336 from rfl, show big n' = n' from if_neg hn'])
      have rw5 := rows5_new w (.cells #[.int .i64 0, .int .i64 y, .int .u8 u, .int .u8 s, .int .i64 c] 23) (.cells #[.int .i64 n', .int .i64 y', .int .u8 u', .int .u8 s', .int .i64 c'] 23) 78 15396336 y u c s n' y' u' c' s'
      go_enter Tryd.func31, Tryd.ntmps31
      go_wp2_with fail
      generalize (((w.alloc (.cells #[.int .i64 0, .int .i64 y, .int .u8 u, .int .u8 s, .int .i64 c] 23)).alloc (.cells #[.int .i64 n', .int .i64 y', .int .u8 u', .int .u8 s', .int .i64 c'] 23)).alloc (.cells #[.int .i64 15396336, .int .i64 y, .int .i64 u, .int .i64 c, .int .i64 s] 78)).alloc (.cells #[.int .i64 n', .int .i64 y', .int .i64 u', .int .i64 c', .int .i64 s'] 78) = W at *
      obtain ⟨ra, rb, hB⟩ := rw5
      generalize seqAt [15396336, y, u, c, s] = f at *
      generalize seqAt [n', y', u', c', s'] = g at *
      have Ra := Lib.hid ra
      have Rb := Lib.hid rb
      clear ra rb
      go_loopw [7] (fun i wr => ∃ j q : Nat, j ≤ 5 ∧ i = .int .i64 j ∧ wr = W.drewN q ∧ Hid (lexRem f g 0 5 = lexRem f g j (5 - j))) (fun i _ => 5 - (intOf i).toNat)
      case atStart => exact ⟨0, 0, by omega, rfl, rfl, Lib.hid rfl⟩
      case round =>
        obtain ⟨j, q, hj, rfl, rfl, hO⟩ := hrel
        by_cases hlt : j < 5
        · have ca := Ra.out j hlt
          have cb := Rb.out j hlt
          have i0 : (0 : Int) ≤ (j : Int) := by omega
          have i1 : (j : Int) < 5 := by omega
          have es : lexRem f g j (5 - j) = if f j < g j then -1 else if g j < f j then 1 else lexRem f g (j + 1) (5 - (j + 1)) := by
            rw [show 5 - j = (5 - (j + 1)) + 1 by omega]; rfl
          by_cases h1 : f j < g j
          · rw [if_pos h1] at es
            have Es := Lib.hid es
            clear es
            go_wp2
            go_quiet (fail)
            go_wp2
            go_ret
            exact ⟨ret_int (by rw [← Fin.out, hO.out, Es.out]), drewN_below2 (drewN_below2 hB _) _⟩
          · rw [if_neg h1] at es
            have d1 : decide (f j < g j) = false := by simpa using h1
            by_cases h2 : g j < f j
            · rw [if_pos h2] at es
              have Es := Lib.hid es
              clear es
              go_wp2
              go_quiet (fail)
              go_wp2
              go_quiet (fail)
              go_wp2
              go_ret
              exact ⟨ret_int (by rw [← Fin.out, hO.out, Es.out]), by repeat (first | exact hB | refine drewN_below2 ?_ _)⟩
            · rw [if_neg h2] at es
              have Es := Lib.hid es
              have d2 : decide (g j < f j) = false := by simpa using h2
              clear es
              go_wp2
              go_quiet (fail)
              go_wp2
              go_quiet (fail)
              go_wp2
              go_roundw
              case rel => exact ⟨j + 1, _, by omega, by go_num, rfl, Lib.hid (hO.out.trans Es.out)⟩
              case measure => simp [intOf]; omega
        · obtain rfl : j = 5 := by omega
          go_wp2
          go_ret
          exact ⟨ret_int (by rw [← Fin.out, hO.out]; rfl), drewN_below2 hB _⟩
  · have e1 : (n == 0) = false := beq_eq_false_iff_ne.2 hn
    by_cases hn' : n' = 0
    · subst hn'
      have Fin := Lib.hid (show lexRem (seqAt [n, y, u, c, s]) (seqAt [15396336, y', u', c', s']) 0 5 = cmpR n y u s c 0 y' u' s' c' by rw [lex_five]; unfold cmpR; rw [show big n = n from if_neg hn, show big 0 = 15396336 from rfl])
      have rw5 := rows5_new w (.cells #[.int .i64 n, .int .i64 y, .int .u8 u, .int .u8 s, .int .i64 c] 23) (.cells #[.int .i64 0, .int .i64 y', .int .u8 u', .int .u8 s', .int .i64 c'] 23) 78 n y u c s 15396336 y' u' c' s'
      go_enter Tryd.func31, Tryd.ntmps31
      go_wp2_with fail
      generalize (((w.alloc (.cells #[.int .i64 n, .int .i64 y, .int .u8 u, .int .u8 s, .int .i64 c] 23)).alloc (.cells #[.int .i64 0, .int .i64 y', .int .u8 u', .int .u8 s', .int .i64 c'] 23)).alloc (.cells #[.int .i64 n, .int .i64 y, .int .i64 u, .int .i64 c, .int .i64 s] 78)).alloc (.cells #[.int .i64 15396336, .int .i64 y', .int .i64 u', .int .i64 c', .int .i64 s'] 78) = W at *
      obtain ⟨ra, rb, hB⟩ := rw5
      generalize seqAt [n, y, u, c, s] = f at *
      generalize seqAt [15396336, y', u', c', s'] = g at *
      have Ra := Lib.hid ra
      have Rb := Lib.hid rb
      clear ra rb
      go_loopw [7] (fun i wr => ∃ j q : Nat, j ≤ 5 ∧ i = .int .i64 j ∧ wr = W.drewN q ∧ Hid (lexRem f g 0 5 = lexRem f g j (5 - j))) (fun i _ => 5 - (intOf i).toNat)
      case atStart => exact ⟨0, 0, by omega, rfl, rfl, Lib.hid rfl⟩
      case round =>
        obtain ⟨j, q, hj, rfl, rfl, hO⟩ := hrel
        by_cases hlt : j < 5
        · have ca := Ra.out j hlt
          have cb := Rb.out j hlt
          have i0 : (0 : Int) ≤ (j : Int) := by omega
          have i1 : (j : Int) < 5 := by omega
          have es : lexRem f g j (5 - j) = if f j < g j then -1 else if g j < f j then 1 else lexRem f g (j + 1) (5 - (j + 1)) := by
            rw [show 5 - j = (5 - (j + 1)) + 1 by omega]; rfl
          by_cases h1 : f j < g j
          · rw [if_pos h1] at es
            have Es := Lib.hid es
            clear es
            go_wp2
            go_quiet (fail)
            go_wp2
            go_ret
            exact ⟨ret_int (by rw [← Fin.out, hO.out, Es.out]), drewN_below2 (drewN_below2 hB _) _⟩
          · rw [if_neg h1] at es
            have d1 : decide (f j < g j) = false := by simpa using h1
            by_cases h2 : g j < f j
            · rw [if_pos h2] at es
              have Es := Lib.hid es
              clear es
              go_wp2
              go_quiet (fail)
              go_wp2
              go_quiet (fail)
              go_wp2
              go_ret
              exact ⟨ret_int (by rw [← Fin.out, hO.out, Es.out]), by repeat (first | exact hB | refine drewN_below2 ?_ _)⟩
            · rw [if_neg h2] at es
              have Es := Lib.hid es
              have d2 : decide (g j < f j) = false := by simpa using h2
              clear es
              go_wp2
              go_quiet (fail)
              go_wp2
              go_quiet (fail)
              go_wp2
              go_roundw
              case rel => exact ⟨j + 1, _, by omega, by go_num, rfl, Lib.hid (hO.out.trans Es.out)⟩
              case measure => simp [intOf]; omega
        · obtain rfl : j = 5 := by omega
          go_wp2
          go_ret
          exact ⟨ret_int (by rw [← Fin.out, hO.out]; rfl), drewN_below2 hB _⟩
    · have e2 : (n' == 0) = false := beq_eq_false_iff_ne.2 hn'
      have Fin := Lib.hid (show lexRem (seqAt [n, y, u, c, s]) (seqAt [n', y', u', c', s']) 0 5 = cmpR n y u s c n' y' u' s' c' by rw [lex_five]; unfold cmpR; rw [show big n = n from if_neg hn, show big n' = n' from if_neg hn'])
      have rw5 := rows5_new w (.cells #[.int .i64 n, .int .i64 y, .int .u8 u, .int .u8 s, .int .i64 c] 23) (.cells #[.int .i64 n', .int .i64 y', .int .u8 u', .int .u8 s', .int .i64 c'] 23) 78 n y u c s n' y' u' c' s'
      go_enter Tryd.func31, Tryd.ntmps31
      go_wp2_with fail
      generalize (((w.alloc (.cells #[.int .i64 n, .int .i64 y, .int .u8 u, .int .u8 s, .int .i64 c] 23)).alloc (.cells #[.int .i64 n', .int .i64 y', .int .u8 u', .int .u8 s', .int .i64 c'] 23)).alloc (.cells #[.int .i64 n, .int .i64 y, .int .i64 u, .int .i64 c, .int .i64 s] 78)).alloc (.cells #[.int .i64 n', .int .i64 y', .int .i64 u', .int .i64 c', .int .i64 s'] 78) = W at *
      obtain ⟨ra, rb, hB⟩ := rw5
      generalize seqAt [n, y, u, c, s] = f at *
      generalize seqAt [n', y', u', c', s'] = g at *
      have Ra := Lib.hid ra
      have Rb := Lib.hid rb
      clear ra rb
      go_loopw [7] (fun i wr => ∃ j q : Nat, j ≤ 5 ∧ i = .int .i64 j ∧ wr = W.drewN q ∧ Hid (lexRem f g 0 5 = lexRem f g j (5 - j))) (fun i _ => 5 - (intOf i).toNat)
      case atStart => exact ⟨0, 0, by omega, rfl, rfl, Lib.hid rfl⟩
      case round =>
        obtain ⟨j, q, hj, rfl, rfl, hO⟩ := hrel
        by_cases hlt : j < 5
        · have ca := Ra.out j hlt
          have cb := Rb.out j hlt
          have i0 : (0 : Int) ≤ (j : Int) := by omega
          have i1 : (j : Int) < 5 := by omega
          have es : lexRem f g j (5 - j) = if f j < g j then -1 else if g j < f j then 1 else lexRem f g (j + 1) (5 - (j + 1)) := by
            rw [show 5 - j = (5 - (j + 1)) + 1 by omega]; rfl
          by_cases h1 : f j < g j
          · rw [if_pos h1] at es
            have Es := Lib.hid es
            clear es
            go_wp2
            go_quiet (fail)
            go_wp2
            go_ret
            exact ⟨ret_int (by rw [← Fin.out, hO.out, Es.out]), drewN_below2 (drewN_below2 hB _) _⟩
          · rw [if_neg h1] at es
            have d1 : decide (f j < g j) = false := by simpa using h1
            by_cases h2 : g j < f j
            · rw [if_pos h2] at es
              have Es := Lib.hid es
              clear es
              go_wp2
              go_quiet (fail)
              go_wp2
              go_quiet (fail)
              go_wp2
              go_ret
              exact ⟨ret_int (by rw [← Fin.out, hO.out, Es.out]), by repeat (first | exact hB | refine drewN_below2 ?_ _)⟩
            · rw [if_neg h2] at es
              have Es := Lib.hid es
              have d2 : decide (g j < f j) = false := by simpa using h2
              clear es
              go_wp2
              go_quiet (fail)
              go_wp2
              go_quiet (fail)
              go_wp2
              go_roundw
              case rel => exact ⟨j + 1, _, by omega, by go_num, rfl, Lib.hid (hO.out.trans Es.out)⟩
              case measure => simp [intOf]; omega
        · obtain rfl : j = 5 := by omega
          go_wp2
          go_ret
          exact ⟨ret_int (by rw [← Fin.out, hO.out]; rfl), drewN_below2 hB _⟩
end Dw
end Go.Proofs.YtdjndoafnoidbaaDoor
