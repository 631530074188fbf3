/-
  The walk of AngleDiffs: directions, differences of at most half a turn, and turning.
-/
import Derived.Test.YtmafjoboikbnnaaDoorTAlive
namespace Go.Proofs.YtmafjoboikbnnaaDoor
namespace At
open Go.RowKit Lw Ap

theorem laidMet_tail {P : Program} {W : World} {x : String × DataW Unit} {rest : List (String × DataW Unit)} (h : laidMet P (x :: rest) W) : laidMet P rest W := by
  obtain ⟨n, d⟩ := x
  obtain ⟨ps, ⟨g', t', cs, fuel, p, q, hg', ht', hvar, hd, hr, hp⟩, hn, ha⟩ := h
  subst hp
  exact ⟨q, hr, (List.nodup_append.1 hn).2.1, fun b off hm => ha b off (List.mem_append_right _ hm)⟩

theorem n_sub (a : Int) : (a % 1296000000000 - a).tmod 1296000000000 = 0 := Int.tmod_eq_zero_of_dvd (by omega)
theorem dif_sub (a b : Int) : (Pl.dif a b - (a - b)).tmod 1296000000000 = 0 := Int.tmod_eq_zero_of_dvd (by unfold Pl.dif; split <;> omega)
theorem dif_lo (a b : Int) : -648000000000 < Pl.dif a b ∧ Pl.dif a b ≤ 648000000000 := by unfold Pl.dif; split <;> omega
theorem dif_neg (a b : Int) : Pl.dif b a = -Pl.dif a b ∨ (Pl.dif a b = 648000000000 ∧ Pl.dif b a = Pl.dif a b) := by unfold Pl.dif; split <;> split <;> omega
theorem dif_add (a b c : Int) : Pl.dif (a + c) (b + c) = Pl.dif a b := by unfold Pl.dif; rw [show a + c - (b + c) = a - b by omega]
theorem dif_nrm (a b : Int) : Pl.dif (a % 1296000000000) b = Pl.dif a b := by unfold Pl.dif; rw [show (a % 1296000000000 - b) % 1296000000000 = (a - b) % 1296000000000 by omega]

set_option maxRecDepth 100000 in
set_option maxHeartbeats 8000000 in
theorem diffs_any (a b c m : Int) (w : World) (hT : Tab w) (hm : w.cell? ⟨0, 0, none⟩ = some (.int .i64 m))
    (wa : -9223372036854775808 ≤ a ∧ a ≤ 9223372036854775807) (wb : -9223372036854775808 ≤ b ∧ b ≤ 9223372036854775807) (wc : -9223372036854775808 ≤ c ∧ c ≤ 9223372036854775807) :
    Calls Tryd.prog 4 #[.int .i64 a, .int .i64 b, .int .i64 c] w fun e w' => e = .returned (.bool true) ∧ Below w.heap.size w w' := by
  have AL := Lib.hid (alive_any m w hT hm)
  clear hT hm
  obtain ⟨wa0, wa1⟩ := wa
  obtain ⟨wb0, wb1⟩ := wb
  obtain ⟨wc0, wc1⟩ := wc
  by_cases hr : (-2305843009213693952 ≤ a ∧ a ≤ 2305843009213693952) ∧ (-2305843009213693952 ≤ b ∧ b ≤ 2305843009213693952) ∧ (-2305843009213693952 ≤ c ∧ c ≤ 2305843009213693952)
  · obtain ⟨⟨a0, a1⟩, ⟨b0, b1⟩, ⟨c0, c1⟩⟩ := hr
    have N0 := Int.emod_nonneg a (show (1296000000000 : Int) ≠ 0 by omega)
    have N1 := Int.emod_lt_of_pos a (show (0 : Int) < 1296000000000 by omega)
    have f1 := n_sub a
    have f2 := dif_sub a b
    obtain ⟨d0, d1⟩ := dif_lo a b
    have f3 := dif_neg a b
    have DN : ∀ w : World, Calls Tryd.prog 14 #[.int .i64 a] w fun e w' => e = .returned (.int .i64 (a % 1296000000000)) ∧ w = w' := fun w => Turns.norm_any a w wa0 wa1
    have DD : ∀ (x y : Int) (w : World), (-9223372036854775808 ≤ x ∧ x ≤ 9223372036854775807) → (-9223372036854775808 ≤ y ∧ y ≤ 9223372036854775807) → Calls Tryd.prog 15 #[.int .i64 x, .int .i64 y] w fun e w' => e = .returned (.int .i64 (Pl.dif x y)) ∧ w = w' := fun x y w hx hy => Turns.diff_any x y w hx.1 hx.2 hy.1 hy.2
    have ga : -9223372036854775808 ≤ a ∧ a ≤ 9223372036854775807 := ⟨wa0, wa1⟩
    have gb : -9223372036854775808 ≤ b ∧ b ≤ 9223372036854775807 := ⟨wb0, wb1⟩
    have gac : -9223372036854775808 ≤ a + c ∧ a + c ≤ 9223372036854775807 := by omega
    have gbc : -9223372036854775808 ≤ b + c ∧ b + c ≤ 9223372036854775807 := by omega
    have gn : -9223372036854775808 ≤ a % 1296000000000 ∧ a % 1296000000000 ≤ 9223372036854775807 := by omega
    have f4 := dif_add a b c
    have f5 := dif_nrm a b
    generalize a % 1296000000000 = N at *
    generalize hD : Pl.dif a b = D at *
    generalize hE : Pl.dif b a = E at *
    have hcase : ((E == -D) = true) ∨ ((E == -D) = false ∧ (D == 648000000000) = true ∧ (E == D) = true) := by
      by_cases q : E = -D
      · exact Or.inl (by simp [q])
      · rcases f3 with g | ⟨g1, g2⟩
        · exact absurd g q
        · exact Or.inr ⟨by simp [q], by simp [g1], by simp [g2]⟩
    clear f3
    rcases hcase with g1 | ⟨g1, g2, g3⟩
    all_goals
      go_enter Tryd.func4, Tryd.ntmps4
      go_wp2_with fail
      go_at_call 13
      refine AL.out.mono ?_
      rintro e w1 ⟨rfl, hB⟩
      go_wp2_with (first | (go_at_call 14; refine (DN _).mono ?_; rintro e w' ⟨rfl, rfl⟩) | (go_at_call 15; refine (DD _ _ _ (by assumption) (by assumption)).mono ?_; rintro e w' ⟨rfl, rfl⟩))
      go_ret
      exact ⟨rfl, hB⟩
  · go_enter Tryd.func4, Tryd.ntmps4
    go_wp2_with fail
    go_at_call 13
    refine AL.out.mono ?_
    rintro e w1 ⟨rfl, hB⟩
    clear AL
    go_wp2_with fail
    all_goals first
      | (exfalso; omega)
      | (go_ret
         exact ⟨rfl, hB⟩)
end At
end Go.Proofs.YtmafjoboikbnnaaDoor
