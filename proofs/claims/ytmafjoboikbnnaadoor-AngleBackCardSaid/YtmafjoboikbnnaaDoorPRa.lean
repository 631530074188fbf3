/-
  ParseRa and ParseDec of package angle.
-/
import Derived.Test.YtmafjoboikbnnaaDoorPRead2
import Derived.Test.YtmafjoboikbnnaaDoorPRRa
import Derived.Test.YtmafjoboikbnnaaDoorPTrim
namespace Go.Proofs.YtmafjoboikbnnaaDoor
namespace Ap
open Go.RowKit Lw

set_option maxRecDepth 100000 in
set_option maxHeartbeats 4000000 in
theorem ra_any (s : ByteArray) (w : World) (hs : s.size ≤ 1000) :
    Calls Tryd.prog 7 #[.string s] w fun e w' => ∃ v c : Int, e = .returned (.tuple #[.int .i64 v, .int .i64 c]) ∧ RaIs s v c ∧ Below w.heap.size w w' := by
  have P := Lib.hid (read_w s 23 w hs (by omega) (by omega))
  clear hs
  go_enter Tryd.func7, Tryd.ntmps7
  go_wp2_with fail
  go_at_call 23
  refine P.out.mono ?_
  rintro e w1 ⟨x, p, d, ok, rfl, J, hB⟩
  clear P
  rcases J with ⟨e1, hv, h23, e2, e3, e4⟩ | ⟨e1, hv, -, -, -⟩
  · subst e1
    obtain ⟨V, Q, T, eV, eQ, eT, v0, v1, t1, q0, q1, p0, p1, z, ⟨a0, a1⟩, ⟨b0, b1⟩, ⟨c0, c1⟩, A⟩ := valid_letters hv 15000000 (by omega) (by omega)
    rw [eV] at e3
    rw [eT] at eQ
    subst e3
    have x0 : 0 ≤ x := by rw [e2]; unfold secs; omega
    have x1 : x ≤ 86399 := by rw [e2]; unfold secs; omega
    have R := Lib.hid (show RaIs s (x * 15 * 1000000 + p * Q) 0 from Or.inl ⟨hv, h23, by rw [A.out, e2]; unfold secs; omega, rfl⟩)
    have N2 : ∀ w : World, Calls Tryd.prog 24 #[.int .i64 d] w fun e w' => e = .returned (.int .i64 T) ∧ w = w' := fun w => by rw [e4, ← eT]; exact ten_any _ w (by omega)
    clear A hv eV eT z h23 e2 e4 a0 a1 b0 b1 c0 c1
    go_wp2_with (go_at_call 24; refine (N2 _).mono ?_; rintro e w' ⟨rfl, rfl⟩)
    go_ret2
    exact ⟨_, _, rfl, R.out, hB⟩
  · subst e1
    have R := Lib.hid (show RaIs s 0 12 from Or.inr ⟨hv, rfl, rfl⟩)
    clear hv
    go_wp2_with fail
    go_ret2
    exact ⟨0, 12, rfl, R.out, hB⟩
theorem mul_neg {p q : Int} (h0 : -1 ≤ p) (h1 : p ≤ 999999) (g0 : 0 ≤ q) (g1 : q ≤ 15000000) : -15000000 ≤ p * q ∧ p * q ≤ 14999985000000 := by
  by_cases h : 0 ≤ p
  · have := mul_bd h h1 g0 g1
    omega
  · obtain rfl : p = -1 := by omega
    omega
theorem bad_letters (p : Int) (d : Nat) (h0 : -1 ≤ p) (h1 : p ≤ 999999) (hd : d ≤ 6) : ∃ Q T : Int, tenI d = T ∧ (1000000 : Int).tdiv T = Q ∧ 1 ≤ T ∧ 0 ≤ Q ∧ Q ≤ 15000000 ∧ -15000000 ≤ p * Q ∧ p * Q ≤ 14999985000000 := by
  have t := (tenI_bd d (by omega)).1
  have e : (1000000 : Int).tdiv (tenI d) = 1000000 / tenI d := Int.tdiv_eq_ediv_of_nonneg (by omega)
  have q := div_bd (u := 1000000) (by omega) t
  rw [← e] at q
  have m := mul_neg h0 h1 q.1 (by omega)
  exact ⟨_, _, rfl, rfl, t, q.1, by omega, m.1, m.2⟩
set_option maxRecDepth 100000 in
set_option maxHeartbeats 8000000 in
theorem dec_any (s : ByteArray) (w : World) (hs : s.size ≤ 1000) :
    Calls Tryd.prog 9 #[.string s] w fun e w' => ∃ v c : Int, e = .returned (.tuple #[.int .i64 v, .int .i64 c]) ∧ DecIs s v c ∧ Below w.heap.size w w' := by
  have TN := Lib.hid (trim_not s)
  have TO := Lib.hid (trim_one s)
  go_enter Tryd.func9, Tryd.ntmps9
  go_wp2_with fail
  go_at_call 28
  refine (trim_any s _).mono ?_
  rintro e w1 ⟨rfl, hB1⟩
  replace TN := Lib.hid (TN.out _ rfl)
  replace TO := Lib.hid (TO.out _ rfl)
  generalize (⟨(Lib.trimLeftS s.data.toList [43, 45]).toArray⟩ : ByteArray) = t at *
  by_cases hl : (t.size : Int) = s.size - 1
  · obtain ⟨sg, ht⟩ := TO.out hl
    have i0 := sg.1
    have gs := sg.2
    have p0 := at_of s 0 i0
    replace ht := Lib.hid ht
    replace sg := Lib.hid sg
    clear TN TO
    have P := Lib.hid (read_w t 90 w1 (by omega) (by omega) (by omega))
    have m0 : (0 : Int) < s.size := by omega
    go_wp2_with fail
    go_at_call 23
    refine P.out.mono ?_
    rintro e w2 ⟨x, p, d, ok, rfl, J, hB2⟩
    clear P
    have hB := below_then hB1 hB2
    clear hB1 hB2
    rcases J with ⟨e1, hv, h90, e2, e3, e4⟩ | ⟨e1, hv, ⟨x0, x1⟩, ⟨v0, v1⟩, hd⟩
    · subst e1
      obtain ⟨V, Q, T, eV, eQ, eT, v0, v1, t1, q0, q1, p0', p1, z, ⟨a0, a1⟩, ⟨b0, b1⟩, ⟨c0, c1⟩, A⟩ := dec_letters hv
      rw [eV] at e3
      rw [eT] at eQ
      subst e3
      have x0 : 0 ≤ x := by rw [e2]; unfold secs; omega
      have x1 : x ≤ 360000 := by rw [e2]; unfold secs; omega
      have AV : angV t 1000000 = x * 1000000 + p * Q := by rw [A.out, e2]; unfold secs; omega
      have N2 : ∀ w : World, Calls Tryd.prog 24 #[.int .i64 d] w fun e w' => e = .returned (.int .i64 T) ∧ w = w' := fun w => by rw [e4, ← eT]; exact ten_any _ w (by omega)
      have dk : x * 1000000 + p * Q ≤ 324000000000 → decOk s := fun g => ⟨sg.out, ht.out ▸ hv, ht.out ▸ h90, by rw [← ht.out, AV]; exact g⟩
      have RW : Hid (324000000000 < x * 1000000 + p * Q → DecIs s 0 12) := Lib.hid fun g => Or.inr ⟨fun h => by have := h.2.2.2; rw [← ht.out, AV] at this; omega, rfl, rfl⟩
      have RP : Hid (x * 1000000 + p * Q ≤ 324000000000 → ((s[0].toNat : Nat) : Int) = 43 → DecIs s (x * 1000000 + p * Q) 0) := Lib.hid fun g h43 => Or.inl ⟨dk g, by rw [← ht.out, AV, p0, h43]; rfl, rfl⟩
      have RN : Hid (x * 1000000 + p * Q ≤ 324000000000 → ((s[0].toNat : Nat) : Int) = 45 → DecIs s (-(x * 1000000 + p * Q)) 0) := Lib.hid fun g h45 => Or.inl ⟨dk g, by rw [← ht.out, AV, p0, h45]; rfl, rfl⟩
      rw [p0] at gs
      clear A hv eV eT z h90 e2 e4 a0 a1 b0 b1 c0 c1 dk AV p0
      by_cases hr : 324000000000 < x * 1000000 + p * Q
      · have R := Lib.hid (RW.out hr)
        clear RW RP RN
        go_wp2_with (go_at_call 24; refine (N2 _).mono ?_; rintro e w' ⟨rfl, rfl⟩)
        go_ret2
        exact ⟨0, 12, rfl, R.out, hB⟩
      · have hr' : x * 1000000 + p * Q ≤ 324000000000 := by omega
        rcases gs with gs | gs
        · have R := Lib.hid (RP.out hr' gs)
          clear RW RP RN
          go_wp2_with (go_at_call 24; refine (N2 _).mono ?_; rintro e w' ⟨rfl, rfl⟩)
          go_ret2
          exact ⟨_, _, rfl, R.out, hB⟩
        · have R := Lib.hid (RN.out hr' gs)
          clear RW RP RN
          go_wp2_with (go_at_call 24; refine (N2 _).mono ?_; rintro e w' ⟨rfl, rfl⟩)
          go_ret2
          exact ⟨_, _, rfl, R.out, hB⟩
    · subst e1
      have R := Lib.hid (show DecIs s 0 12 from Or.inr ⟨fun h => hv ⟨ht.out.symm ▸ h.2.1, ht.out.symm ▸ h.2.2.1⟩, rfl, rfl⟩)
      obtain ⟨Q, T, eT, eQ, t1, q0, q1, p0', p1⟩ := bad_letters p d v0 v1 hd
      have N2 : ∀ w : World, Calls Tryd.prog 24 #[.int .i64 d] w fun e w' => e = .returned (.int .i64 T) ∧ w = w' := fun w => by rw [← eT]; exact ten_any _ w (by omega)
      clear hv eT hd p0 gs
      go_wp2_with (go_at_call 24; refine (N2 _).mono ?_; rintro e w' ⟨rfl, rfl⟩)
      go_ret2
      exact ⟨0, 12, rfl, R.out, hB⟩
  · have R := Lib.hid (show DecIs s 0 12 from Or.inr ⟨fun h => TN.out hl ⟨h.1, h.2.1⟩, rfl, rfl⟩)
    have b1 : ((t.size : Int) != s.size - 1) = true := by simpa using hl
    clear TN TO
    go_wp2_with fail
    go_ret2
    exact ⟨0, 12, rfl, R.out, hB1⟩
end Ap
end Go.Proofs.YtmafjoboikbnnaaDoor
