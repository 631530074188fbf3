/-
  Lemmas and walks, texts joined: VRMag, PRDegA, PRDegB, PRDeg, VRd, VRRd, VRRnd, OSame, VSmI, VMgs.
-/
import Derived.Deep.RegionHeld3
import Derived.Laws.AppendOwnNone
import Derived.Test.YtaghilgfldaaiaaGreatDoorVa09
import Derived.Test.YtaghilgfldaaiaaGreatDoorVa04
import Derived.Test.YtaghilgfldaaiaaGreatDoorVa05
import Derived.Test.YtaghilgfldaaiaaGreatDoorVa08
import Derived.Test.YtaghilgfldaaiaaGreatDoorVa10
import Derived.Test.YtaghilgfldaaiaaGreatDoorVa11
set_option linter.unusedSimpArgs false
set_option linter.unusedVariables false
/-
  The walk of magnitude of the reference, at a magnitude's field.
-/
namespace Go.Proofs.YtaghilgfldaaiaaGreatDoor
namespace Vw
open Go.RowKit Lw Go.Proofs.YtaghilgfldaaiaaGreatDoor.Ap Go.Proofs.YtaghilgfldaaiaaGreatDoor.Vp Go.Proofs.YtaghilgfldaaiaaGreatDoor.Op Go.Proofs.YtaghilgfldaaiaaGreatDoor.Ow Go.Proofs.YtaghilgfldaaiaaGreatDoor.Mp Go.Proofs.YtaghilgfldaaiaaGreatDoor.Mw Go.Proofs.YtaghilgfldaaiaaGreatDoor.At

theorem get_L {s : ByteArray} {l : List UInt8} (hs : s.data.toList = l) {k : Nat} (h : k < s.size) : l[k]? = some (s.get! k) := by
  subst hs
  have h2 : k < s.data.toList.length := h
  rw [List.getElem?_eq_getElem h2]
  simp [ByteArray.get!, getElem!_pos, h]
theorem parts_none {s : ByteArray} {l : List UInt8} (hs : s.data.toList = l) {c : UInt8} : ∀ k, k ≤ s.size → (∀ j, j < k → l[j]? ≠ some c) → partsTo s c k = ([], 0)
  | 0, _, _ => rfl
  | k + 1, h, g => by
    rw [partsTo, if_neg (fun e => g k (Nat.lt_succ_self _) (by rw [get_L hs (by omega), e]))]
    exact parts_none hs k (by omega) (fun j hj => g j (by omega))
theorem parts_one {s : ByteArray} {l : List UInt8} (hs : s.data.toList = l) {c : UInt8} {n : Nat} (h0 : ∀ j, j < n → l[j]? ≠ some c) (hc : l[n]? = some c) :
    ∀ k, n < k → k ≤ s.size → (∀ j, n < j → j < k → l[j]? ≠ some c) → partsTo s c k = ([s.extract 0 n], n + 1)
  | 0, h, _, _ => absurd h (Nat.not_lt_zero _)
  | k + 1, h, h2, g => by
    by_cases e : n = k
    · subst e
      have e2 := get_L hs (show n < s.size by omega)
      rw [hc] at e2
      rw [partsTo, if_pos (Option.some.inj e2).symm, parts_none hs n (by omega) h0]
      rfl
    · rw [partsTo, if_neg (fun e2 => g k (by omega) (Nat.lt_succ_self _) (by rw [get_L hs (by omega), e2]))]
      exact parts_one hs h0 hc k (by omega) (by omega) (fun j a b => g j a (by omega))
theorem no_at {l : List UInt8} {c : UInt8} (h : ∀ x ∈ l, x ≠ c) (j : Nat) : l[j]? ≠ some c := fun e => h c (List.mem_of_getElem? e) rfl
theorem parts_two {l r : List UInt8} {c : UInt8} (hl : ∀ x ∈ l, x ≠ c) (hr : ∀ x ∈ r, x ≠ c) : partsR (stL (l ++ c :: r)) c = [stL l, stL r] := by
  have z : (stL (l ++ c :: r)).size = l.length + (1 + r.length) := by rw [stL_size, List.length_append, List.length_cons]; omega
  have p := parts_one (s := stL (l ++ c :: r)) (l := l ++ c :: r) rfl (c := c) (n := l.length) (fun j hj => by
    rw [List.getElem?_append_left hj]
    exact no_at hl j) (by
    rw [List.getElem?_append_right (Nat.le_refl _), Nat.sub_self]
    rfl) (stL (l ++ c :: r)).size (by omega) (Nat.le_refl _) (fun j a b => by
    rw [List.getElem?_append_right (by omega)]
    obtain ⟨i, hi⟩ : ∃ i, j - l.length = i + 1 := ⟨j - l.length - 1, by omega⟩
    rw [hi, List.getElem?_cons_succ]
    exact no_at hr i)
  unfold partsR
  rw [p]
  have a1 : (stL (l ++ c :: r)).extract 0 l.length = stL l := by
    apply ByteArray.ext
    apply Array.toList_inj.1
    simp [stL]
  have a2 : (stL (l ++ c :: r)).extract (l.length + 1) (stL (l ++ c :: r)).size = stL r := by
    rw [z]
    apply ByteArray.ext
    apply Array.toList_inj.1
    simp [stL]
    exact List.take_of_length_le (by omega)
  show [(stL (l ++ c :: r)).extract 0 l.length] ++ [(stL (l ++ c :: r)).extract (l.length + 1) (stL (l ++ c :: r)).size] = _
  rw [a1, a2]
  rfl
theorem split_two {l r : List UInt8} {c : UInt8} (hl : ∀ x ∈ l, x ≠ c) (hr : ∀ x ∈ r, x ≠ c) (w : World) (hz : l.length + r.length ≤ 1000) : Calls Tryz.prog 138 #[.string (stL (l ++ c :: r)), .int .u8 (c.toNat : Int)] w fun e w' =>
    ∃ g cap, e = .returned (.slice (some ⟨g, 0, none⟩) 2 cap) ∧ g < w'.heap.size ∧ w'.cell? ⟨g, 0, none⟩ = some (.string (stL l)) ∧ w'.cell? ⟨g, 1, none⟩ = some (.string (stL r)) ∧ Below w.heap.size w w' := by
  refine (rsplit_any (stL (l ++ c :: r)) c w (by rw [stL_size, List.length_append, List.length_cons]; omega)).mono ?_
  rintro e w' ⟨g, cap, rfl, g0, g1, G, hb⟩
  have P := parts_two hl hr
  rw [P] at G ⊢
  exact ⟨g, cap, rfl, g1, G 0 _ rfl, G 1 _ rfl, hb⟩
theorem digV_itoa (n : Nat) (h : n < 100) : digV (Lib.itoa (n : Int)) = n := digV_yes (numR_itoa n h) (by omega) (by omega)
theorem digV_two (x y : Nat) (hx : x < 10) (hy : y < 10) : digV [dg x, dg y] = 10 * (x : Int) + y := digV_yes (numR_two x y hx hy) (by omega) (by omega)
set_option maxRecDepth 100000 in
set_option maxHeartbeats 8000000 in
theorem rmagn_any (m : Int) (w : World) (hm : m = 9999 ∨ (-500 ≤ m ∧ m ≤ 3000)) :
    Calls Tryz.prog 84 #[.string (stL (Vp.magF m))] w fun e w' => e = .returned (.tuple #[.int .i64 m, .bool true]) ∧ Below w.heap.size w w' := by
  by_cases h9 : m = 9999
  · subst h9
    have e0 : stL (Vp.magF 9999) = (⟨#[]⟩ : ByteArray) := rfl
    rw [e0]
    go_enter Tryz.func84, Tryz.ntmps84
    go_wp2
    go_ret2
    exact ⟨rfl, Below.refl _ _⟩
  · obtain ⟨n, hn⟩ : ∃ n, m.natAbs = n := ⟨_, rfl⟩
    have nb : n ≤ 3000 := by omega
    have eF : Vp.magF m = (if m < 0 then [45] else []) ++ (Lib.itoa ((n / 100 : Nat) : Int) ++ (46 :: [dg (n / 10 % 10), dg (n % 10)])) := by
      unfold Vp.magF
      rw [if_neg h9, magB_list, hn]
    obtain ⟨x, l, ei, hl, _⟩ := Gt.dd_small (n / 100) (by omega)
    have ad := itoa_d (n / 100)
    have no46 : ∀ c ∈ Lib.itoa ((n / 100 : Nat) : Int), c ≠ 46 := fun c hc => u_ne (k := 46) (by omega) (by have := (ad c hc).1; omega)
    have y1 := dg_of (n / 10 % 10) (Nat.mod_lt _ (by omega))
    have y2 := dg_of (n % 10) (Nat.mod_lt _ (by omega))
    have no47 : ∀ c ∈ [dg (n / 10 % 10), dg (n % 10)], c ≠ 46 := fun c hc => by
      rcases List.mem_cons.1 hc with rfl | hc
      · exact u_ne (k := 46) (by omega) (by omega)
      · rw [List.mem_singleton.1 hc]; exact u_ne (k := 46) (by omega) (by omega)
    have zA : (stL (Lib.itoa ((n / 100 : Nat) : Int))).size ≤ 2 := by rw [stL_size, ei]; simp only [List.length_cons]; omega
    have zB : (stL [dg (n / 10 % 10), dg (n % 10)]).size = 2 := by rw [stL_size]; rfl
    have SP : Hid (∀ w : World, Calls Tryz.prog 138 #[.string (stL (Lib.itoa ((n / 100 : Nat) : Int) ++ (46 :: [dg (n / 10 % 10), dg (n % 10)]))), .int .u8 46] w fun e w' =>
        ∃ g cap, e = .returned (.slice (some ⟨g, 0, none⟩) 2 cap) ∧ g < w'.heap.size ∧ w'.cell? ⟨g, 0, none⟩ = some (.string (stL (Lib.itoa ((n / 100 : Nat) : Int)))) ∧ w'.cell? ⟨g, 1, none⟩ = some (.string (stL [dg (n / 10 % 10), dg (n % 10)])) ∧ Below w.heap.size w w') := Lib.hid (fun w => split_two no46 no47 w (by rw [← stL_size, ← stL_size]; omega))
    have DA : Hid (∀ w : World, Calls Tryz.prog 83 #[.string (stL (Lib.itoa ((n / 100 : Nat) : Int)))] w fun e w' => e = .returned (.int .i64 ((n / 100 : Nat) : Int)) ∧ w = w') := Lib.hid fun w => by
      have := rdigits27_any (stL (Lib.itoa ((n / 100 : Nat) : Int))) w (by unfold maxLen; omega)
      rw [stL_L, digV_itoa (n / 100) (by omega)] at this
      exact this
    have DB : Hid (∀ w : World, Calls Tryz.prog 83 #[.string (stL [dg (n / 10 % 10), dg (n % 10)])] w fun e w' => e = .returned (.int .i64 ((n % 100 : Nat) : Int)) ∧ w = w') := Lib.hid fun w => by
      have := rdigits27_any (stL [dg (n / 10 % 10), dg (n % 10)]) w (by unfold maxLen; omega)
      rw [stL_L, digV_two _ _ (Nat.mod_lt _ (by omega)) (Nat.mod_lt _ (by omega)), show 10 * ((n / 10 % 10 : Nat) : Int) + ((n % 10 : Nat) : Int) = ((n % 100 : Nat) : Int) by omega] at this
      exact this
    have V : 100 * ((n / 100 : Nat) : Int) + ((n % 100 : Nat) : Int) = (n : Int) := by omega
    have b1 : n / 100 ≤ 30 := by omega
    have b2 : n % 100 ≤ 99 := by omega
    have X1 : ∃ x l, Lib.itoa ((n / 100 : Nat) : Int) ++ (46 :: [dg (n / 10 % 10), dg (n % 10)]) = x :: l ∧ x ≠ 45 := ⟨x, l ++ (46 :: [dg (n / 10 % 10), dg (n % 10)]), by rw [ei]; rfl, dig_45 (by rw [ei] at ad; exact ad)⟩
    clear ei hl ad no46 no47 y1 y2
    generalize Lib.itoa ((n / 100 : Nat) : Int) ++ (46 :: [dg (n / 10 % 10), dg (n % 10)]) = R at *
    generalize stL (Lib.itoa ((n / 100 : Nat) : Int)) = A at *
    generalize stL [dg (n / 10 % 10), dg (n % 10)] = B at *
    generalize n / 100 = D at *
    generalize n % 100 = K at *
    obtain ⟨x, l, eR, x45⟩ := X1
    have a3 : ¬ (2 : Int) < (A.size : Int) := by omega
    have a4 : ¬ (2 : Int) < (B.size : Int) := by omega
    have a5 : ¬ (B.size : Int) = 1 := by omega
    by_cases hm0 : m < 0
    · rw [if_pos hm0] at eF
      have eF2 : Vp.magF m = 45 :: R := eF
      rw [eF2]
      have ex : (stL (45 :: R)).extract 1 (stL (45 :: R)).size = stL R := by
        rw [stL_size]
        apply ByteArray.ext
        apply Array.toList_inj.1
        simp [stL]
      obtain ⟨S, hS⟩ : ∃ S, stL (45 :: R) = S := ⟨_, rfl⟩
      rw [hS] at ex
      have zS : S.size = R.length + 1 := by rw [← hS, stL_size]; rfl
      rw [zS] at ex
      have em := sz_no (t := S) (by omega)
      have p0 : 0 < S.size := by omega
      have c45 : (S[0]'p0) = 45 := by
        have h := head_of p0
        have e : S.data.toList = 45 :: R := by rw [← hS]; rfl
        rw [e] at h
        exact (Option.some.inj h).symm
      have c46 : (((S[0]'p0).toNat : Int) == 45) = true := by rw [c45]; rfl
      have c47 : ((S[0]'p0).toNat : Int) = 45 := by rw [c45]; rfl
      have c1 : (1 : Int) ≤ (S.size : Int) := by omega
      have ng : -(n : Int) = m := by omega
      have nz : 0 < n := by omega
      have dz : decide (0 < n) = true := decide_eq_true nz
      have NG := Lib.hid ng
      rw [hS]
      clear eF eF2 hS eR x45 c45 hm h9 hm0 ng hn
      go_enter Tryz.func84, Tryz.ntmps84
      go_wp2_with fail
      refine (SP.out _).mono ?_
      rintro e w1 ⟨g, cap, rfl, g0, q0, q1, hb⟩
      go_wp2_with fail
      refine (DA.out _).mono ?_
      rintro e w2 ⟨rfl, rfl⟩
      go_wp2_with fail
      refine (DA.out _).mono ?_
      rintro e w2 ⟨rfl, rfl⟩
      go_wp2_with fail
      refine (DB.out _).mono ?_
      rintro e w2 ⟨rfl, rfl⟩
      go_wp2_with fail
      refine (DB.out _).mono ?_
      rintro e w2 ⟨rfl, rfl⟩
      go_wp2_with fail
      go_ret2
      exact ⟨by rw [← NG.out]; rfl, hb⟩
    · rw [if_neg hm0, List.nil_append] at eF
      rw [eF]
      obtain ⟨S, hS⟩ : ∃ S, stL R = S := ⟨_, rfl⟩
      have zS : S.size = l.length + 1 := by rw [← hS, stL_size, eR]; rfl
      have em := sz_no (t := S) (by omega)
      have p0 : 0 < S.size := by omega
      have cx : (S[0]'p0) = x := by
        have h := head_of p0
        have e : S.data.toList = x :: l := by rw [← hS, eR]; rfl
        rw [e] at h
        exact (Option.some.inj h).symm
      have c47 : ¬ ((S[0]'p0).toNat : Int) = 45 := fun e => x45 (by
        rw [← cx]
        apply UInt8.toNat_inj.1
        have e3 : (45 : UInt8).toNat = 45 := rfl
        rw [e3]
        exact Int.ofNat.inj e)
      have c46 : (((S[0]'p0).toNat : Int) == 45) = false := beq_eq_false_iff_ne.2 c47
      have ng : (n : Int) = m := by omega
      have gz : (n : Int) ≤ 3000 := by omega
      have dz : decide ((n : Int) ≤ 3000) = true := decide_eq_true gz
      have NG := Lib.hid ng
      rw [hS] at SP ⊢
      clear eF hS eR x45 cx hm h9 hm0 ng hn
      go_enter Tryz.func84, Tryz.ntmps84
      go_wp2_with fail
      refine (SP.out _).mono ?_
      rintro e w1 ⟨g, cap, rfl, g0, q0, q1, hb⟩
      go_wp2_with fail
      refine (DA.out _).mono ?_
      rintro e w2 ⟨rfl, rfl⟩
      go_wp2_with fail
      refine (DA.out _).mono ?_
      rintro e w2 ⟨rfl, rfl⟩
      go_wp2_with fail
      refine (DB.out _).mono ?_
      rintro e w2 ⟨rfl, rfl⟩
      go_wp2_with fail
      refine (DB.out _).mono ?_
      rintro e w2 ⟨rfl, rfl⟩
      go_wp2_with fail
      go_ret2
      exact ⟨by rw [← NG.out]; rfl, hb⟩
end Vw
end Go.Proofs.YtaghilgfldaaiaaGreatDoor
/-
  ParseDeg of the reference.
-/
namespace Go.Proofs.YtaghilgfldaaiaaGreatDoor
namespace Gp
open Go.RowKit Lw

set_option maxRecDepth 100000 in
set_option maxHeartbeats 40000000 in
theorem rdeg_A (s : ByteArray) (w : World) (hs : s.size ≤ 100) (i0 : 0 < s.size) (h45 : ((s[0].toNat : Nat) : Int) = 45) :
    Calls Tryz.prog 82 #[.string s] w fun e w' => ∃ v c : Int, e = .returned (.tuple #[.int .i64 v, .int .i64 c]) ∧ DegT true (s.extract 1 s.size) (ptOf (s.extract 1 s.size)) v c ∧ Below w.heap.size w w' := by
  go_enter Tryz.func82, Tryz.ntmps82
  have m0 : (0 : Int) < s.size := by omega
  have m1 : (1 : Int) ≤ s.size := by omega
  go_wp2_with fail
  have hts : (s.extract 1 s.size).size ≤ 100 := by simp; omega
  have CV0 : ∀ t, s.extract 1 s.size = t → Hid (∀ v e, DegT true t (ptOf t) v e → DegT true (s.extract 1 s.size) (ptOf (s.extract 1 s.size)) v e) := fun t h => Lib.hid (by rw [h]; exact fun _ _ h => h)
  obtain ⟨t, ht⟩ : ∃ t, s.extract 1 s.size = t := ⟨_, rfl⟩
  have CV := CV0 t ht
  rw [ht] at hts ⊢
  clear CV0 ht
  go_loop [5] (fun i => ∃ k : Nat, k ≤ t.size ∧ i = .int .i64 k ∧ Hid (∀ j (hj : j < t.size), j < k → ¬ ((t[j].toNat : Nat) : Int) = 46)) (fun i => t.size - (intOf i).toNat)
  case atStart => exact ⟨0, Nat.zero_le _, rfl, Lib.hid (by omega)⟩
  case round =>
    obtain ⟨k, hk, rfl, A⟩ := hrel
    by_cases hlt : k < t.size
    · have i0 : 0 < t.size := by omega
      by_cases h46 : ((t[k].toNat : Nat) : Int) = 46
      · have P := Lib.hid (pt_eq hk A.out (fun _ => h46))
        by_cases hf : formP t k
        · obtain ⟨f1, f2, f3, f4, f5⟩ := hf
          have hfP := Lib.hid (show formP t k from ⟨f1, f2, f3, f4, f5⟩)
          have D1 := degD_bd t k f3
          have F1 := degF_bd t k f4
          have ND : ∀ w : World, Calls Tryz.prog 137 #[.string (t.extract 0 k)] w fun e w' => e = .returned (.int .i64 (degD t k)) ∧ w = w' := fun w => number_any _ w (by simp; omega)
          have NF : ∀ w : World, Calls Tryz.prog 137 #[.string (t.extract (k + 1) t.size)] w fun e w' => e = .returned (.int .i64 (degF t k)) ∧ w = w' := fun w => number_any _ w (by simp; omega)
          have NT : ∀ w : World, Calls Tryz.prog 90 #[.int .i64 (t.extract (k + 1) t.size).size] w fun e w' => e = .returned (.int .i64 (tenI (t.extract (k + 1) t.size).size)) ∧ w = w' := fun w => rten_any _ w (by simp; omega)
          have zr : (t.extract (k + 1) t.size).size = t.size - (k + 1) := by simp
          generalize hDD : degD t k = D at *
          have hE10 : degF t k < 10 ^ (t.extract (k + 1) t.size).size := by
            have := (numV_bd (t.extract (k + 1) t.size).data.toList).2
            have e : (t.extract (k + 1) t.size).data.toList.length = (t.extract (k + 1) t.size).size := by simp
            rw [e] at this
            exact this
          generalize hFF : degF t k = E at *
          have hw : ¬ numP true D E → DegT true t (ptOf t) 0 12 := fun h => by rw [P.out]; exact Or.inr ⟨fun g => h (by rw [← hDD, ← hFF]; exact g.2), rfl, rfl⟩
          have hv : numP true D E → DegT true t (ptOf t) (sgnI true (D * 3600000000 + fracI E (t.extract (k + 1) t.size).size)) 0 := fun h => by rw [P.out]; exact Or.inl ⟨hfP.out, by rw [hDD, hFF]; exact h, by rw [hDD, hFF, zr], rfl⟩
          have zr9 : (t.extract (k + 1) t.size).size ≤ 9 := by omega
          clear zr hfP hDD hFF
          have hw := Lib.hid hw
          have hv := Lib.hid hv
          have m1 : (k : Int) + 1 < t.size := by omega
          have m2 : (1 : Int) ≤ k := by omega
          have m3 : (k : Int) ≤ 3 := by omega
          have m4 : (t.size : Int) - k - 1 ≤ 9 := by omega
          have m5 : (k : Int) ≤ t.size := by omega
          have m6 : (k : Int) + 1 ≤ t.size := by omega
          have e1 : IntKind.i64.wrap ((k : Int) + 1) = k + 1 := IntWalk.i64_in _ (by omega)
          have i0 : 0 < t.size := by omega
          have x0 := at_of t 0 i0
          rw [x0] at f5
          clear x0 f1 f2 f3 f4 A
          obtain ⟨D0, D9⟩ := D1
          obtain ⟨E0, E9⟩ := F1
          have hk5 : k ≤ 1 ∨ (1 < k ∧ ¬ ((t[0].toNat : Nat) : Int) = 48) := by omega
          clear f5
          rcases hk5 with f5 | ⟨f5, f6⟩
          · have m7 : ¬ (1 : Int) < k := by omega
            go_wp2_with fail
            go_quiet ((go_at_call 137; first | exact quiet_left (ND _) | exact quiet_add_left (ND _)))
            go_wp2_with fail
            generalize t.extract (k + 1) t.size = r at *
            go_at_call 137
            refine (NF _).mono ?_
            rintro e w' ⟨rfl, rfl⟩
            by_cases hn : numP true D E
            · obtain ⟨n1, n2, n3, n4, n5⟩ := hn
              obtain ⟨T, C, M, U, R, eT, eM, eU, c1, c2, t1, t2, mm1, mm2, u1, u2, p1, p2, r1, r2, eR, NC, NR⟩ := deg_letters E r.size n2 hE10 zr9
              rw [eT] at NT
              have hv := Lib.hid (show DegT true t (ptOf t) (sgnI true (D * 3600000000 + R)) 0 by rw [← eR.out]; exact hv.out ⟨n1, n2, n3, n4, n5⟩)
              clear eT eR hw
              have hcase : ((D == 360) = true ∧ ¬ (0 : Int) < E ∧ (D == 0) = false) ∨ ((D == 360) = false ∧ (D == 0) = false) ∨ ((D == 360) = false ∧ (D == 0) = true ∧ (E == 0) = false) := by
                by_cases q : D = 360
                · have e0 : E = 0 := by omega
                  exact Or.inl ⟨by simp [q], by omega, by simp [q]⟩
                · by_cases q0 : D = 0
                  · have e0 : E ≠ 0 := by
                      rcases n5 with h | h | h
                      · exact absurd h (by simp)
                      · exact absurd q0 h
                      · exact h
                    exact Or.inr (Or.inr ⟨by simp [q], by simp [q0], by simp [e0]⟩)
                  · exact Or.inr (Or.inl ⟨by simp [q], by simp [q0]⟩)
              clear n4 n5
              rcases hcase with ⟨g1, g2, g3⟩ | ⟨g1, g2⟩ | ⟨g1, g2, g3⟩
              · go_wp2_with (first | (go_at_call 90; refine (NT _).mono ?_; rintro e w' ⟨rfl, rfl⟩) | (go_at_call 91; refine (NC _).mono ?_; rintro e w' ⟨rfl, hB⟩))
                go_quiet ((first | (go_at_call 90; first | exact quiet_left (NT _) | exact quiet_add_left (NT _)) | (go_at_call 89; first | exact quiet_more NR | exact quiet_add_more NR)))
                go_wp2_with fail
                go_ret2
                exact ⟨_, _, rfl, CV.out _ _ hv.out, drewN_below2 (Below.trans (drewN_below2 (Below.refl _ _) _) hB) _⟩
              · go_wp2_with (first | (go_at_call 90; refine (NT _).mono ?_; rintro e w' ⟨rfl, rfl⟩) | (go_at_call 91; refine (NC _).mono ?_; rintro e w' ⟨rfl, hB⟩))
                go_quiet ((first | (go_at_call 90; first | exact quiet_left (NT _) | exact quiet_add_left (NT _)) | (go_at_call 89; first | exact quiet_more NR | exact quiet_add_more NR)))
                go_wp2_with fail
                go_ret2
                exact ⟨_, _, rfl, CV.out _ _ hv.out, drewN_below2 (Below.trans (drewN_below2 (Below.refl _ _) _) hB) _⟩
              · go_wp2_with (first | (go_at_call 90; refine (NT _).mono ?_; rintro e w' ⟨rfl, rfl⟩) | (go_at_call 91; refine (NC _).mono ?_; rintro e w' ⟨rfl, hB⟩))
                go_quiet ((first | (go_at_call 90; first | exact quiet_left (NT _) | exact quiet_add_left (NT _)) | (go_at_call 89; first | exact quiet_more NR | exact quiet_add_more NR)))
                go_wp2_with fail
                go_ret2
                exact ⟨_, _, rfl, CV.out _ _ hv.out, drewN_below2 (Below.trans (drewN_below2 (Below.refl _ _) _) hB) _⟩
            · have hw := Lib.hid (hw.out hn)
              clear hv
              unfold numP at hn
              simp only [reduceCtorEq, false_or, true_or, and_true] at hn
              go_wp2_with fail
              all_goals first
                | (exfalso; omega)
                | (exfalso; have hq : ¬ E = 0 := beq_eq_false_iff_ne.1 (by first | assumption | exact And.right (by assumption)); omega)
                | (go_ret2
                   exact ⟨0, 12, rfl, CV.out _ _ hw.out, drewN_below2 (Below.refl _ _) _⟩)
          · have m7 : (((t[0].toNat : Nat) : Int) == 48) = false := beq_eq_false_iff_ne.2 f6
            have m8 : (1 : Int) < k := by omega
            go_wp2_with fail
            go_quiet ((go_at_call 137; first | exact quiet_left (ND _) | exact quiet_add_left (ND _)))
            go_wp2_with fail
            generalize t.extract (k + 1) t.size = r at *
            go_at_call 137
            refine (NF _).mono ?_
            rintro e w' ⟨rfl, rfl⟩
            by_cases hn : numP true D E
            · obtain ⟨n1, n2, n3, n4, n5⟩ := hn
              obtain ⟨T, C, M, U, R, eT, eM, eU, c1, c2, t1, t2, mm1, mm2, u1, u2, p1, p2, r1, r2, eR, NC, NR⟩ := deg_letters E r.size n2 hE10 zr9
              rw [eT] at NT
              have hv := Lib.hid (show DegT true t (ptOf t) (sgnI true (D * 3600000000 + R)) 0 by rw [← eR.out]; exact hv.out ⟨n1, n2, n3, n4, n5⟩)
              clear eT eR hw
              have hcase : ((D == 360) = true ∧ ¬ (0 : Int) < E ∧ (D == 0) = false) ∨ ((D == 360) = false ∧ (D == 0) = false) ∨ ((D == 360) = false ∧ (D == 0) = true ∧ (E == 0) = false) := by
                by_cases q : D = 360
                · have e0 : E = 0 := by omega
                  exact Or.inl ⟨by simp [q], by omega, by simp [q]⟩
                · by_cases q0 : D = 0
                  · have e0 : E ≠ 0 := by
                      rcases n5 with h | h | h
                      · exact absurd h (by simp)
                      · exact absurd q0 h
                      · exact h
                    exact Or.inr (Or.inr ⟨by simp [q], by simp [q0], by simp [e0]⟩)
                  · exact Or.inr (Or.inl ⟨by simp [q], by simp [q0]⟩)
              clear n4 n5
              rcases hcase with ⟨g1, g2, g3⟩ | ⟨g1, g2⟩ | ⟨g1, g2, g3⟩
              · go_wp2_with (first | (go_at_call 90; refine (NT _).mono ?_; rintro e w' ⟨rfl, rfl⟩) | (go_at_call 91; refine (NC _).mono ?_; rintro e w' ⟨rfl, hB⟩))
                go_quiet ((first | (go_at_call 90; first | exact quiet_left (NT _) | exact quiet_add_left (NT _)) | (go_at_call 89; first | exact quiet_more NR | exact quiet_add_more NR)))
                go_wp2_with fail
                go_ret2
                exact ⟨_, _, rfl, CV.out _ _ hv.out, drewN_below2 (Below.trans (drewN_below2 (Below.refl _ _) _) hB) _⟩
              · go_wp2_with (first | (go_at_call 90; refine (NT _).mono ?_; rintro e w' ⟨rfl, rfl⟩) | (go_at_call 91; refine (NC _).mono ?_; rintro e w' ⟨rfl, hB⟩))
                go_quiet ((first | (go_at_call 90; first | exact quiet_left (NT _) | exact quiet_add_left (NT _)) | (go_at_call 89; first | exact quiet_more NR | exact quiet_add_more NR)))
                go_wp2_with fail
                go_ret2
                exact ⟨_, _, rfl, CV.out _ _ hv.out, drewN_below2 (Below.trans (drewN_below2 (Below.refl _ _) _) hB) _⟩
              · go_wp2_with (first | (go_at_call 90; refine (NT _).mono ?_; rintro e w' ⟨rfl, rfl⟩) | (go_at_call 91; refine (NC _).mono ?_; rintro e w' ⟨rfl, hB⟩))
                go_quiet ((first | (go_at_call 90; first | exact quiet_left (NT _) | exact quiet_add_left (NT _)) | (go_at_call 89; first | exact quiet_more NR | exact quiet_add_more NR)))
                go_wp2_with fail
                go_ret2
                exact ⟨_, _, rfl, CV.out _ _ hv.out, drewN_below2 (Below.trans (drewN_below2 (Below.refl _ _) _) hB) _⟩
            · have hw := Lib.hid (hw.out hn)
              clear hv
              unfold numP at hn
              simp only [reduceCtorEq, false_or, true_or, and_true] at hn
              go_wp2_with fail
              all_goals first
                | (exfalso; omega)
                | (exfalso; have hq : ¬ E = 0 := beq_eq_false_iff_ne.1 (by first | assumption | exact And.right (by assumption)); omega)
                | (go_ret2
                   exact ⟨0, 12, rfl, CV.out _ _ hw.out, drewN_below2 (Below.refl _ _) _⟩)
        · have hw := Lib.hid (show DegT true t (ptOf t) 0 12 by rw [P.out]; exact Or.inr ⟨fun g => hf g.1, rfl, rfl⟩)
          have hff : ¬ (k + 1 < t.size ∧ 1 ≤ k ∧ k ≤ 3 ∧ t.size ≤ k + 10 ∧ (k ≤ 1 ∨ ¬ ((t[0].toNat : Nat) : Int) = 48)) := by
            rw [← at_of t 0 (by omega)]; exact hf
          go_wp2
          all_goals first
            | (exfalso; omega)
            | (exfalso; have hq : ¬ ((t[0].toNat : Nat) : Int) = 48 := beq_eq_false_iff_ne.1 (by first | assumption | exact And.right (by assumption)); omega)
            | (go_ret2
               exact ⟨0, 12, rfl, CV.out _ _ hw.out, Below.refl _ _⟩)
      · have A2 := Lib.hid (show ∀ j (hj : j < t.size), j < k + 1 → ¬ ((t[j].toNat : Nat) : Int) = 46 from fun j hj hjk => by
          by_cases g : j = k
          · subst g; exact h46
          · exact A.out j hj (by omega))
        have b1 : (((t[k].toNat : Nat) : Int) != 46) = true := by simpa using h46
        go_wp2
        go_round
        case rel => exact ⟨k + 1, by omega, by go_num, A2⟩
        case measure => simp [intOf]; omega
    · have P := Lib.hid (pt_eq hk A.out (fun h => absurd h hlt))
      have hw := Lib.hid (show DegT true t (ptOf t) 0 12 by rw [P.out]; exact Or.inr ⟨fun g => by have := g.1.1; omega, rfl, rfl⟩)
      obtain rfl : k = t.size := by omega
      have m0 : ¬ ((t.size : Int) < t.size) := by omega
      go_wp2
      all_goals
        go_ret2
        exact ⟨0, 12, rfl, CV.out _ _ hw.out, Below.refl _ _⟩
end Gp
end Go.Proofs.YtaghilgfldaaiaaGreatDoor
/-
  ParseDeg of the reference.
-/
namespace Go.Proofs.YtaghilgfldaaiaaGreatDoor
namespace Gp
open Go.RowKit Lw

set_option maxRecDepth 100000 in
set_option maxHeartbeats 40000000 in
theorem rdeg_B (s : ByteArray) (w : World) (hs : s.size ≤ 100) (i0 : 0 < s.size) (h45 : ¬ ((s[0].toNat : Nat) : Int) = 45) :
    Calls Tryz.prog 82 #[.string s] w fun e w' => ∃ v c : Int, e = .returned (.tuple #[.int .i64 v, .int .i64 c]) ∧ DegT false s (ptOf s) v c ∧ Below w.heap.size w w' := by
  go_enter Tryz.func82, Tryz.ntmps82
  have m0 : (0 : Int) < s.size := by omega
  have b0 : (((s[0].toNat : Nat) : Int) == 45) = false := beq_eq_false_iff_ne.2 h45
  have CV : Hid (∀ v e, DegT false s (ptOf s) v e → DegT false s (ptOf s) v e) := Lib.hid fun _ _ h => h
  have hts := hs
  go_wp2_with fail
  obtain ⟨t, rfl⟩ : ∃ t, t = s := ⟨_, rfl⟩
  go_loop [5] (fun i => ∃ k : Nat, k ≤ t.size ∧ i = .int .i64 k ∧ Hid (∀ j (hj : j < t.size), j < k → ¬ ((t[j].toNat : Nat) : Int) = 46)) (fun i => t.size - (intOf i).toNat)
  case atStart => exact ⟨0, Nat.zero_le _, rfl, Lib.hid (by omega)⟩
  case round =>
    obtain ⟨k, hk, rfl, A⟩ := hrel
    by_cases hlt : k < t.size
    · have i0 : 0 < t.size := by omega
      by_cases h46 : ((t[k].toNat : Nat) : Int) = 46
      · have P := Lib.hid (pt_eq hk A.out (fun _ => h46))
        by_cases hf : formP t k
        · obtain ⟨f1, f2, f3, f4, f5⟩ := hf
          have hfP := Lib.hid (show formP t k from ⟨f1, f2, f3, f4, f5⟩)
          have D1 := degD_bd t k f3
          have F1 := degF_bd t k f4
          have ND : ∀ w : World, Calls Tryz.prog 137 #[.string (t.extract 0 k)] w fun e w' => e = .returned (.int .i64 (degD t k)) ∧ w = w' := fun w => number_any _ w (by simp; omega)
          have NF : ∀ w : World, Calls Tryz.prog 137 #[.string (t.extract (k + 1) t.size)] w fun e w' => e = .returned (.int .i64 (degF t k)) ∧ w = w' := fun w => number_any _ w (by simp; omega)
          have NT : ∀ w : World, Calls Tryz.prog 90 #[.int .i64 (t.extract (k + 1) t.size).size] w fun e w' => e = .returned (.int .i64 (tenI (t.extract (k + 1) t.size).size)) ∧ w = w' := fun w => rten_any _ w (by simp; omega)
          have zr : (t.extract (k + 1) t.size).size = t.size - (k + 1) := by simp
          generalize hDD : degD t k = D at *
          have hE10 : degF t k < 10 ^ (t.extract (k + 1) t.size).size := by
            have := (numV_bd (t.extract (k + 1) t.size).data.toList).2
            have e : (t.extract (k + 1) t.size).data.toList.length = (t.extract (k + 1) t.size).size := by simp
            rw [e] at this
            exact this
          generalize hFF : degF t k = E at *
          have hw : ¬ numP false D E → DegT false t (ptOf t) 0 12 := fun h => by rw [P.out]; exact Or.inr ⟨fun g => h (by rw [← hDD, ← hFF]; exact g.2), rfl, rfl⟩
          have hv : numP false D E → DegT false t (ptOf t) (sgnI false (D * 3600000000 + fracI E (t.extract (k + 1) t.size).size)) 0 := fun h => by rw [P.out]; exact Or.inl ⟨hfP.out, by rw [hDD, hFF]; exact h, by rw [hDD, hFF, zr], rfl⟩
          have zr9 : (t.extract (k + 1) t.size).size ≤ 9 := by omega
          clear zr hfP hDD hFF
          have hw := Lib.hid hw
          have hv := Lib.hid hv
          have m1 : (k : Int) + 1 < t.size := by omega
          have m2 : (1 : Int) ≤ k := by omega
          have m3 : (k : Int) ≤ 3 := by omega
          have m4 : (t.size : Int) - k - 1 ≤ 9 := by omega
          have m5 : (k : Int) ≤ t.size := by omega
          have m6 : (k : Int) + 1 ≤ t.size := by omega
          have e1 : IntKind.i64.wrap ((k : Int) + 1) = k + 1 := IntWalk.i64_in _ (by omega)
          have i0 : 0 < t.size := by omega
          have x0 := at_of t 0 i0
          rw [x0] at f5
          clear x0 f1 f2 f3 f4 A
          obtain ⟨D0, D9⟩ := D1
          obtain ⟨E0, E9⟩ := F1
          have hk5 : k ≤ 1 ∨ (1 < k ∧ ¬ ((t[0].toNat : Nat) : Int) = 48) := by omega
          clear f5
          rcases hk5 with f5 | ⟨f5, f6⟩
          · have m7 : ¬ (1 : Int) < k := by omega
            go_wp2_with fail
            go_quiet ((go_at_call 137; first | exact quiet_left (ND _) | exact quiet_add_left (ND _)))
            go_wp2_with fail
            generalize t.extract (k + 1) t.size = r at *
            go_at_call 137
            refine (NF _).mono ?_
            rintro e w' ⟨rfl, rfl⟩
            by_cases hn : numP false D E
            · obtain ⟨n1, n2, n3, n4, n5⟩ := hn
              obtain ⟨T, C, M, U, R, eT, eM, eU, c1, c2, t1, t2, mm1, mm2, u1, u2, p1, p2, r1, r2, eR, NC, NR⟩ := deg_letters E r.size n2 hE10 zr9
              rw [eT] at NT
              have hv := Lib.hid (show DegT false t (ptOf t) (sgnI false (D * 3600000000 + R)) 0 by rw [← eR.out]; exact hv.out ⟨n1, n2, n3, n4, n5⟩)
              clear eT eR hw
              have hcase : ((D == 360) = true ∧ ¬ (0 : Int) < E) ∨ ((D == 360) = false) := by
                by_cases q : D = 360
                · exact Or.inl ⟨by simp [q], by omega⟩
                · exact Or.inr (by simp [q])
              clear n4 n5
              rcases hcase with ⟨g1, g2⟩ | g1
              · go_wp2_with (first | (go_at_call 90; refine (NT _).mono ?_; rintro e w' ⟨rfl, rfl⟩) | (go_at_call 91; refine (NC _).mono ?_; rintro e w' ⟨rfl, hB⟩))
                go_quiet ((first | (go_at_call 90; first | exact quiet_left (NT _) | exact quiet_add_left (NT _)) | (go_at_call 89; first | exact quiet_more NR | exact quiet_add_more NR)))
                go_wp2_with fail
                go_ret2
                exact ⟨_, _, rfl, CV.out _ _ hv.out, drewN_below2 (Below.trans (drewN_below2 (Below.refl _ _) _) hB) _⟩
              · go_wp2_with (first | (go_at_call 90; refine (NT _).mono ?_; rintro e w' ⟨rfl, rfl⟩) | (go_at_call 91; refine (NC _).mono ?_; rintro e w' ⟨rfl, hB⟩))
                go_quiet ((first | (go_at_call 90; first | exact quiet_left (NT _) | exact quiet_add_left (NT _)) | (go_at_call 89; first | exact quiet_more NR | exact quiet_add_more NR)))
                go_wp2_with fail
                go_ret2
                exact ⟨_, _, rfl, CV.out _ _ hv.out, drewN_below2 (Below.trans (drewN_below2 (Below.refl _ _) _) hB) _⟩
            · have hw := Lib.hid (hw.out hn)
              clear hv
              unfold numP at hn
              simp only [reduceCtorEq, false_or, true_or, and_true] at hn
              go_wp2_with fail
              all_goals first
                | (exfalso; omega)
                | (exfalso; have hq : ¬ E = 0 := beq_eq_false_iff_ne.1 (by first | assumption | exact And.right (by assumption)); omega)
                | (go_ret2
                   exact ⟨0, 12, rfl, CV.out _ _ hw.out, drewN_below2 (Below.refl _ _) _⟩)
          · have m7 : (((t[0].toNat : Nat) : Int) == 48) = false := beq_eq_false_iff_ne.2 f6
            have m8 : (1 : Int) < k := by omega
            go_wp2_with fail
            go_quiet ((go_at_call 137; first | exact quiet_left (ND _) | exact quiet_add_left (ND _)))
            go_wp2_with fail
            generalize t.extract (k + 1) t.size = r at *
            go_at_call 137
            refine (NF _).mono ?_
            rintro e w' ⟨rfl, rfl⟩
            by_cases hn : numP false D E
            · obtain ⟨n1, n2, n3, n4, n5⟩ := hn
              obtain ⟨T, C, M, U, R, eT, eM, eU, c1, c2, t1, t2, mm1, mm2, u1, u2, p1, p2, r1, r2, eR, NC, NR⟩ := deg_letters E r.size n2 hE10 zr9
              rw [eT] at NT
              have hv := Lib.hid (show DegT false t (ptOf t) (sgnI false (D * 3600000000 + R)) 0 by rw [← eR.out]; exact hv.out ⟨n1, n2, n3, n4, n5⟩)
              clear eT eR hw
              have hcase : ((D == 360) = true ∧ ¬ (0 : Int) < E) ∨ ((D == 360) = false) := by
                by_cases q : D = 360
                · exact Or.inl ⟨by simp [q], by omega⟩
                · exact Or.inr (by simp [q])
              clear n4 n5
              rcases hcase with ⟨g1, g2⟩ | g1
              · go_wp2_with (first | (go_at_call 90; refine (NT _).mono ?_; rintro e w' ⟨rfl, rfl⟩) | (go_at_call 91; refine (NC _).mono ?_; rintro e w' ⟨rfl, hB⟩))
                go_quiet ((first | (go_at_call 90; first | exact quiet_left (NT _) | exact quiet_add_left (NT _)) | (go_at_call 89; first | exact quiet_more NR | exact quiet_add_more NR)))
                go_wp2_with fail
                go_ret2
                exact ⟨_, _, rfl, CV.out _ _ hv.out, drewN_below2 (Below.trans (drewN_below2 (Below.refl _ _) _) hB) _⟩
              · go_wp2_with (first | (go_at_call 90; refine (NT _).mono ?_; rintro e w' ⟨rfl, rfl⟩) | (go_at_call 91; refine (NC _).mono ?_; rintro e w' ⟨rfl, hB⟩))
                go_quiet ((first | (go_at_call 90; first | exact quiet_left (NT _) | exact quiet_add_left (NT _)) | (go_at_call 89; first | exact quiet_more NR | exact quiet_add_more NR)))
                go_wp2_with fail
                go_ret2
                exact ⟨_, _, rfl, CV.out _ _ hv.out, drewN_below2 (Below.trans (drewN_below2 (Below.refl _ _) _) hB) _⟩
            · have hw := Lib.hid (hw.out hn)
              clear hv
              unfold numP at hn
              simp only [reduceCtorEq, false_or, true_or, and_true] at hn
              go_wp2_with fail
              all_goals first
                | (exfalso; omega)
                | (exfalso; have hq : ¬ E = 0 := beq_eq_false_iff_ne.1 (by first | assumption | exact And.right (by assumption)); omega)
                | (go_ret2
                   exact ⟨0, 12, rfl, CV.out _ _ hw.out, drewN_below2 (Below.refl _ _) _⟩)
        · have hw := Lib.hid (show DegT false t (ptOf t) 0 12 by rw [P.out]; exact Or.inr ⟨fun g => hf g.1, rfl, rfl⟩)
          have hff : ¬ (k + 1 < t.size ∧ 1 ≤ k ∧ k ≤ 3 ∧ t.size ≤ k + 10 ∧ (k ≤ 1 ∨ ¬ ((t[0].toNat : Nat) : Int) = 48)) := by
            rw [← at_of t 0 (by omega)]; exact hf
          go_wp2
          all_goals first
            | (exfalso; omega)
            | (exfalso; have hq : ¬ ((t[0].toNat : Nat) : Int) = 48 := beq_eq_false_iff_ne.1 (by first | assumption | exact And.right (by assumption)); omega)
            | (go_ret2
               exact ⟨0, 12, rfl, CV.out _ _ hw.out, Below.refl _ _⟩)
      · have A2 := Lib.hid (show ∀ j (hj : j < t.size), j < k + 1 → ¬ ((t[j].toNat : Nat) : Int) = 46 from fun j hj hjk => by
          by_cases g : j = k
          · subst g; exact h46
          · exact A.out j hj (by omega))
        have b1 : (((t[k].toNat : Nat) : Int) != 46) = true := by simpa using h46
        go_wp2
        go_round
        case rel => exact ⟨k + 1, by omega, by go_num, A2⟩
        case measure => simp [intOf]; omega
    · have P := Lib.hid (pt_eq hk A.out (fun h => absurd h hlt))
      have hw := Lib.hid (show DegT false t (ptOf t) 0 12 by rw [P.out]; exact Or.inr ⟨fun g => by have := g.1.1; omega, rfl, rfl⟩)
      obtain rfl : k = t.size := by omega
      have m0 : ¬ ((t.size : Int) < t.size) := by omega
      go_wp2
      all_goals
        go_ret2
        exact ⟨0, 12, rfl, CV.out _ _ hw.out, Below.refl _ _⟩
end Gp
end Go.Proofs.YtaghilgfldaaiaaGreatDoor
/-
  ParseDeg of the reference, for any text.
-/
namespace Go.Proofs.YtaghilgfldaaiaaGreatDoor
namespace Gp
open Go.RowKit Lw

theorem empty_of_size {s : ByteArray} (h : s.size = 0) : s = ByteArray.empty := by
  cases s with
  | mk d =>
    have : d = #[] := Array.eq_empty_of_size_eq_zero h
    rw [this]; rfl
set_option maxRecDepth 100000 in
set_option maxHeartbeats 4000000 in
theorem rdeg_0 (w : World) :
    Calls Tryz.prog 82 #[.string ByteArray.empty] w fun e w' => ∃ v c : Int, e = .returned (.tuple #[.int .i64 v, .int .i64 c]) ∧ DegT false ByteArray.empty (ptOf ByteArray.empty) v c ∧ Below w.heap.size w w' := by
  have hw := Lib.hid (show DegT false ByteArray.empty (ptOf ByteArray.empty) 0 12 from Or.inr ⟨fun g => by have := g.1.1; simp at this, rfl, rfl⟩)
  go_enter Tryz.func82, Tryz.ntmps82
  go_wp2_with fail
  go_loop [5] (fun i => i = .int .i64 0) (fun _ => 0)
  case atStart => rfl
  case round =>
    obtain rfl := hrel
    go_wp2
    go_ret2
    exact ⟨0, 12, rfl, hw.out, Below.refl _ _⟩
theorem rdeg_any (s : ByteArray) (w : World) (hs : s.size ≤ 100) :
    Calls Tryz.prog 82 #[.string s] w fun e w' => ∃ v c : Int, e = .returned (.tuple #[.int .i64 v, .int .i64 c]) ∧ DegT (negB s) (bodyOf s) (ptOf (bodyOf s)) v c ∧ Below w.heap.size w w' := by
  by_cases h : negP s
  · have h45 := h.2
    rw [at_of s 0 h.1] at h45
    have e1 : negB s = true := decide_eq_true h
    have e2 : bodyOf s = s.extract 1 s.size := if_pos h
    rw [e1, e2]
    exact rdeg_A s w hs h.1 h45
  · have e1 : negB s = false := decide_eq_false h
    have e2 : bodyOf s = s := if_neg h
    rw [e1, e2]
    by_cases h0 : 0 < s.size
    · exact rdeg_B s w hs h0 (fun g => h ⟨h0, by rw [at_of s 0 h0]; exact g⟩)
    · obtain rfl := empty_of_size (show s.size = 0 by omega)
      exact rdeg_0 w
end Gp
end Go.Proofs.YtaghilgfldaaiaaGreatDoor
/-
  The walk of read of the reference, at fields that are read right.
-/
namespace Go.Proofs.YtaghilgfldaaiaaGreatDoor
namespace Vw
open Go.RowKit Lw Go.Proofs.YtaghilgfldaaiaaGreatDoor.Ap Go.Proofs.YtaghilgfldaaiaaGreatDoor.Vp Go.Proofs.YtaghilgfldaaiaaGreatDoor.Op Go.Proofs.YtaghilgfldaaiaaGreatDoor.Ow Go.Proofs.YtaghilgfldaaiaaGreatDoor.Mp Go.Proofs.YtaghilgfldaaiaaGreatDoor.Mw Go.Proofs.YtaghilgfldaaiaaGreatDoor.At

/-- What read keeps: the observation's box, and the result's. -/
structure QX (w0 : World) (o q : Ob) (w : World) : Prop where
  bx : Rw w w0.heap.size (obsC o)
  rs : Rw w (w0.heap.size + 1) (obsC q)
  below : Below w0.heap.size w0 w
theorem QX.call {w0 w w' : World} {o q : Ob} (h : QX w0 o q w) (hb : Below w.heap.size w w') : QX w0 o q w' := ⟨h.bx.call hb, h.rs.call hb, below_then h.below hb⟩
theorem QX.new (w : World) (o : Ob) : QX w o zeroO ((w.alloc (.cells (obsC o).toArray 33)).alloc (.cells (obsC zeroO).toArray 33)) := by
  have a1 := (Below.refl w.heap.size w).alloc (Nat.le_refl _) (.cells (obsC o).toArray 33)
  have r1 := Rw.new w (obsC o) 33
  have e1 : (w.alloc (.cells (obsC o).toArray 33)).heap.size = w.heap.size + 1 := by simp
  generalize w.alloc (.cells (obsC o).toArray 33) = v1 at *
  have a2 := (Below.refl v1.heap.size v1).alloc (Nat.le_refl _) (.cells (obsC zeroO).toArray 33)
  have r2 := Rw.new v1 (obsC zeroO) 33
  rw [e1] at r2
  exact ⟨r1.call a2, r2, below_then a1 a2⟩
theorem QX.put {w0 w : World} {o o' q : Ob} (h : QX w0 o q w) (j : Nat) (v : Value) (hj : j < 8) (e : (obsC o).set j v = obsC o') : QX w0 o' q (w.setCell ⟨w0.heap.size, j, none⟩ v) := by
  have b := h.bx.set j v hj
  rw [e] at b
  exact ⟨b, h.rs.apart (Nat.succ_ne_self _) j v, h.below.setCell (p := ⟨w0.heap.size, j, none⟩) (Nat.le_refl _) v⟩
theorem QX.res {w0 w : World} {o q : Ob} (h : QX w0 o q w) (q' : Ob) : QX w0 o q' (w.setCells (w0.heap.size + 1) 0 (obsC q')) :=
  ⟨h.bx.sets_apart (obsC q') (Nat.ne_of_lt (Nat.lt_succ_self _)) 0, h.rs.sets (obsC q') rfl, below_setCells (w0.heap.size + 1) (Nat.le_succ _) (obsC q') 0 w h.below⟩
def ReadPost (q : Ob) (w : World) (e : Ending) (w' : World) : Prop := e = .returned (.tuple #[obsV q, .bool true]) ∧ Below w.heap.size w w'
set_option maxRecDepth 100000 in
set_option maxHeartbeats 8000000 in
theorem rread0_any (o : Ob) (s : ByteArray) (w : World) : Calls Tryz.prog 38 #[obsV o, .int .i64 0, .string s] w (ReadPost { o with name := s } w) := by
  have X0 := Lib.hid (QX.new w o)
  go_enter Tryz.func38, Tryz.ntmps38
  go_upto_region 1 with fail
  obtain ⟨w1, hw1⟩ : ∃ w1, (w.alloc (.cells (obsC o).toArray 33)).alloc (.cells (obsC zeroO).toArray 33) = w1 := ⟨_, rfl⟩
  rw [hw1] at X0
  have HW1 := Lib.hid hw1
  clear hw1
  rw [show (w.alloc (.cells #[.string o.name, .string o.site, .int .i64 o.t, .int .i64 o.ra, .int .i64 o.dec, .int .i64 o.sg, .int .i64 o.mag, .int .u8 o.band] 33)).alloc (.cells #[.string ⟨#[]⟩, .string ⟨#[]⟩, .int .i64 0, .int .i64 0, .int .i64 0, .int .i64 0, .int .i64 0, .int .u8 0] 33) = w1 from HW1.out]
  have ce : w1.cell? ⟨w.heap.size, 0, none⟩ = some (.string o.name) := X0.out.bx.cell (j := 0) rfl
  have fe : w1.frozen? ⟨w.heap.size, 0, none⟩ = false := X0.out.bx.free (j := 0) (by simp)
  have X1 := Lib.hid (X0.out.put 0 (.string s) (by omega) (show _ = obsC { o with name := s } from rfl))
  generalize { o with name := s } = q at *
  clear X0
  obtain ⟨w2, hw2⟩ : ∃ w2, w1.setCell ⟨w.heap.size, 0, none⟩ (.string s) = w2 := ⟨_, rfl⟩
  rw [hw2] at X1
  have HW2 := Lib.hid hw2
  clear hw2
  have R := X1.out.bx.row
  have TH := X1.out.rs.th
  have X2 := Lib.hid (X1.out.res q)
  obtain ⟨w3, hw3⟩ : ∃ w3, w2.setCells (w.heap.size + 1) 0 (obsC q) = w3 := ⟨_, rfl⟩
  rw [hw3] at X2
  have HW3 := Lib.hid hw3
  clear hw3 HW1
  go_upto_region 25 with fail
  rw [HW2.out]
  go_wp2_with (first | (refine wpList_load_mid rfl _ (.tmp 3) rfl w.heap.size 0 rfl (obsC q) _ R Tryz.underlying33 rfl info8 ?_) | (refine wpList_store_mid rfl _ (.tmp 6) (.tmp 78) rfl (w.heap.size + 1) 0 (obsC q).toArray rfl rfl TH info8 (by simp [Value.oneCell']) ?_; rw [List.toList_toArray, HW3.out]))
  exact bodyPost_ret (ret_cell_tmp Tryz.results38 _ _ (w.heap.size + 1) (obsC q) _ rfl X2.out.rs.row Tryz.underlying33 rfl info8) rfl ⟨rfl, X2.out.below⟩
set_option maxRecDepth 100000 in
set_option maxHeartbeats 8000000 in
theorem rread1_any (o : Ob) (s : ByteArray) (w : World) : Calls Tryz.prog 38 #[obsV o, .int .i64 1, .string s] w (ReadPost { o with site := s } w) := by
  have X0 := Lib.hid (QX.new w o)
  go_enter Tryz.func38, Tryz.ntmps38
  go_upto_region 1 with fail
  obtain ⟨w1, hw1⟩ : ∃ w1, (w.alloc (.cells (obsC o).toArray 33)).alloc (.cells (obsC zeroO).toArray 33) = w1 := ⟨_, rfl⟩
  rw [hw1] at X0
  have HW1 := Lib.hid hw1
  clear hw1
  rw [show (w.alloc (.cells #[.string o.name, .string o.site, .int .i64 o.t, .int .i64 o.ra, .int .i64 o.dec, .int .i64 o.sg, .int .i64 o.mag, .int .u8 o.band] 33)).alloc (.cells #[.string ⟨#[]⟩, .string ⟨#[]⟩, .int .i64 0, .int .i64 0, .int .i64 0, .int .i64 0, .int .i64 0, .int .u8 0] 33) = w1 from HW1.out]
  have ce : w1.cell? ⟨w.heap.size, 1, none⟩ = some (.string o.site) := X0.out.bx.cell (j := 1) rfl
  have fe : w1.frozen? ⟨w.heap.size, 1, none⟩ = false := X0.out.bx.free (j := 1) (by simp)
  have X1 := Lib.hid (X0.out.put 1 (.string s) (by omega) (show _ = obsC { o with site := s } from rfl))
  generalize { o with site := s } = q at *
  clear X0
  obtain ⟨w2, hw2⟩ : ∃ w2, w1.setCell ⟨w.heap.size, 1, none⟩ (.string s) = w2 := ⟨_, rfl⟩
  rw [hw2] at X1
  have HW2 := Lib.hid hw2
  clear hw2
  have R := X1.out.bx.row
  have TH := X1.out.rs.th
  have X2 := Lib.hid (X1.out.res q)
  obtain ⟨w3, hw3⟩ : ∃ w3, w2.setCells (w.heap.size + 1) 0 (obsC q) = w3 := ⟨_, rfl⟩
  rw [hw3] at X2
  have HW3 := Lib.hid hw3
  clear hw3 HW1
  go_upto_region 25 with fail
  rw [HW2.out]
  go_wp2_with (first | (refine wpList_load_mid rfl _ (.tmp 3) rfl w.heap.size 0 rfl (obsC q) _ R Tryz.underlying33 rfl info8 ?_) | (refine wpList_store_mid rfl _ (.tmp 6) (.tmp 78) rfl (w.heap.size + 1) 0 (obsC q).toArray rfl rfl TH info8 (by simp [Value.oneCell']) ?_; rw [List.toList_toArray, HW3.out]))
  exact bodyPost_ret (ret_cell_tmp Tryz.results38 _ _ (w.heap.size + 1) (obsC q) _ rfl X2.out.rs.row Tryz.underlying33 rfl info8) rfl ⟨rfl, X2.out.below⟩
/-- A time, or degrees, that are read right. -/
theorem rtime_good {s : ByteArray} {t : Int} (h : timeR s = some t) (hs : s.size ≤ 100) (w : World) : Calls Tryz.prog 81 #[.string s] w fun e w' => e = .returned (.tuple #[.int .i64 t, .int .i64 0]) ∧ Below w.heap.size w w' := by
  have P : Calls Tryz.prog 81 #[.string s] w (Ap.ParsePost s w) := by
    by_cases g : s.size < 20 ∨ s.size = 21 ∨ 27 < s.size
    · exact Ap.rparse_short s w hs g
    · exact Ap.rparse_long s w (by omega) (by omega) (by omega)
  refine P.mono ?_
  rintro e w' ⟨v, c, rfl, hp, hb⟩
  refine ⟨?_, hb⟩
  rcases timeR_is hp with ⟨rfl, g⟩ | ⟨_, _, g⟩
  · rw [h] at g
    rw [Option.some.inj g]
  · rw [h] at g; cases g
theorem rdeg_good {s : ByteArray} {a : Int} (h : degR s = some a) (hs : s.size ≤ 100) (w : World) : Calls Tryz.prog 82 #[.string s] w fun e w' => e = .returned (.tuple #[.int .i64 a, .int .i64 0]) ∧ Below w.heap.size w w' := by
  refine (Gp.rdeg_any s w hs).mono ?_
  rintro e w' ⟨v, c, rfl, hp, hb⟩
  refine ⟨?_, hb⟩
  rcases degR_is hp with ⟨rfl, g⟩ | ⟨_, _, g⟩
  · rw [h] at g
    rw [Option.some.inj g]
  · rw [h] at g; cases g
set_option maxRecDepth 100000 in
set_option maxHeartbeats 8000000 in
theorem rread2_any (o : Ob) (s : ByteArray) {t : Int} (h : timeR s = some t) (hs : s.size ≤ 100) (w : World) : Calls Tryz.prog 38 #[obsV o, .int .i64 2, .string s] w (ReadPost { o with t := t } w) := by
  have X0 := Lib.hid (QX.new w o)
  have PA := Lib.hid (fun w => rtime_good h hs w)
  clear h
  go_enter Tryz.func38, Tryz.ntmps38
  go_wp2_with fail
  refine (PA.out _).mono ?_
  rintro e w1 ⟨rfl, hb⟩
  replace X0 := Lib.hid (X0.out.call hb)
  clear hb PA
  have ce : w1.cell? ⟨w.heap.size, 2, none⟩ = some (.int .i64 o.t) := X0.out.bx.cell (j := 2) rfl
  have fe : w1.frozen? ⟨w.heap.size, 2, none⟩ = false := X0.out.bx.free (j := 2) (by simp)
  have X1 := Lib.hid (X0.out.put 2 (.int .i64 t) (by omega) (show _ = obsC { o with t := t } from rfl))
  generalize { o with t := t } = q at *
  clear X0
  obtain ⟨w2, hw2⟩ : ∃ w2, w1.setCell ⟨w.heap.size, 2, none⟩ (.int .i64 t) = w2 := ⟨_, rfl⟩
  rw [hw2] at X1
  have HW2 := Lib.hid hw2
  clear hw2
  have R := X1.out.bx.row
  have TH := X1.out.rs.th
  have X2 := Lib.hid (X1.out.res q)
  obtain ⟨w3, hw3⟩ : ∃ w3, w2.setCells (w.heap.size + 1) 0 (obsC q) = w3 := ⟨_, rfl⟩
  rw [hw3] at X2
  have HW3 := Lib.hid hw3
  clear hw3
  go_upto_region 25 with fail
  rw [HW2.out]
  go_wp2_with (first | (refine wpList_load_mid rfl _ (.tmp 3) rfl w.heap.size 0 rfl (obsC q) _ R Tryz.underlying33 rfl info8 ?_) | (refine wpList_store_mid rfl _ (.tmp 6) (.tmp 78) rfl (w.heap.size + 1) 0 (obsC q).toArray rfl rfl TH info8 (by simp [Value.oneCell']) ?_; rw [List.toList_toArray, HW3.out]))
  exact bodyPost_ret (ret_cell_tmp Tryz.results38 _ _ (w.heap.size + 1) (obsC q) _ rfl X2.out.rs.row Tryz.underlying33 rfl info8) rfl ⟨rfl, X2.out.below⟩
set_option maxRecDepth 100000 in
set_option maxHeartbeats 8000000 in
theorem rread4_any (o : Ob) (s : ByteArray) {a : Int} (h : degR s = some a) (hs : s.size ≤ 100) (w : World) : Calls Tryz.prog 38 #[obsV o, .int .i64 4, .string s] w (ReadPost { o with dec := a } w) := by
  have X0 := Lib.hid (QX.new w o)
  have PA := Lib.hid (fun w => rdeg_good h hs w)
  clear h
  go_enter Tryz.func38, Tryz.ntmps38
  go_wp2_with fail
  refine (PA.out _).mono ?_
  rintro e w1 ⟨rfl, hb⟩
  replace X0 := Lib.hid (X0.out.call hb)
  clear hb PA
  have ce : w1.cell? ⟨w.heap.size, 4, none⟩ = some (.int .i64 o.dec) := X0.out.bx.cell (j := 4) rfl
  have fe : w1.frozen? ⟨w.heap.size, 4, none⟩ = false := X0.out.bx.free (j := 4) (by simp)
  have X1 := Lib.hid (X0.out.put 4 (.int .i64 a) (by omega) (show _ = obsC { o with dec := a } from rfl))
  generalize { o with dec := a } = q at *
  clear X0
  obtain ⟨w2, hw2⟩ : ∃ w2, w1.setCell ⟨w.heap.size, 4, none⟩ (.int .i64 a) = w2 := ⟨_, rfl⟩
  rw [hw2] at X1
  have HW2 := Lib.hid hw2
  clear hw2
  have R := X1.out.bx.row
  have TH := X1.out.rs.th
  have X2 := Lib.hid (X1.out.res q)
  obtain ⟨w3, hw3⟩ : ∃ w3, w2.setCells (w.heap.size + 1) 0 (obsC q) = w3 := ⟨_, rfl⟩
  rw [hw3] at X2
  have HW3 := Lib.hid hw3
  clear hw3
  go_upto_region 25 with fail
  rw [HW2.out]
  go_wp2_with (first | (refine wpList_load_mid rfl _ (.tmp 3) rfl w.heap.size 0 rfl (obsC q) _ R Tryz.underlying33 rfl info8 ?_) | (refine wpList_store_mid rfl _ (.tmp 6) (.tmp 78) rfl (w.heap.size + 1) 0 (obsC q).toArray rfl rfl TH info8 (by simp [Value.oneCell']) ?_; rw [List.toList_toArray, HW3.out]))
  exact bodyPost_ret (ret_cell_tmp Tryz.results38 _ _ (w.heap.size + 1) (obsC q) _ rfl X2.out.rs.row Tryz.underlying33 rfl info8) rfl ⟨rfl, X2.out.below⟩
set_option maxRecDepth 100000 in
set_option maxHeartbeats 8000000 in
theorem rread6_any (o : Ob) (s : ByteArray) {m : Int} (hm : m = 9999 ∨ (-500 ≤ m ∧ m ≤ 3000)) (h : s = stL (Vp.magF m)) (w : World) : Calls Tryz.prog 38 #[obsV o, .int .i64 6, .string s] w (ReadPost { o with mag := m } w) := by
  have X0 := Lib.hid (QX.new w o)
  have PA := Lib.hid (fun w => rmagn_any m w hm)
  rw [← h] at PA
  clear h hm
  go_enter Tryz.func38, Tryz.ntmps38
  go_wp2_with fail
  refine (PA.out _).mono ?_
  rintro e w1 ⟨rfl, hb⟩
  replace X0 := Lib.hid (X0.out.call hb)
  clear hb PA
  have ce : w1.cell? ⟨w.heap.size, 6, none⟩ = some (.int .i64 o.mag) := X0.out.bx.cell (j := 6) rfl
  have fe : w1.frozen? ⟨w.heap.size, 6, none⟩ = false := X0.out.bx.free (j := 6) (by simp)
  have X1 := Lib.hid (X0.out.put 6 (.int .i64 m) (by omega) (show _ = obsC { o with mag := m } from rfl))
  generalize { o with mag := m } = q at *
  clear X0
  obtain ⟨w2, hw2⟩ : ∃ w2, w1.setCell ⟨w.heap.size, 6, none⟩ (.int .i64 m) = w2 := ⟨_, rfl⟩
  rw [hw2] at X1
  have HW2 := Lib.hid hw2
  clear hw2
  have R := X1.out.bx.row
  have TH := X1.out.rs.th
  have X2 := Lib.hid (X1.out.res q)
  obtain ⟨w3, hw3⟩ : ∃ w3, w2.setCells (w.heap.size + 1) 0 (obsC q) = w3 := ⟨_, rfl⟩
  rw [hw3] at X2
  have HW3 := Lib.hid hw3
  clear hw3
  go_upto_region 25 with fail
  rw [HW2.out]
  go_wp2_with (first | (refine wpList_load_mid rfl _ (.tmp 3) rfl w.heap.size 0 rfl (obsC q) _ R Tryz.underlying33 rfl info8 ?_) | (refine wpList_store_mid rfl _ (.tmp 6) (.tmp 78) rfl (w.heap.size + 1) 0 (obsC q).toArray rfl rfl TH info8 (by simp [Value.oneCell']) ?_; rw [List.toList_toArray, HW3.out]))
  exact bodyPost_ret (ret_cell_tmp Tryz.results38 _ _ (w.heap.size + 1) (obsC q) _ rfl X2.out.rs.row Tryz.underlying33 rfl info8) rfl ⟨rfl, X2.out.below⟩
set_option maxRecDepth 100000 in
set_option maxHeartbeats 8000000 in
theorem rread5_any (o : Ob) (s : ByteArray) {n : Int} (h : digV s.data.toList = n) (p0 : 0 < s.size) (h48 : (s[0]'p0) ≠ 48) (hs : s.size ≤ 100) (w : World) : Calls Tryz.prog 38 #[obsV o, .int .i64 5, .string s] w (ReadPost { o with sg := n } w) := by
  have X0 := Lib.hid (QX.new w o)
  have PA : Hid (∀ w : World, Calls Tryz.prog 83 #[.string s] w fun e w' => e = .returned (.int .i64 n) ∧ Below w.heap.size w w') := Lib.hid (fun w => (rdigits27_any s w (by unfold maxLen; omega)).mono (fun e w' ⟨x, y⟩ => ⟨by rw [x, h], by rw [← y]; exact Below.refl _ _⟩))
  have em := sz_no (t := s) (by omega)
  have i0 : (0 : Int) < (s.size : Int) := by omega
  have c10 : (((s[0]'p0).toNat : Int) != 48) = true := by
    rw [bne, beq_eq_false_iff_ne.2]
    · rfl
    · intro e
      have e2 : (s[0]'p0).toNat = (48 : UInt8).toNat := by have e3 : (48 : UInt8).toNat = 48 := rfl; rw [e3]; exact Int.ofNat.inj e
      exact h48 (UInt8.toNat.inj e2)
  clear h h48
  go_enter Tryz.func38, Tryz.ntmps38
  go_wp2_with fail
  refine (PA.out _).mono ?_
  rintro e w1 ⟨rfl, hb⟩
  replace X0 := Lib.hid (X0.out.call hb)
  clear hb PA
  have ce : w1.cell? ⟨w.heap.size, 5, none⟩ = some (.int .i64 o.sg) := X0.out.bx.cell (j := 5) rfl
  have fe : w1.frozen? ⟨w.heap.size, 5, none⟩ = false := X0.out.bx.free (j := 5) (by simp)
  have X1 := Lib.hid (X0.out.put 5 (.int .i64 n) (by omega) (show _ = obsC { o with sg := n } from rfl))
  generalize { o with sg := n } = q at *
  clear X0
  obtain ⟨w2, hw2⟩ : ∃ w2, w1.setCell ⟨w.heap.size, 5, none⟩ (.int .i64 n) = w2 := ⟨_, rfl⟩
  rw [hw2] at X1
  have HW2 := Lib.hid hw2
  clear hw2
  have R := X1.out.bx.row
  have TH := X1.out.rs.th
  have X2 := Lib.hid (X1.out.res q)
  obtain ⟨w3, hw3⟩ : ∃ w3, w2.setCells (w.heap.size + 1) 0 (obsC q) = w3 := ⟨_, rfl⟩
  rw [hw3] at X2
  have HW3 := Lib.hid hw3
  clear hw3
  go_upto_region 25 with fail
  rw [HW2.out]
  go_wp2_with (first | (refine wpList_load_mid rfl _ (.tmp 3) rfl w.heap.size 0 rfl (obsC q) _ R Tryz.underlying33 rfl info8 ?_) | (refine wpList_store_mid rfl _ (.tmp 6) (.tmp 78) rfl (w.heap.size + 1) 0 (obsC q).toArray rfl rfl TH info8 (by simp [Value.oneCell']) ?_; rw [List.toList_toArray, HW3.out]))
  exact bodyPost_ret (ret_cell_tmp Tryz.results38 _ _ (w.heap.size + 1) (obsC q) _ rfl X2.out.rs.row Tryz.underlying33 rfl info8) rfl ⟨rfl, X2.out.below⟩
set_option maxRecDepth 100000 in
set_option maxHeartbeats 8000000 in
theorem rread3_any (o : Ob) (s : ByteArray) {a : Int} (h : degR s = some a) (hs : s.size ≤ 100) (a0 : 0 ≤ a) (a1 : a ≤ 1296000000000) (w : World) : Calls Tryz.prog 38 #[obsV o, .int .i64 3, .string s] w (ReadPost { o with ra := a % 1296000000000 } w) := by
  have X0 := Lib.hid (QX.new w o)
  have PA := Lib.hid (fun w => rdeg_good h hs w)
  have tm : a.tmod 1296000000000 = a % 1296000000000 := Int.tmod_eq_emod_of_nonneg a0
  clear h
  go_enter Tryz.func38, Tryz.ntmps38
  go_wp2_with fail
  refine (PA.out _).mono ?_
  rintro e w1 ⟨rfl, hb⟩
  replace X0 := Lib.hid (X0.out.call hb)
  clear hb PA
  have ce : w1.cell? ⟨w.heap.size, 3, none⟩ = some (.int .i64 o.ra) := X0.out.bx.cell (j := 3) rfl
  have fe : w1.frozen? ⟨w.heap.size, 3, none⟩ = false := X0.out.bx.free (j := 3) (by simp)
  have Y0 := Lib.hid (X0.out.put 3 (.int .i64 a) (by omega) (show _ = obsC { o with ra := a } from rfl))
  have X1 := Lib.hid (Y0.out.put 3 (.int .i64 (a % 1296000000000)) (by omega) (show _ = obsC { o with ra := a % 1296000000000 } from rfl))
  have ce2 := Y0.out.bx.cell (j := 3) (v := .int .i64 a) rfl
  have fe2 := Y0.out.bx.free (j := 3) (by simp)
  generalize { o with ra := a % 1296000000000 } = q at *
  clear X0 Y0
  obtain ⟨w2, hw2⟩ : ∃ w2, (w1.setCell ⟨w.heap.size, 3, none⟩ (.int .i64 a)).setCell ⟨w.heap.size, 3, none⟩ (.int .i64 (a % 1296000000000)) = w2 := ⟨_, rfl⟩
  rw [hw2] at X1
  have HW2 := Lib.hid hw2
  clear hw2
  have R := X1.out.bx.row
  have TH := X1.out.rs.th
  have X2 := Lib.hid (X1.out.res q)
  obtain ⟨w3, hw3⟩ : ∃ w3, w2.setCells (w.heap.size + 1) 0 (obsC q) = w3 := ⟨_, rfl⟩
  rw [hw3] at X2
  have HW3 := Lib.hid hw3
  clear hw3
  go_upto_region 25 with fail
  rw [HW2.out]
  go_wp2_with (first | (refine wpList_load_mid rfl _ (.tmp 3) rfl w.heap.size 0 rfl (obsC q) _ R Tryz.underlying33 rfl info8 ?_) | (refine wpList_store_mid rfl _ (.tmp 6) (.tmp 78) rfl (w.heap.size + 1) 0 (obsC q).toArray rfl rfl TH info8 (by simp [Value.oneCell']) ?_; rw [List.toList_toArray, HW3.out]))
  exact bodyPost_ret (ret_cell_tmp Tryz.results38 _ _ (w.heap.size + 1) (obsC q) _ rfl X2.out.rs.row Tryz.underlying33 rfl info8) rfl ⟨rfl, X2.out.below⟩
set_option maxRecDepth 100000 in
set_option maxHeartbeats 8000000 in
theorem rread7_any (o : Ob) (s : ByteArray) (p0 : 0 < s.size) (h1 : s.size = 1) {u : Int} (hu : ((s[0]'p0).toNat : Int) = u) (w : World) : Calls Tryz.prog 38 #[obsV o, .int .i64 7, .string s] w (ReadPost { o with band := u } w) := by
  have X0 := Lib.hid (QX.new w o)
  have em := sz_no (t := s) (by omega)
  have i0 : (0 : Int) < (s.size : Int) := by omega
  have i1 : (s.size : Int) = 1 := by omega
  go_enter Tryz.func38, Tryz.ntmps38
  go_upto_region 1 with fail
  obtain ⟨w1, hw1⟩ : ∃ w1, (w.alloc (.cells (obsC o).toArray 33)).alloc (.cells (obsC zeroO).toArray 33) = w1 := ⟨_, rfl⟩
  rw [hw1] at X0
  have HW1 := Lib.hid hw1
  clear hw1
  rw [show (w.alloc (.cells #[.string o.name, .string o.site, .int .i64 o.t, .int .i64 o.ra, .int .i64 o.dec, .int .i64 o.sg, .int .i64 o.mag, .int .u8 o.band] 33)).alloc (.cells #[.string ⟨#[]⟩, .string ⟨#[]⟩, .int .i64 0, .int .i64 0, .int .i64 0, .int .i64 0, .int .i64 0, .int .u8 0] 33) = w1 from HW1.out]
  clear HW1
  have hb := Below.refl w1.heap.size w1
  have PA := hb
  replace X0 := Lib.hid (X0.out.call hb)
  clear hb PA
  have ce : w1.cell? ⟨w.heap.size, 7, none⟩ = some (.int .u8 o.band) := X0.out.bx.cell (j := 7) rfl
  have fe : w1.frozen? ⟨w.heap.size, 7, none⟩ = false := X0.out.bx.free (j := 7) (by simp)
  have X1 := Lib.hid (X0.out.put 7 (.int .u8 u) (by omega) (show _ = obsC { o with band := u } from rfl))
  generalize { o with band := u } = q at *
  clear X0
  obtain ⟨w2, hw2⟩ : ∃ w2, w1.setCell ⟨w.heap.size, 7, none⟩ (.int .u8 u) = w2 := ⟨_, rfl⟩
  rw [hw2] at X1
  have HW2 := Lib.hid hw2
  clear hw2
  have R := X1.out.bx.row
  have TH := X1.out.rs.th
  have X2 := Lib.hid (X1.out.res q)
  obtain ⟨w3, hw3⟩ : ∃ w3, w2.setCells (w.heap.size + 1) 0 (obsC q) = w3 := ⟨_, rfl⟩
  rw [hw3] at X2
  have HW3 := Lib.hid hw3
  clear hw3
  go_upto_region 25 with fail
  rw [HW2.out]
  go_wp2_with (first | (refine wpList_load_mid rfl _ (.tmp 3) rfl w.heap.size 0 rfl (obsC q) _ R Tryz.underlying33 rfl info8 ?_) | (refine wpList_store_mid rfl _ (.tmp 6) (.tmp 78) rfl (w.heap.size + 1) 0 (obsC q).toArray rfl rfl TH info8 (by simp [Value.oneCell']) ?_; rw [List.toList_toArray, HW3.out]))
  exact bodyPost_ret (ret_cell_tmp Tryz.results38 _ _ (w.heap.size + 1) (obsC q) _ rfl X2.out.rs.row Tryz.underlying33 rfl info8) rfl ⟨rfl, X2.out.below⟩
set_option maxRecDepth 100000 in
set_option maxHeartbeats 8000000 in
theorem rread7_nil (o : Ob) (w : World) : Calls Tryz.prog 38 #[obsV o, .int .i64 7, .string ⟨#[]⟩] w (ReadPost o w) := by
  have X0 := Lib.hid (QX.new w o)
  go_enter Tryz.func38, Tryz.ntmps38
  go_upto_region 1 with fail
  obtain ⟨w1, hw1⟩ : ∃ w1, (w.alloc (.cells (obsC o).toArray 33)).alloc (.cells (obsC zeroO).toArray 33) = w1 := ⟨_, rfl⟩
  rw [hw1] at X0
  have HW1 := Lib.hid hw1
  clear hw1
  rw [show (w.alloc (.cells #[.string o.name, .string o.site, .int .i64 o.t, .int .i64 o.ra, .int .i64 o.dec, .int .i64 o.sg, .int .i64 o.mag, .int .u8 o.band] 33)).alloc (.cells #[.string ⟨#[]⟩, .string ⟨#[]⟩, .int .i64 0, .int .i64 0, .int .i64 0, .int .i64 0, .int .i64 0, .int .u8 0] 33) = w1 from HW1.out]
  clear HW1
  have R := X0.out.bx.row
  have TH := X0.out.rs.th
  have X2 := Lib.hid (X0.out.res o)
  obtain ⟨w3, hw3⟩ : ∃ w3, w1.setCells (w.heap.size + 1) 0 (obsC o) = w3 := ⟨_, rfl⟩
  rw [hw3] at X2
  have HW3 := Lib.hid hw3
  clear hw3
  go_upto_region 25 with fail
  go_wp2_with (first | (refine wpList_load_mid rfl _ (.tmp 3) rfl w.heap.size 0 rfl (obsC o) _ R Tryz.underlying33 rfl info8 ?_) | (refine wpList_store_mid rfl _ (.tmp 6) (.tmp 78) rfl (w.heap.size + 1) 0 (obsC o).toArray rfl rfl TH info8 (by simp [Value.oneCell']) ?_; rw [List.toList_toArray, HW3.out]))
  exact bodyPost_ret (ret_cell_tmp Tryz.results38 _ _ (w.heap.size + 1) (obsC o) _ rfl X2.out.rs.row Tryz.underlying33 rfl info8) rfl ⟨rfl, X2.out.below⟩
end Vw
end Go.Proofs.YtaghilgfldaaiaaGreatDoor
/-
  The reference's read at each column of an observation's fields.
-/
namespace Go.Proofs.YtaghilgfldaaiaaGreatDoor
namespace Vw
open Go.RowKit Lw Go.Proofs.YtaghilgfldaaiaaGreatDoor.Ap Go.Proofs.YtaghilgfldaaiaaGreatDoor.Vp Go.Proofs.YtaghilgfldaaiaaGreatDoor.Op Go.Proofs.YtaghilgfldaaiaaGreatDoor.Ow Go.Proofs.YtaghilgfldaaiaaGreatDoor.Mp Go.Proofs.YtaghilgfldaaiaaGreatDoor.Mw Go.Proofs.YtaghilgfldaaiaaGreatDoor.At

/-- An observation of which the first k fields are read. -/
def roundTo (o : Ob) : Nat → Ob
  | 0 => baseO
  | 1 => { baseO with name := o.name }
  | 2 => { baseO with name := o.name, site := o.site }
  | 3 => { baseO with name := o.name, site := o.site, t := o.t }
  | 4 => { baseO with name := o.name, site := o.site, t := o.t, ra := dgR o.ra % turnI }
  | 5 => { baseO with name := o.name, site := o.site, t := o.t, ra := dgR o.ra % turnI, dec := dgR o.dec }
  | 6 => { baseO with name := o.name, site := o.site, t := o.t, ra := dgR o.ra % turnI, dec := dgR o.dec, sg := o.sg }
  | 7 => { baseO with name := o.name, site := o.site, t := o.t, ra := dgR o.ra % turnI, dec := dgR o.dec, sg := o.sg, mag := o.mag }
  | _ => roundP o
theorem roundTo_78 {o : Ob} (hb : o.band = 32) : roundTo o 7 = roundTo o 8 := by
  cases o
  simp only at hb
  subst hb
  rfl
theorem rread_col (o : Ob) (T : ByteArray) (ok : okO o) (hT : TextIs o.t 6 T 0) (k : Nat) (hk : k < 8) (w : World) :
    Calls Tryz.prog 38 #[obsV (roundTo o k), .int .i64 (k : Int), .string ((fieldL o T)[k]'hk)] w (ReadPost (roundTo o (k + 1)) w) := by
  have FK : ∀ i (h : i < 8), ((fieldL o T)[i]'h).size ≤ 100 := fun i h => field_size ok hT _ (List.getElem_mem h)
  have RT := (rd_time hT).1
  obtain ⟨ot, on, os, ow, or0, or1, od0, od1, og0, og1, om⟩ := ok
  match k, hk with
  | 0, _ => exact rread0_any _ _ w
  | 1, _ => exact rread1_any _ _ w
  | 2, h => exact rread2_any _ _ RT (FK 2 h) w
  | 3, h => exact rread3_any _ _ (rd_deg (a := o.ra) (by omega) (by omega)) (FK 3 h) (dg_turn or0 (by omega)).1 (dg_turn or0 (by omega)).2 w
  | 4, h => exact rread4_any _ _ (rd_deg (a := o.dec) (by omega) (by omega)) (FK 4 h) w
  | 5, h =>
    obtain ⟨r5, n5⟩ := read_sig og0 og1
    unfold sigR at r5
    have h48 : ¬ (Lib.itoa o.sg).head? = some 48 := by
      intro e
      rw [if_pos e] at r5
      cases r5
    rw [if_neg h48] at r5
    have p0 : 0 < (stL (Lib.itoa o.sg)).size := by rw [stL_size]; exact n5
    have f0 : ((stL (Lib.itoa o.sg))[0]'p0) ≠ 48 := by
      intro e
      apply h48
      rw [List.head?_eq_getElem?, List.getElem?_eq_getElem n5]
      exact congrArg some e
    exact rread5_any _ (stL (Lib.itoa o.sg)) (digV_yes r5 (by omega) (by omega)) p0 f0 (FK 5 h) w
  | 6, h =>
    refine rread6_any _ _ ?_ rfl w
    by_cases h9 : o.mag = 9999
    · exact Or.inl h9
    · have := Ow.mag_bd om h9
      exact Or.inr ⟨by omega, by omega⟩
  | 7, h =>
    by_cases hb : o.band = 32
    · have e1 : stL (bandF o.band) = ⟨#[]⟩ := by unfold bandF; rw [if_pos hb]; rfl
      have e2 := roundTo_78 hb
      show Calls _ _ #[obsV (roundTo o 7), .int .i64 7, .string (stL (bandF o.band))] w (ReadPost (roundTo o 8) w)
      rw [e1, ← e2]
      exact rread7_nil _ w
    · obtain ⟨b0, _, b2⟩ := Ow.band_u8 om
      have e1 : stL (bandF o.band) = stL [UInt8.ofNat o.band.toNat] := by unfold bandF; rw [if_neg hb]
      show Calls _ _ #[obsV (roundTo o 7), .int .i64 7, .string (stL (bandF o.band))] w (ReadPost (roundTo o 8) w)
      rw [e1]
      refine rread7_any (roundTo o 7) (stL [UInt8.ofNat o.band.toNat]) (by show 0 < 1; omega) rfl (u := o.band) ?_ w
      show (((UInt8.ofNat o.band.toNat).toNat : Nat) : Int) = _
      rw [UInt8.toNat_ofNat']
      omega
end Vw
end Go.Proofs.YtaghilgfldaaiaaGreatDoor
/-
  The walk of Round of the reference.
-/
namespace Go.Proofs.YtaghilgfldaaiaaGreatDoor
namespace Vw
open Go.RowKit Lw Go.Proofs.YtaghilgfldaaiaaGreatDoor.Ap Go.Proofs.YtaghilgfldaaiaaGreatDoor.Vp Go.Proofs.YtaghilgfldaaiaaGreatDoor.Op Go.Proofs.YtaghilgfldaaiaaGreatDoor.Ow Go.Proofs.YtaghilgfldaaiaaGreatDoor.Mp Go.Proofs.YtaghilgfldaaiaaGreatDoor.Mw Go.Proofs.YtaghilgfldaaiaaGreatDoor.At

/-- What stays while the columns are read. -/
structure ZS (w0 : World) (R f : Nat) (F : List ByteArray) (w : World) : Prop where
  rs : Rw w (w0.heap.size + 1) (obsC zeroO)
  cl : Rw w f (strC F)
  n1 : w0.heap.size + 1 ≠ R
  n2 : f ≠ R
  n3 : w0.heap.size ≤ R
  below : Below w0.heap.size w0 w
/-- .. and the observation that is read. -/
structure ZX (w0 : World) (R f : Nat) (F : List ByteArray) (q : Ob) (w : World) : Prop where
  sx : ZS w0 R f F w
  bx : Rw w R (obsC q)
theorem ZX.call {w0 w w' : World} {R f : Nat} {F : List ByteArray} {q : Ob} (h : ZX w0 R f F q w) (hb : Below w.heap.size w w') : ZX w0 R f F q w' :=
  ⟨⟨h.sx.rs.call hb, h.sx.cl.call hb, h.sx.n1, h.sx.n2, h.sx.n3, below_then h.sx.below hb⟩, h.bx.call hb⟩
theorem ZX.put {w0 w : World} {R f : Nat} {F : List ByteArray} {q : Ob} (h : ZX w0 R f F q w) (q' : Ob) : ZX w0 R f F q' (w.setCells R 0 (obsC q')) :=
  ⟨⟨h.sx.rs.sets_apart (obsC q') h.sx.n1 0, h.sx.cl.sets_apart (obsC q') h.sx.n2 0, h.sx.n1, h.sx.n2, h.sx.n3, below_setCells R h.sx.n3 (obsC q') 0 w h.sx.below⟩, h.bx.sets (obsC q') rfl⟩
theorem ZX.start {w0 w : World} {f : Nat} {F : List ByteArray} {q0 : Ob} (r : Rw w (w0.heap.size + 1) (obsC zeroO)) (c : Rw w f (strC F)) (b : Below w0.heap.size w0 w) (q : Ob) : ZX w0 w.heap.size f F q (w.alloc (.cells (obsC q).toArray 33)) := by
  have a := (Below.refl w.heap.size w).alloc (Nat.le_refl _) (.cells (obsC q).toArray 33)
  exact ⟨⟨r.call a, c.call a, Nat.ne_of_lt r.lt, Nat.ne_of_lt c.lt, b.size, below_then b a⟩, Rw.new w (obsC q) _⟩
theorem ZX.ends {w0 w : World} {R f : Nat} {F : List ByteArray} {q : Ob} (h : ZX w0 R f F q w) (q' : Ob) : Rw (w.setCells (w0.heap.size + 1) 0 (obsC q')) (w0.heap.size + 1) (obsC q') ∧ Below w0.heap.size w0 (w.setCells (w0.heap.size + 1) 0 (obsC q')) :=
  ⟨h.sx.rs.sets (obsC q') rfl, below_setCells (w0.heap.size + 1) (Nat.le_succ _) (obsC q') 0 w h.sx.below⟩
set_option maxRecDepth 100000 in
set_option maxHeartbeats 8000000 in
theorem rround27_any (o : Ob) (w : World) (hb : OB o) : Calls Tryz.prog 15 #[obsV o] w (VRoundPost o w) := by
  have X0 := Lib.hid (QX.new w o)
  have C := Lib.hid (fun w' => rcheck_any o w' hb.t0 hb.t1 hb.b0 hb.b1 hb.n1 hb.n2)
  by_cases ok : okO o
  · rw [show checkC o = 0 from if_pos ok] at C
    have FL := Lib.hid (fun w' => rfields_any o w' hb.t0 hb.t1 ok)
    have OK := Lib.hid ok
    clear ok hb
    go_enter Tryz.func15, Tryz.ntmps15
    have R0 := X0.out.bx.row
    go_wp2_with (refine wpList_load_mid rfl _ (.tmp 1) rfl w.heap.size 0 rfl (obsC o) _ R0 Tryz.underlying33 rfl info8 ?_)
    refine (C.out _).mono ?_
    rintro e w1 ⟨rfl, hb⟩
    have X1 := Lib.hid (X0.out.call hb)
    clear hb X0 C R0
    have R1 := X1.out.bx.row
    go_wp2_with (refine wpList_load_mid rfl _ (.tmp 1) rfl w.heap.size 0 rfl (obsC o) _ R1 Tryz.underlying33 rfl info8 ?_)
    refine (FL.out _).mono ?_
    rintro e w2 ⟨T, f, hT, rfl, hf, hc, hb⟩
    have X2 := Lib.hid (X1.out.call hb)
    have RC : Hid (∀ (k : Nat), k < 8 → ∀ s, (fieldL o T)[k]? = some s → ∀ w', Calls Tryz.prog 38 #[obsV (roundTo o k), .int .i64 (k : Int), .string s] w' (ReadPost (roundTo o (k + 1)) w')) := Lib.hid (fun k h s hs w' => by
      rw [List.getElem?_eq_getElem h] at hs
      rw [← Option.some.inj hs]
      exact rread_col o T OK.out hT k h w')
    have Z := Lib.hid (ZX.start (q0 := o) X2.out.rs hc X2.out.below (roundTo o 0))
    have LF : Hid ((fieldL o T).length = 8) := Lib.hid rfl
    clear hb X1 R1 FL hT hf hc X2
    generalize fieldL o T = FF at *
    have hz : w2.heap.size = w2.heap.size := rfl
    obtain ⟨R, hR⟩ : ∃ R, w2.heap.size = R := ⟨_, rfl⟩
    rw [hR] at Z
    obtain ⟨w3, hw3⟩ : ∃ v, w2.alloc (.cells (obsC (roundTo o 0)).toArray 33) = v := ⟨_, rfl⟩
    rw [hw3] at Z
    have HW3 := Lib.hid hw3
    have HR := Lib.hid hR
    clear hw3 hR hz
    go_upto_region 5 with (refine wpList_store_new rfl _ (.tmp 5) (.tmp 13) rfl _ _ rfl rfl info8 rfl ?_ ?_; simp [Value.oneCell'])
    rw [show w2.alloc (.cells #[.string ⟨#[]⟩, .string ⟨#[]⟩, .int .i64 0, .int .i64 0, .int .i64 0, .int .i64 1000000, .int .i64 9999, .int .u8 32] 33) = w3 from HW3.out, HR.out]
    clear HW3 HR
    go_wp2_with fail
    go_loopw [6] (fun i wr => ∃ k : Nat, k ≤ 8 ∧ i = .int .i64 k ∧ Hid (ZX w R f FF (roundTo o k) wr)) (fun i _ => 8 - (intOf i).toNat)
    case atStart => exact ⟨0, Nat.zero_le _, rfl, Z⟩
    case round =>
      obtain ⟨k, hk, rfl, X3⟩ := hrel
      clear Z
      by_cases hlt : k < 8
      · have hkl : k < FF.length := by rw [LF.out]; exact hlt
        have FK : Hid ((strC FF)[k]? = some (.string (FF[k]'hkl))) := Lib.hid (by unfold strC; rw [List.getElem?_map, List.getElem?_eq_getElem hkl]; rfl)
        have RK := Lib.hid (RC.out k hlt _ (List.getElem?_eq_getElem hkl))
        generalize FF[k]'hkl = s at *
        have i1 : (k : Int) < (8 : Int) := by omega
        have i0 : (0 : Int) ≤ (k : Int) := by omega
        clear RC
        go_upto_region 8 with fail
        have X4 := Lib.hid (X3.out.call (Below.refl _ _).drew)
        clear X3
        refine wp_region_held_drew (S := fun wx => ZS w R f FF wx) (by kernel_rfl) X4.out.sx (fun hHeld => ?_)
        refine wpAnyH_take (i := 1) (oi := ?oi1x1) (v := ?v1x1) ?hi1x1 (by kernel_rfl) (by kernel_rfl) (by kernel_rfl) ?hq1x1 ?hy1x1 hHeld ?rest1x1
        case hi1x1 => ((try simp only [List.getElem?_toArray, List.getElem?_cons_succ, List.getElem?_cons_zero]); (try rfl))
        case hq1x1 => exact fun _ _ _ h => h
        case hy1x1 => exact Or.inl ⟨by rfl, by intro w hSw; clear hSw; go_simp; try with_reducible rfl⟩
        try simp only [Act.put, List.setIfInBounds_toArray, List.set_cons_zero, List.set_cons_succ]
        refine wpAnyH_take (i := 2) (oi := ?oi2x2) (v := ?v2x2) ?hi2x2 (by kernel_rfl) (by kernel_rfl) (by kernel_rfl) ?hq2x2 ?hy2x2 hHeld ?rest2x2
        case hi2x2 => ((try simp only [List.getElem?_toArray, List.getElem?_cons_succ, List.getElem?_cons_zero]); (try rfl))
        case hq2x2 => exact fun _ _ _ h => h
        case hy2x2 => exact Or.inl ⟨by rfl, by intro w hSw; clear hSw; go_simp; try with_reducible rfl⟩
        try simp only [Act.put, List.setIfInBounds_toArray, List.set_cons_zero, List.set_cons_succ]
        refine wpAnyH_take (i := 3) (oi := ?oi3x3) (v := ?v3x3) ?hi3x3 (by kernel_rfl) (by kernel_rfl) (by kernel_rfl) ?hq3x3 ?hy3x3 hHeld ?rest3x3
        case hi3x3 => ((try simp only [List.getElem?_toArray, List.getElem?_cons_succ, List.getElem?_cons_zero]); (try rfl))
        case hq3x3 => exact fun _ _ _ h => h
        case hy3x3 => exact Or.inl ⟨by rfl, by intro w hSw; clear hSw; go_simp; try with_reducible rfl⟩
        try simp only [Act.put, List.setIfInBounds_toArray, List.set_cons_zero, List.set_cons_succ]
        refine wpAnyH_take (i := 4) (oi := ?oi4x4) (v := ?v4x4) ?hi4x4 (by kernel_rfl) (by kernel_rfl) (by kernel_rfl) ?hq4x4 ?hy4x4 hHeld ?rest4x4
        case hi4x4 => ((try simp only [List.getElem?_toArray, List.getElem?_cons_succ, List.getElem?_cons_zero]); (try rfl))
        case hq4x4 => exact fun _ _ _ h => h
        case hy4x4 => exact Or.inl ⟨by rfl, by intro w hSw; clear hSw; go_simp; try with_reducible rfl⟩
        try simp only [Act.put, List.setIfInBounds_toArray, List.set_cons_zero, List.set_cons_succ]
        refine wpAnyH_take (i := 5) (oi := ?oi5x5) (v := ?v5x5) ?hi5x5 (by kernel_rfl) (by kernel_rfl) (by kernel_rfl) ?hq5x5 ?hy5x5 hHeld ?rest5x5
        case hi5x5 => ((try simp only [List.getElem?_toArray, List.getElem?_cons_succ, List.getElem?_cons_zero]); (try rfl))
        case hq5x5 => exact fun _ _ _ h => h
        case hy5x5 => exact Or.inl ⟨by rfl, by intro w hSw; obtain hc := hSw.cl.cell (j := k) FK.out; clear hSw; go_simp; try with_reducible rfl⟩
        try simp only [Act.put, List.setIfInBounds_toArray, List.set_cons_zero, List.set_cons_succ]
        refine wpAnyH_ready (rs := [0]) (by kernel_rfl) (by simp) ?_
        refine AllReadyH.cons rfl (fun K' hK => ?_) AllReadyH.nil
        rw [if_pos (by rfl)]
        refine wp_load_mid 33 (.tmp 5) rfl R 0 rfl (obsC (roundTo o k)) _ X4.out.bx.row Tryz.underlying33 rfl info8 ?_
        refine hK.out _ _ X4.out.sx (fun hHeld => ?_)
        clear hK
        try simp only [Act.put, List.setIfInBounds_toArray, List.set_cons_zero, List.set_cons_succ]
        refine wpAnyH_ready (rs := [6]) (by kernel_rfl) (by simp) ?_
        refine AllReadyH.cons rfl (fun K' hK => ?_) AllReadyH.nil
        clear hHeld
        go_simp
        refine (RK.out _).mono ?_
        rintro e wx ⟨rfl, hb⟩
        have X5 := Lib.hid (X4.out.call hb)
        clear hb X4 RK
        refine hK.out _ _ X5.out.sx (fun hHeld => ?_)
        clear hK
        try simp only [Act.put, List.setIfInBounds_toArray, List.set_cons_zero, List.set_cons_succ]
        refine wpAnyH_take (i := 7) (oi := ?oi7x6) (v := ?v7x6) ?hi7x6 (by kernel_rfl) (by kernel_rfl) (by kernel_rfl) ?hq7x6 ?hy7x6 hHeld ?rest7x6
        case hi7x6 => ((try simp only [List.getElem?_toArray, List.getElem?_cons_succ, List.getElem?_cons_zero]); (try rfl))
        case hq7x6 => exact fun _ _ _ h => h
        case hy7x6 => exact Or.inl ⟨by rfl, by intro w hSw; clear hSw; go_simp; try with_reducible rfl⟩
        try simp only [Act.put, List.setIfInBounds_toArray, List.set_cons_zero, List.set_cons_succ]
        refine wpAnyH_take (i := 8) (oi := ?oi8x7) (v := ?v8x7) ?hi8x7 (by kernel_rfl) (by kernel_rfl) (by kernel_rfl) ?hq8x7 ?hy8x7 hHeld ?rest8x7
        case hi8x7 => ((try simp only [List.getElem?_toArray, List.getElem?_cons_succ, List.getElem?_cons_zero]); (try rfl))
        case hq8x7 => exact fun _ _ _ h => h
        case hy8x7 => exact Or.inl ⟨by rfl, by intro w hSw; clear hSw; go_simp; try with_reducible rfl⟩
        try simp only [Act.put, List.setIfInBounds_toArray, List.set_cons_zero, List.set_cons_succ]
        refine wpAnyH_take (i := 9) (oi := ?oi9x8) (v := ?v9x8) ?hi9x8 (by kernel_rfl) (by kernel_rfl) (by kernel_rfl) ?hq9x8 ?hy9x8 hHeld ?rest9x8
        case hi9x8 => ((try simp only [List.getElem?_toArray, List.getElem?_cons_succ, List.getElem?_cons_zero]); (try rfl))
        case hq9x8 => exact fun _ _ _ h => h
        case hy9x8 => exact Or.inl ⟨by rfl, by intro w hSw; clear hSw; go_simp; try with_reducible rfl⟩
        try simp only [Act.put, List.setIfInBounds_toArray, List.set_cons_zero, List.set_cons_succ]
        refine wpAnyH_ready (rs := [10]) (by kernel_rfl) (by simp) ?_
        refine AllReadyH.cons rfl (fun K' hK => ?_) AllReadyH.nil
        have TH := X5.out.bx.th
        have X6 := Lib.hid (X5.out.put (roundTo o (k + 1)))
        clear hHeld
        rw [if_pos (by rfl)]
        refine wp_store_mid 33 _ _ rfl R 0 (obsC (roundTo o (k + 1))).toArray rfl rfl TH info8 (by simp [Value.oneCell']) ?_
        rw [List.toList_toArray]
        obtain ⟨w7, hw7⟩ : ∃ v, wx.setCells R 0 (obsC (roundTo o (k + 1))) = v := ⟨_, rfl⟩
        rw [hw7] at X6 ⊢
        refine hK.out _ _ X6.out.sx (fun hHeld => ?_)
        clear hK TH X5 hw7
        try simp only [Act.put, List.setIfInBounds_toArray, List.set_cons_zero, List.set_cons_succ]
        refine wpAnyH_done (by kernel_rfl) ?_ _
        clear hHeld
        go_wp2_with fail
        go_roundw
        case rel => exact ⟨k + 1, by omega, by go_num, X6⟩
        case measure => simp [intOf]; omega
      · obtain rfl : k = 8 := by omega
        have R3 := X3.out.bx.row
        have TH := X3.out.sx.rs.th
        obtain ⟨E1, E2⟩ := X3.out.ends (roundTo o 8)
        obtain ⟨w9, hw9⟩ : ∃ v, wr.setCells (w.heap.size + 1) 0 (obsC (roundTo o 8)) = v := ⟨_, rfl⟩
        rw [hw9] at E1 E2
        have HW9 := Lib.hid hw9
        have HE1 := Lib.hid E1
        have HE2 := Lib.hid E2
        have R8 : Hid (roundTo o 8 = roundP o) := Lib.hid rfl
        generalize roundTo o 8 = q at *
        clear hw9 E1 E2 RC X3
        go_wp2_with (first | (refine wpList_load_mid rfl _ (.tmp 5) rfl R 0 rfl (obsC q) _ R3 Tryz.underlying33 rfl info8 ?_) | (refine wpList_store_mid rfl _ (.tmp 2) (.tmp 28) rfl (w.heap.size + 1) 0 (obsC q).toArray rfl rfl TH info8 (by simp [Value.oneCell']) ?_; rw [List.toList_toArray, HW9.out]))
        exact bodyPost_ret (ret_cell_tmp Tryz.results15 _ _ (w.heap.size + 1) (obsC q) _ rfl HE1.out.row Tryz.underlying33 rfl info8) rfl ⟨q, 0, rfl, Or.inl ⟨OK.out, R8.out, rfl⟩, HE2.out⟩
  · rw [show checkC o = 8 from if_neg ok] at C
    have NO := Lib.hid ok
    clear ok hb
    go_enter Tryz.func15, Tryz.ntmps15
    have R0 := X0.out.bx.row
    go_wp2_with (refine wpList_load_mid rfl _ (.tmp 1) rfl w.heap.size 0 rfl (obsC o) _ R0 Tryz.underlying33 rfl info8 ?_)
    refine (C.out _).mono ?_
    rintro e w1 ⟨rfl, hb⟩
    have X1 := Lib.hid (X0.out.call hb)
    clear hb X0 C R0
    have TH := X1.out.rs.th
    have X2 := Lib.hid (X1.out.res zeroO)
    obtain ⟨w3, hw3⟩ : ∃ w3, w1.setCells (w.heap.size + 1) 0 (obsC zeroO) = w3 := ⟨_, rfl⟩
    rw [hw3] at X2
    have HW3 := Lib.hid hw3
    clear hw3
    go_wp2_with (refine wpList_store_mid rfl _ (.tmp 2) (.tmp 10) rfl (w.heap.size + 1) 0 (obsC zeroO).toArray rfl rfl TH info8 (by simp [Value.oneCell']) ?_; rw [List.toList_toArray, HW3.out])
    exact bodyPost_ret (ret_cell_tmp Tryz.results15 _ _ (w.heap.size + 1) (obsC zeroO) _ rfl X2.out.rs.row Tryz.underlying33 rfl info8) rfl ⟨zeroO, 8, rfl, Or.inr ⟨NO.out, rfl, rfl⟩, X2.out.below⟩
end Vw
end Go.Proofs.YtaghilgfldaaiaaGreatDoor
/-
  The walk of Same of the reference at equal lists; Great at any slice; a copy of a slice.
-/
namespace Go.Proofs.YtaghilgfldaaiaaGreatDoor
namespace Ow
open Go.RowKit Lw Go.Proofs.YtaghilgfldaaiaaGreatDoor.Ap Go.Proofs.YtaghilgfldaaiaaGreatDoor.Op Go.Proofs.YtaghilgfldaaiaaGreatDoor.Mp Go.Proofs.YtaghilgfldaaiaaGreatDoor.Mw Go.Proofs.YtaghilgfldaaiaaGreatDoor.At

/-- Two rows that hold one list. -/
structure S2 (w0 : World) (a oa b ob : Nat) (l : List Ob) (w : World) : Prop where
  r1 : ObsAt w a oa l
  r2 : ObsAt w b ob l
  at_ : ∃ m, w = w0.drewN m
set_option maxRecDepth 100000 in
set_option maxHeartbeats 40000000 in
theorem same_any (x y : Option Addr) (c d : Nat) (l : List Ob) (w : World) (hx : SlA w x l) (hy : SlA w y l) (hm : l.length ≤ 1000000) :
    Calls Tryz.prog 12 #[.slice x l.length c, .slice y l.length d] w fun e w' => e = .returned (.bool true) ∧ Below w.heap.size w w' := by
  have HX := Lib.hid (fun w' (h : Below w.heap.size w w') => hx.below h)
  have HY := Lib.hid (fun w' (h : Below w.heap.size w w') => hy.below h)
  obtain ⟨n, hnl⟩ : ∃ n, l.length = n := ⟨_, rfl⟩
  rw [hnl] at hm ⊢
  have NL := Lib.hid hnl
  clear hx hy hnl
  go_enter Tryz.func12, Tryz.ntmps12
  go_wp2_with fail
  go_loopw [5] (fun i wr => ∃ k : Nat, k ≤ n ∧ i = .int .i64 k ∧ Hid (Below w.heap.size w wr)) (fun i _ => n - (intOf i).toNat)
  case atStart => exact ⟨0, Nat.zero_le _, rfl, Lib.hid (Below.refl _ _)⟩
  case round =>
    obtain ⟨k, hk, rfl, B⟩ := hrel
    by_cases hlt : k < n
    · have hkl : k < l.length := by rw [NL.out]; exact hlt
      obtain ⟨b1, o1, rfl, lt1, row1⟩ := (HX.out _ B.out).get hkl
      obtain ⟨b2, o2, rfl, lt2, row2⟩ := (HY.out _ B.out).get hkl
      have R1 := Lib.hid row1
      have R2 := Lib.hid row2
      have i1 : (k : Int) < (n : Int) := by omega
      have i0 : (0 : Int) ≤ (k : Int) := by omega
      have BD := Lib.hid (B.out.trans ((Below.refl _ _).drew.mono B.out.size))
      obtain ⟨o, ho⟩ : ∃ o, l[k] = o := ⟨_, rfl⟩
      have Q1 := Lib.hid (show wr.drew.rangeAt b1 (o1 + k * 8) (obsC o) by rw [← ho]; exact rangeAt_below (row1 k hkl) (Below.refl _ _).drew lt1)
      have Q2 := Lib.hid (show wr.drew.rangeAt b2 (o2 + k * 8) (obsC o) by rw [← ho]; exact rangeAt_below (row2 k hkl) (Below.refl _ _).drew lt2)
      clear row1 row2 R1 R2 lt1 lt2 ho
      go_wp2_with fail
      refine wp_region_held_drew (S := fun w' => w' = wr.drew) (by kernel_rfl) rfl (fun hHeld => ?_)
      refine wpAnyH_take (i := 0) (oi := ?oi0x1) (v := ?v0x1) ?hi0x1 (by kernel_rfl) (by kernel_rfl) (by kernel_rfl) ?hq0x1 ?hy0x1 hHeld ?rest0x1
      case hi0x1 => ((try simp only [List.getElem?_toArray, List.getElem?_cons_succ, List.getElem?_cons_zero]); (try rfl))
      case hq0x1 => exact fun _ _ _ h => h
      case hy0x1 => exact Or.inl ⟨by rfl, by intro w hSw; clear hSw; go_simp; try with_reducible rfl⟩
      try simp only [Act.put, List.setIfInBounds_toArray, List.set_cons_zero, List.set_cons_succ]
      refine wpAnyH_take (i := 1) (oi := ?oi1x2) (v := ?v1x2) ?hi1x2 (by kernel_rfl) (by kernel_rfl) (by kernel_rfl) ?hq1x2 ?hy1x2 hHeld ?rest1x2
      case hi1x2 => ((try simp only [List.getElem?_toArray, List.getElem?_cons_succ, List.getElem?_cons_zero]); (try rfl))
      case hq1x2 => exact fun _ _ _ h => h
      case hy1x2 => exact Or.inl ⟨by rfl, by intro w hSw; clear hSw; go_simp; try with_reducible rfl⟩
      try simp only [Act.put, List.setIfInBounds_toArray, List.set_cons_zero, List.set_cons_succ]
      refine wpAnyH_take (i := 2) (oi := ?oi2x3) (v := ?v2x3) ?hi2x3 (by kernel_rfl) (by kernel_rfl) (by kernel_rfl) ?hq2x3 ?hy2x3 hHeld ?rest2x3
      case hi2x3 => ((try simp only [List.getElem?_toArray, List.getElem?_cons_succ, List.getElem?_cons_zero]); (try rfl))
      case hq2x3 => exact fun _ _ _ h => h
      case hy2x3 => exact Or.inl ⟨by rfl, by intro w hSw; clear hSw; go_simp; try with_reducible rfl⟩
      try simp only [Act.put, List.setIfInBounds_toArray, List.set_cons_zero, List.set_cons_succ]
      refine wpAnyH_take (i := 3) (oi := ?oi3x4) (v := ?v3x4) ?hi3x4 (by kernel_rfl) (by kernel_rfl) (by kernel_rfl) ?hq3x4 ?hy3x4 hHeld ?rest3x4
      case hi3x4 => ((try simp only [List.getElem?_toArray, List.getElem?_cons_succ, List.getElem?_cons_zero]); (try rfl))
      case hq3x4 => exact fun _ _ _ h => h
      case hy3x4 => 
        refine' yieldsIf_load_mid ?_ 33 (.tmp 19) ?_ b1 (o1 + k * 8) ?_ (obsC o) _ ?_ Tryz.underlying33 ?_ info8
        · rfl
        · rfl
        · rfl
        · exact fun _ h => by rw [h]; exact Q1.out
        · rfl
      try simp only [Act.put, List.setIfInBounds_toArray, List.set_cons_zero, List.set_cons_succ]
      refine wpAnyH_take (i := 4) (oi := ?oi4x5) (v := ?v4x5) ?hi4x5 (by kernel_rfl) (by kernel_rfl) (by kernel_rfl) ?hq4x5 ?hy4x5 hHeld ?rest4x5
      case hi4x5 => ((try simp only [List.getElem?_toArray, List.getElem?_cons_succ, List.getElem?_cons_zero]); (try rfl))
      case hq4x5 => exact fun _ _ _ h => h
      case hy4x5 => exact Or.inl ⟨by rfl, by intro w hSw; clear hSw; go_simp; try with_reducible rfl⟩
      try simp only [Act.put, List.setIfInBounds_toArray, List.set_cons_zero, List.set_cons_succ]
      refine wpAnyH_take (i := 5) (oi := ?oi5x6) (v := ?v5x6) ?hi5x6 (by kernel_rfl) (by kernel_rfl) (by kernel_rfl) ?hq5x6 ?hy5x6 hHeld ?rest5x6
      case hi5x6 => ((try simp only [List.getElem?_toArray, List.getElem?_cons_succ, List.getElem?_cons_zero]); (try rfl))
      case hq5x6 => exact fun _ _ _ h => h
      case hy5x6 => exact Or.inl ⟨by rfl, by intro w hSw; clear hSw; go_simp; try with_reducible rfl⟩
      try simp only [Act.put, List.setIfInBounds_toArray, List.set_cons_zero, List.set_cons_succ]
      refine wpAnyH_take (i := 6) (oi := ?oi6x7) (v := ?v6x7) ?hi6x7 (by kernel_rfl) (by kernel_rfl) (by kernel_rfl) ?hq6x7 ?hy6x7 hHeld ?rest6x7
      case hi6x7 => ((try simp only [List.getElem?_toArray, List.getElem?_cons_succ, List.getElem?_cons_zero]); (try rfl))
      case hq6x7 => exact fun _ _ _ h => h
      case hy6x7 => exact Or.inl ⟨by rfl, by intro w hSw; clear hSw; go_simp; try with_reducible rfl⟩
      try simp only [Act.put, List.setIfInBounds_toArray, List.set_cons_zero, List.set_cons_succ]
      refine wpAnyH_take (i := 7) (oi := ?oi7x8) (v := ?v7x8) ?hi7x8 (by kernel_rfl) (by kernel_rfl) (by kernel_rfl) ?hq7x8 ?hy7x8 hHeld ?rest7x8
      case hi7x8 => ((try simp only [List.getElem?_toArray, List.getElem?_cons_succ, List.getElem?_cons_zero]); (try rfl))
      case hq7x8 => exact fun _ _ _ h => h
      case hy7x8 => 
        refine' yieldsIf_load_mid ?_ 33 (.tmp 23) ?_ b2 (o2 + k * 8) ?_ (obsC o) _ ?_ Tryz.underlying33 ?_ info8
        · rfl
        · rfl
        · rfl
        · exact fun _ h => by rw [h]; exact Q2.out
        · rfl
      try simp only [Act.put, List.setIfInBounds_toArray, List.set_cons_zero, List.set_cons_succ]
      refine wpAnyH_take (i := 8) (oi := ?oi8x9) (v := ?v8x9) ?hi8x9 (by kernel_rfl) (by kernel_rfl) (by kernel_rfl) ?hq8x9 ?hy8x9 hHeld ?rest8x9
      case hi8x9 => ((try simp only [List.getElem?_toArray, List.getElem?_cons_succ, List.getElem?_cons_zero]); (try rfl))
      case hq8x9 => exact fun _ _ _ h => h
      case hy8x9 => exact Or.inl ⟨by rfl, by intro w hSw; clear hSw; go_simp; try with_reducible rfl⟩
      try simp only [Act.put, List.setIfInBounds_toArray, List.set_cons_zero, List.set_cons_succ]
      refine wpAnyH_done (by kernel_rfl) ?_ _
      clear hHeld Q1 Q2
      go_wp2_with fail
      go_roundw
      case rel => exact ⟨k + 1, by omega, by go_num, BD⟩
      case measure => simp [intOf]; omega
    · obtain rfl : k = n := by omega
      clear HX HY
      go_wp2_with fail
      go_ret
      exact ⟨rfl, B.out⟩
set_option maxRecDepth 100000 in
set_option maxHeartbeats 4000000 in
theorem great_wide (b off cap : Nat) (l : List Ob) (most : Int) (w : World) (hl : ObsAt w b off l) (hm : l.length ≤ 9223372036854775807) (hn : ∀ o ∈ l, o.name.size ≤ maxLen ∧ o.site.size ≤ maxLen) :
    Calls Tryz.prog 9 #[.slice (some ⟨b, off, none⟩) l.length cap, .int .i64 most] w fun e w' => e = .returned (.bool (greatB l most)) ∧ w = w' := by
  have HL := Lib.hid hl
  have HN := Lib.hid hn
  have GY := Lib.hid (fun i (h : i < l.length) (g : longP l[i]) => great_yes (most := most) h g)
  obtain ⟨n, hnl⟩ : ∃ n, l.length = n := ⟨_, rfl⟩
  have GN : Hid ((∀ i (hi : i < l.length), ¬ longP (l[i]'hi)) → greatB l most = decide ((most < (n : Int) ∧ (n : Int) ≤ 500) ∨ 510 < (n : Int))) := Lib.hid fun h => by rw [great_no h, hnl]
  clear hl hn
  generalize greatB l most = gb at *
  rw [hnl] at hm ⊢
  have NL := Lib.hid hnl
  clear hnl
  go_enter Tryz.func9, Tryz.ntmps9
  go_wp2_with fail
  go_loop [5] (fun i => ∃ k : Nat, k ≤ n ∧ i = .int .i64 k ∧ Hid (∀ j (h : j < l.length), j < k → ¬ longP (l[j]'h))) (fun i => n - (intOf i).toNat)
  case atStart => exact ⟨0, Nat.zero_le _, rfl, Lib.hid (fun j _ h => by omega)⟩
  case round =>
    obtain ⟨k, hk, rfl, D⟩ := hrel
    by_cases hlt : k < n
    · have hkl : k < l.length := by rw [NL.out]; exact hlt
      have r := HL.out k hkl
      have q0 := r 0 _ rfl
      have q1 := r 1 _ rfl
      rw [Nat.add_zero] at q0
      have i1 : (k : Int) < (n : Int) := by omega
      have GYk := Lib.hid (GY.out k hkl)
      have DK := Lib.hid (fun (g : ¬ longP (l[k]'hkl)) => (show ∀ j (h : j < l.length), j < k + 1 → ¬ longP (l[j]'h) from fun j h hj => by
        by_cases e : j = k
        · subst e; exact g
        · exact D.out j h (by omega)))
      have zz := HN.out _ (List.getElem_mem hkl)
      unfold longP maxLen at *
      clear r D
      generalize (l[k]'hkl).name = nm at *
      generalize (l[k]'hkl).site = st at *
      obtain ⟨z1, z2⟩ := zz
      by_cases g1 : 100 < nm.size
      · have e := Lib.hid (GYk.out (Or.inl g1))
        have g1' : (100 : Int) < nm.size := by omega
        clear GYk DK
        go_wp2_with fail
        go_ret
        exact ⟨by rw [e.out]; rfl, rfl⟩
      · have g1' : ¬ (100 : Int) < nm.size := by omega
        by_cases g2 : 100 < st.size
        · have e := Lib.hid (GYk.out (Or.inr g2))
          have g2' : (100 : Int) < st.size := by omega
          clear GYk DK
          go_wp2_with fail
          go_ret
          exact ⟨by rw [e.out]; rfl, rfl⟩
        · have g2' : ¬ (100 : Int) < st.size := by omega
          have D2 := Lib.hid (DK.out (fun h => h.elim g1 g2))
          clear GYk DK
          go_wp2_with fail
          go_round
          case rel => exact ⟨k + 1, by omega, by go_num, D2⟩
          case measure => simp [intOf]; omega
    · obtain rfl : k = n := by omega
      have E := Lib.hid (GN.out (fun i hi => D.out i hi (by have := NL.out; omega)))
      clear GN D GY HN
      by_cases c1 : most < (k : Int)
      · by_cases c2 : (k : Int) ≤ 500
        · rw [decide_eq_true (Or.inl ⟨c1, c2⟩)] at E
          go_wp2_with fail
          go_ret
          exact ⟨by rw [E.out]; rfl, rfl⟩
        · by_cases c3 : 510 < (k : Int)
          · rw [decide_eq_true (Or.inr c3)] at E
            go_wp2_with fail
            go_ret
            exact ⟨by rw [E.out]; rfl, rfl⟩
          · rw [decide_eq_false (fun h => h.elim (fun x => c2 x.2) c3)] at E
            go_wp2_with fail
            go_ret
            exact ⟨by rw [E.out]; rfl, rfl⟩
      · by_cases c3 : 510 < (k : Int)
        · rw [decide_eq_true (Or.inr c3)] at E
          go_wp2_with fail
          go_ret
          exact ⟨by rw [E.out]; rfl, rfl⟩
        · rw [decide_eq_false (fun h => h.elim (fun x => c1 x.1) c3)] at E
          go_wp2_with fail
          go_ret
          exact ⟨by rw [E.out]; rfl, rfl⟩
set_option maxRecDepth 100000 in
set_option maxHeartbeats 40000000 in
theorem great_nil (x : Option Addr) (cap : Nat) (w : World) : Calls Tryz.prog 9 #[.slice x 0 cap, .int .i64 12] w fun e w' => e = .returned (.bool false) ∧ w = w' := by
  go_enter Tryz.func9, Tryz.ntmps9
  go_wp2_with fail
  go_loop [5] (fun i => i = .int .i64 0) (fun i => 0 - (intOf i).toNat)
  case atStart => exact rfl
  case round =>
    obtain rfl := hrel
    go_wp2_with fail
    go_ret
    exact ⟨rfl, rfl⟩
theorem great_sl (x : Option Addr) (cap : Nat) (l : List Ob) (w : World) (hx : SlA w x l) (hm : l.length ≤ 9223372036854775807) (hb : OBs l) :
    Calls Tryz.prog 9 #[.slice x l.length cap, .int .i64 12] w fun e w' => e = .returned (.bool (greatB l 12)) ∧ w = w' := by
  rcases hx with rfl | ⟨b, off, rfl, _, h⟩
  · refine (great_nil x cap w).mono ?_
    rintro e w' ⟨rfl, rfl⟩
    exact ⟨rfl, rfl⟩
  · exact great_wide b off cap l 12 w h hm (fun o ho => by
      obtain ⟨i, hi, rfl⟩ := List.getElem_of_mem ho
      exact ⟨(hb i hi).n1, (hb i hi).n2⟩)
theorem great_len {l : List Ob} (h : greatB l 12 = false) : l.length ≤ 510 := by
  have := of_decide_eq_false h
  rcases Nat.lt_or_ge 510 l.length with g | g
  · exact absurd (Or.inr (Or.inr (by omega))) this
  · exact g
theorem news_l {w : World} {a : Addr} {l : List Ob} (h : SlA w (some a) l) : ∀ j u, (flatO l)[j]? = some u → w.cell? (a.add j) = some u := fun j u hj => by
  rcases h with rfl | ⟨b, off, e, _, h⟩
  · simp [flatO] at hj
  · obtain rfl := Option.some.inj e
    have lj : j < l.length * 8 := by
      have := (List.getElem?_eq_some_iff.1 hj).1
      rwa [flatO_len] at this
    have hi : j / 8 < l.length := by omega
    have hr : j % 8 < (obsC l[j / 8]).length := Nat.mod_lt _ (by omega)
    have e1 := flatO_get hi (List.getElem?_eq_getElem hr)
    rw [show j / 8 * 8 + j % 8 = j by omega] at e1
    have := h (j / 8) hi (j % 8) _ (List.getElem?_eq_getElem hr)
    rw [Addr.add_mid]
    rw [show off + j / 8 * 8 + j % 8 = off + j by omega] at this
    rw [this, ← e1, hj]
/-- append of a slice to an empty one, as the walk meets it. -/
theorem wp_copy {ops : Array Oper} {rest : List Oper} {o : Oper} {a : Act} {Q : Exit → Act → World → Prop} (w : World) (hgd : o.guard = none) (s x : Operand)
    (ho : o.op = .call { callee := .builtin .append, args := #[s, x], argTypes := #[22, 22] })
    (l : List Ob) (ad : Addr) (cap : Nat) (hs : a.eval s = .slice (some ⟨w.heap.size, 0, none⟩) 0 0) (hx : a.eval x = .slice (some ad) l.length cap) (hsl : SlA w (some ad) l) (hl : l.length ≤ 1000000)
    (h : ∀ v' w', OwnO w' w.heap.size v' l → Below w.heap.size w w' → wpList Tryz.prog ops Q rest (a.put o.dst v') w') : wpList Tryz.prog ops Q (o :: rest) a (w.alloc (.cells #[] 33)) := by
  obtain ⟨i0, hi, hz0, hz1, hz2⟩ := info_parts infoO
  have b1 : Below w.heap.size w (w.alloc (.cells #[] 33)) := (Below.refl _ _).alloc (Nat.le_refl _) _
  have ho' := World.ownsRow_made (e := 33) (size := 8) w #[] 0 (Nat.le_refl _) (Nat.zero_le _) rfl
  refine wpList_append_own _ hgd s x 22 ho w.heap.size 33 i0 _ 8 80 Tryz.underlying22 hi hz0 hz1 hz2 rfl (by decide) _ 0 [] hs ho' ad l.length cap (flatO l) hx (flatO_len l) (news_l (hsl.below b1)) (fun u hu => ?_) (by unfold maxLen; omega) (by omega) b1.size ?_
  · obtain ⟨q, _, hq⟩ := List.mem_flatMap.1 hu
    exact obsC_one q u hq
  · intro v' w' h1 h2 _
    rw [Nat.zero_add, List.nil_append] at h1
    have hb : Below w.heap.size w w' := b1.trans ((Below.refl _ _).grown h2 b1.size (fun k hk => (ho'.lt k hk).1))
    exact h v' w' ⟨h1, hb.size⟩ hb
theorem wp_copy0 {ops : Array Oper} {rest : List Oper} {o : Oper} {a : Act} {Q : Exit → Act → World → Prop} (w : World) (hgd : o.guard = none) (s x : Operand)
    (ho : o.op = .call { callee := .builtin .append, args := #[s, x], argTypes := #[22, 22] })
    (hs : a.eval s = .slice (some ⟨w.heap.size, 0, none⟩) 0 0) (hx : a.eval x = .slice none 0 0)
    (h : ∀ v' w', OwnO w' w.heap.size v' [] → Below w.heap.size w w' → wpList Tryz.prog ops Q rest (a.put o.dst v') w') : wpList Tryz.prog ops Q (o :: rest) a (w.alloc (.cells #[] 33)) := by
  obtain ⟨i0, hi, hz0, hz1, hz2⟩ := info_parts infoO
  have b1 : Below w.heap.size w (w.alloc (.cells #[] 33)) := (Below.refl _ _).alloc (Nat.le_refl _) _
  have ho' := World.ownsRow_made (e := 33) (size := 8) w #[] 0 (Nat.le_refl _) (Nat.zero_le _) rfl
  exact wpList_append_own_none hgd s x 22 ho w.heap.size 33 i0 8 Tryz.underlying22 hi _ 0 [] hs ho' hx (h _ _ ⟨ho', b1.size⟩ b1)
end Ow
end Go.Proofs.YtaghilgfldaaiaaGreatDoor
/-
  The walk of SameInts of the reference at equal lists.
-/
namespace Go.Proofs.YtaghilgfldaaiaaGreatDoor
namespace Vw
open Go.RowKit Lw Go.Proofs.YtaghilgfldaaiaaGreatDoor.Ap Go.Proofs.YtaghilgfldaaiaaGreatDoor.Vp Go.Proofs.YtaghilgfldaaiaaGreatDoor.Op Go.Proofs.YtaghilgfldaaiaaGreatDoor.Ow Go.Proofs.YtaghilgfldaaiaaGreatDoor.Mp Go.Proofs.YtaghilgfldaaiaaGreatDoor.Mw Go.Proofs.YtaghilgfldaaiaaGreatDoor.At

set_option maxRecDepth 100000 in
set_option maxHeartbeats 8000000 in
theorem samei_any (x y : Option Addr) (c d : Nat) (l : List Nat) (w : World) (hx : InA w x l) (hy : InA w y l) (hm : l.length ≤ 1000000) :
    Calls Tryz.prog 13 #[.slice x l.length c, .slice y l.length d] w fun e w' => e = .returned (.bool true) ∧ Below w.heap.size w w' := by
  have HX := Lib.hid (fun w' (h : Below w.heap.size w w') => hx.below h)
  have HY := Lib.hid (fun w' (h : Below w.heap.size w w') => hy.below h)
  obtain ⟨n, hnl⟩ : ∃ n, l.length = n := ⟨_, rfl⟩
  rw [hnl] at hm ⊢
  have NL := Lib.hid hnl
  clear hx hy hnl
  go_enter Tryz.func13, Tryz.ntmps13
  go_wp2_with fail
  go_loopw [5] (fun i wr => ∃ k : Nat, k ≤ n ∧ i = .int .i64 k ∧ Hid (Below w.heap.size w wr)) (fun i _ => n - (intOf i).toNat)
  case atStart => exact ⟨0, Nat.zero_le _, rfl, Lib.hid (Below.refl _ _)⟩
  case round =>
    obtain ⟨k, hk, rfl, B⟩ := hrel
    by_cases hlt : k < n
    · have hkl : k < l.length := by rw [NL.out]; exact hlt
      obtain ⟨b1, o1, rfl, lt1, r1⟩ := (HX.out _ B.out).get hkl
      obtain ⟨b2, o2, rfl, lt2, r2⟩ := (HY.out _ B.out).get hkl
      have i1 : (k : Int) < (n : Int) := by omega
      have i0 : (0 : Int) ≤ (k : Int) := by omega
      generalize l[k]'hkl = v at *
      clear lt1 lt2
      go_wp2_with fail
      go_quiet (fail)
      have B2 := Lib.hid (B.out.trans (drewN_below2 ((Below.refl _ _).mono B.out.size) nq))
      clear B
      go_wp2_with fail
      go_roundw
      case rel => exact ⟨k + 1, by omega, by go_num, B2⟩
      case measure => simp [intOf]; omega
    · obtain rfl : k = n := by omega
      go_wp2_with fail
      go_ret
      exact ⟨rfl, B.out⟩
end Vw
end Go.Proofs.YtaghilgfldaaiaaGreatDoor
/-
  The walk of the law PsvMerges.
-/
namespace Go.Proofs.YtaghilgfldaaiaaGreatDoor
namespace Vw
open Go.RowKit Lw Go.Proofs.YtaghilgfldaaiaaGreatDoor.Ap Go.Proofs.YtaghilgfldaaiaaGreatDoor.Vp Go.Proofs.YtaghilgfldaaiaaGreatDoor.Op Go.Proofs.YtaghilgfldaaiaaGreatDoor.Ow Go.Proofs.YtaghilgfldaaiaaGreatDoor.Mp Go.Proofs.YtaghilgfldaaiaaGreatDoor.Mw Go.Proofs.YtaghilgfldaaiaaGreatDoor.At

theorem merge_len {l x : List Ob} {p : List Nat} {c : Int} (h : MergeIs l x p c) (hl : l.length ≤ 1000000) : x.length ≤ 1000000 ∧ p.length ≤ 1000000 := by
  rcases h with ⟨_, h, _, h2, _⟩ | ⟨_, rfl, rfl, _⟩
  · have := keptTo_len l l.length
    rw [h.length_eq, h2]
    omega
  · simp
/-- append of any slice to an empty one. -/
theorem wp_copyG {ops : Array Oper} {rest : List Oper} {o : Oper} {a : Act} {Q : Exit → Act → World → Prop} (w : World) (hgd : o.guard = none) (s y : Operand)
    (ho : o.op = .call { callee := .builtin .append, args := #[s, y], argTypes := #[22, 22] })
    (l : List Ob) (x : Option Addr) (n cap : Nat) (hn : l.length = n) (hs : a.eval s = .slice (some ⟨w.heap.size, 0, none⟩) 0 0) (hx : a.eval y = .slice x n cap) (hsl : SlA w x l) (hc : x = none → l = [] ∧ cap = 0) (hl : l.length ≤ 1000000)
    (h : ∀ v' w', OwnO w' w.heap.size v' l → Below w.heap.size w w' → wpList Tryz.prog ops Q rest (a.put o.dst v') w') : wpList Tryz.prog ops Q (o :: rest) a (w.alloc (.cells #[] 33)) := by
  subst hn
  rcases x with _ | ad
  · obtain ⟨e1, e2⟩ := hc rfl
    subst e1 e2
    exact wp_copy0 w hgd s y ho hs hx h
  · exact wp_copy w hgd s y ho l ad cap hs hx hsl hl h
set_option maxRecDepth 100000 in
set_option maxHeartbeats 40000000 in
theorem merges_main (x : Option Addr) (cap : Nat) (l : List Ob) (w : World) (hT : Gt.Tab w) (hE : ES w) (hM : MX w) (hl : SlA w x l) (hc : x = none → l = [] ∧ cap = 0) (hb : OBs l) (hg : greatB l 12 = false) : Calls Tryz.prog 3 #[.slice x l.length cap] w fun e w' => e = .returned (.bool true) ∧ Below w.heap.size w w' := by
  have n5 := great_len hg
  have hm : l.length ≤ 1000000 := by omega
  have HL := Lib.hid (fun w' (h : Below w.heap.size w w') => hl.below h)
  have HE := Lib.hid (fun w' (h : Below w.heap.size w w') => hE.below h)
  have HT := Lib.hid (fun w' (h : Below w.heap.size w w') => hT.below h)
  have HM := Lib.hid (fun w' (h : Below w.heap.size w w') => hM.below h)
  have GR := great_sl x cap l w hl (by omega) hb
  rw [hg] at GR
  replace GR := Lib.hid GR
  have P1 := Lib.hid (fun w' (h : Below w.heap.size w w') => merge_any x cap l w' (HE.out _ h) (HL.out _ h) hm hb)
  have P2 := Lib.hid (fun y d w' (h : SlA w' y l) => rmerge_any y d l w' h hm hb)
  have S3 := Lib.hid (fun w' y d (h : Below w.heap.size w w') (g : SlA w' y l) => same_any x y cap d l w' (HL.out _ h) g hm)
  have R1 := Lib.hid (fun i (h : i < l.length) w' (g : Below w.heap.size w w') => vround_any (l[i]'h) w' (HT.out _ g) (HE.out _ g) (HM.out _ g) (hb i h))
  have R2 := Lib.hid (fun i (h : i < l.length) w' => rround27_any (l[i]'h) w' (hb i h))
  have HC := Lib.hid hc
  have ZL := Lib.hid hm
  obtain ⟨n, hnl⟩ : ∃ n, l.length = n := ⟨_, rfl⟩
  rw [hnl] at P1 P2 GR S3 n5 ⊢
  have NL := Lib.hid hnl
  clear hl hE hT hM hb hg hc hnl
  go_enter Tryz.func3, Tryz.ntmps3
  go_wp2_with fail
  refine GR.out.mono ?_
  rintro e w1 ⟨rfl, rfl⟩
  clear GR
  go_wp2_with (at_builtin; refine wp_copyG _ rfl (.tmp 17) (.tmp 18) rfl l x n cap NL.out rfl rfl (HL.out _ (Below.refl _ _)) HC.out ZL.out ?_; intro v' w3 hO hb3)
  obtain ⟨y, d, rfl, hy⟩ := slV_of hO.1
  have B3 := Lib.hid hb3
  have HY := Lib.hid (fun w' (h : Below w3.heap.size w3 w') => hy.below h)
  clear hO hb3 hy
  rw [NL.out]
  go_wp2_with fail
  refine (P1.out _ B3.out).mono ?_
  rintro e w4 ⟨v1, v2, m, D, c, rfl, hP, hv1, hv2, hb4⟩
  obtain ⟨x1, d1, rfl, hx1⟩ := hv1
  obtain ⟨x2, d2, rfl, hx2⟩ := hv2
  have HP := Lib.hid hP
  have ZM := Lib.hid (merge_len hP ZL.out)
  have X1 := Lib.hid (fun w' (h : Below w4.heap.size w4 w') => hx1.below h)
  have X2 := Lib.hid (fun w' (h : Below w4.heap.size w4 w') => hx2.below h)
  have C4 := Lib.hid hb4
  have B4 := Lib.hid (below_then B3.out hb4)
  clear hP hb4 P1 hx1 hx2
  go_wp2_with fail
  refine (P2.out _ _ _ (HY.out _ C4.out)).mono ?_
  rintro e w5 ⟨v3, v4, m', D', c', rfl, hP, hv3, hv4, hb5⟩
  obtain ⟨rfl, rfl, rfl⟩ := HP.out.uniq hP
  obtain ⟨x3, d3, rfl, hx3⟩ := hv3
  obtain ⟨x4, d4, rfl, hx4⟩ := hv4
  have X3 := Lib.hid (fun w' (h : Below w5.heap.size w5 w') => hx3.below h)
  have X4 := Lib.hid (fun w' (h : Below w5.heap.size w5 w') => hx4.below h)
  have D5 := Lib.hid hb5
  have C5 := Lib.hid (below_then C4.out hb5)
  have B5 := Lib.hid (below_then B4.out hb5)
  clear hP hb5 P2 HP C4 B4 hx3 hx4
  go_wp2_with fail
  refine (same_any x1 x3 d1 d3 m w5 (X1.out _ D5.out) (X3.out _ (Below.refl _ _)) ZM.out.1).mono ?_
  rintro e w6 ⟨rfl, hb6⟩
  have X2b := Lib.hid (X2.out _ (below_then D5.out hb6))
  have X4b := Lib.hid (X4.out _ hb6)
  have C6 := Lib.hid (below_then C5.out hb6)
  have B6 := Lib.hid (below_then B5.out hb6)
  clear hb6 X1 X2 X3 X4 D5 C5 B5
  go_wp2_with fail
  refine (samei_any x2 x4 d2 d4 D w6 X2b.out X4b.out ZM.out.2).mono ?_
  rintro e w7 ⟨rfl, hb7⟩
  have C7 := Lib.hid (below_then C6.out hb7)
  have B7 := Lib.hid (below_then B6.out hb7)
  clear hb7 X2b X4b C6 B6 ZM
  go_wp2_with fail
  refine (S3.out _ _ _ B7.out (HY.out _ C7.out)).mono ?_
  rintro e w8 ⟨rfl, hb8⟩
  have B8 := Lib.hid (below_then B7.out hb8)
  clear hb8 B7 C7 S3 HY
  go_wp2_with fail
  go_loopw [10] (fun i wr => ∃ k : Nat, k ≤ n ∧ i = .int .i64 k ∧ Hid (Below w.heap.size w wr)) (fun i _ => n - (intOf i).toNat)
  case atStart => exact ⟨0, Nat.zero_le _, rfl, B8⟩
  case round =>
    obtain ⟨k, hk, rfl, B⟩ := hrel
    clear B8 B3
    by_cases hlt : k < n
    · have i1 : (k : Int) < (n : Int) := by omega
      by_cases h12 : k < 12
      · have i2 : (k : Int) < 12 := by omega
        have hkl : k < l.length := by rw [NL.out]; exact hlt
        obtain ⟨b, off, he, lt, row⟩ := (HL.out _ B.out).get hkl
        subst he
        have R := Lib.hid (row k hkl)
        have RR1 := Lib.hid (R1.out k hkl)
        have RR2 := Lib.hid (R2.out k hkl)
        have LT := Lib.hid lt
        obtain ⟨o, ho⟩ : ∃ o, l[k]'hkl = o := ⟨_, rfl⟩
        rw [ho] at R RR1 RR2
        clear row lt ho R1 R2
        go_wp2_with (refine wpList_load_mid rfl _ (.tmp 66) rfl b (off + k * 8) rfl (obsC o) _ R.out Tryz.underlying33 rfl info8 ?_)
        refine (RR1.out _ B.out).mono ?_
        rintro e w9 ⟨q, c9, rfl, hq, hb9⟩
        have HQ := Lib.hid hq
        have R9 := Lib.hid (rangeAt_below R.out hb9 LT.out)
        have LT9 := Lib.hid (Nat.lt_of_lt_of_le LT.out hb9.size)
        have B9 := Lib.hid (below_then B.out hb9)
        have r10 := Rw.new w9 (obsC q) 33
        have l10 := (Below.refl w9.heap.size w9).alloc (Nat.le_refl _) (.cells (obsC q).toArray 33)
        obtain ⟨v1, hv1⟩ : ∃ v, w9.alloc (.cells (obsC q).toArray 33) = v := ⟨_, rfl⟩
        rw [hv1] at r10 l10
        have V1 := Lib.hid hv1
        have RQ := Lib.hid r10
        have B10 := Lib.hid (below_then B9.out l10)
        have R10 := Lib.hid (rangeAt_below R9.out l10 LT9.out)
        have LT10 := Lib.hid (Nat.lt_of_lt_of_le LT9.out l10.size)
        clear hq hb9 r10 l10 hv1 RR1 R LT R9 LT9 B9 B
        go_upto_region 12 with (refine wpList_store_new rfl _ (.tmp 11) (.tmp 69) rfl _ _ rfl rfl info8 rfl ?_ ?_; simp [Value.oneCell'])
        rw [show w9.alloc (.cells #[.string q.name, .string q.site, .int .i64 q.t, .int .i64 q.ra, .int .i64 q.dec, .int .i64 q.sg, .int .i64 q.mag, .int .u8 q.band] 33) = v1 from V1.out]
        obtain ⟨q1, hq1⟩ : ∃ q, w9.heap.size = q := ⟨_, rfl⟩
        rw [hq1] at RQ
        try rw [hq1]
        clear V1 hq1
        go_wp2_with (refine wpList_load_mid rfl _ (.tmp 74) rfl b (off + k * 8) rfl (obsC o) _ R10.out Tryz.underlying33 rfl info8 ?_)
        refine (RR2.out _).mono ?_
        rintro e w11 ⟨q', c11, rfl, hq, hb11⟩
        obtain ⟨rfl, rfl⟩ := HQ.out.uniq hq
        have RQ2 := Lib.hid (RQ.out.call hb11)
        have B11 := Lib.hid (below_then B10.out hb11)
        have r12 := Rw.new w11 (obsC q) 33
        have l12 := (Below.refl w11.heap.size w11).alloc (Nat.le_refl _) (.cells (obsC q).toArray 33)
        obtain ⟨v2, hv2⟩ : ∃ v, w11.alloc (.cells (obsC q).toArray 33) = v := ⟨_, rfl⟩
        rw [hv2] at r12 l12
        have V2 := Lib.hid hv2
        have RQ3 := Lib.hid (RQ2.out.call l12)
        have RQ4 := Lib.hid r12
        have B12 := Lib.hid (below_then B11.out l12)
        clear hq hb11 r12 l12 hv2 RR2 R10 LT10 B10 RQ RQ2 B11 HQ
        go_upto_region 13 with (refine wpList_store_new rfl _ (.tmp 13) (.tmp 77) rfl _ _ rfl rfl info8 rfl ?_ ?_; simp [Value.oneCell'])
        rw [show w11.alloc (.cells #[.string q.name, .string q.site, .int .i64 q.t, .int .i64 q.ra, .int .i64 q.dec, .int .i64 q.sg, .int .i64 q.mag, .int .u8 q.band] 33) = v2 from V2.out]
        have EQ : ∀ w', (Go.Op.equalIn 10000 33 (.agg #[.string q.name, .string q.site, .int .i64 q.t, .int .i64 q.ra, .int .i64 q.dec, .int .i64 q.sg, .int .i64 q.mag, .int .u8 q.band]) (.agg #[.string q.name, .string q.site, .int .i64 q.t, .int .i64 q.ra, .int .i64 q.dec, .int .i64 q.sg, .int .i64 q.mag, .int .u8 q.band])).run Tryz.prog w' = .ok true w' := fun w' => by
          have := obs_eql q q w'
          rw [decide_eq_true rfl] at this
          exact this
        obtain ⟨q2, hq2⟩ : ∃ q, w11.heap.size = q := ⟨_, rfl⟩
        rw [hq2] at RQ4
        try rw [hq2]
        clear V2 hq2
        go_wp2_with (first | (refine wpList_load_mid rfl _ (.tmp 11) rfl q1 0 rfl (obsC q) _ RQ3.out.row Tryz.underlying33 rfl info8 ?_) | (refine wpList_load_mid rfl _ (.tmp 13) rfl q2 0 rfl (obsC q) _ RQ4.out.row Tryz.underlying33 rfl info8 ?_))
        go_roundw
        case rel => exact ⟨k + 1, by omega, by go_num, B12⟩
        case measure => simp [intOf]; omega
      · have i2 : ¬ (k : Int) < 12 := by omega
        go_wp2_with fail
        go_ret
        exact ⟨rfl, B.out⟩
    · obtain rfl : k = n := by omega
      go_wp2_with fail
      go_ret
      exact ⟨rfl, B.out⟩
theorem psvmerges_any (x : Option Addr) (cap : Nat) (l : List Ob) (w : World) (hT : Gt.Tab w) (hE : ES w) (hM : MX w) (hl : SlA w x l) (hc : x = none → l = [] ∧ cap = 0) (hm : l.length ≤ 9223372036854775807) (hb : OBs l) : Calls Tryz.prog 3 #[.slice x l.length cap] w fun e w' => e = .returned (.bool true) ∧ Below w.heap.size w w' := by
  by_cases hg : greatB l 12 = true
  · have GR := great_sl x cap l w hl hm hb
    rw [hg] at GR
    clear hl hb hT hE hM hc hg
    generalize l.length = n at *
    go_enter Tryz.func3, Tryz.ntmps3
    go_wp2_with fail
    refine GR.mono ?_
    rintro e w1 ⟨rfl, rfl⟩
    go_wp2_with fail
    go_ret
    exact ⟨rfl, Below.refl _ _⟩
  · exact merges_main x cap l w hT hE hM hl hc hb (Bool.eq_false_iff.2 hg)
end Vw
end Go.Proofs.YtaghilgfldaaiaaGreatDoor
