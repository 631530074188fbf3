/-
  Lemmas and walks, texts joined: OForm, OForm2, OBackPl, OBackPl2, OBackL.
-/
import Derived.Test.YtgodhaphbgllhaaGreatDoorOa08
set_option linter.unusedSimpArgs false
set_option linter.unusedVariables false
/-
  Plain law of observations: what is read from a line is exact: its day has a text of six digits that is read as the same time; no walk here.
-/
namespace Go.Proofs.YtgodhaphbgllhaaGreatDoor
namespace Op
open Go.RowKit Lw Go.Proofs.YtgodhaphbgllhaaGreatDoor.Ap Go.Proofs.YtgodhaphbgllhaaGreatDoor.Mp Go.Proofs.YtgodhaphbgllhaaGreatDoor.At Go.Proofs.YtgodhaphbgllhaaGreatDoor.Ow Go.Proofs.YtgodhaphbgllhaaGreatDoor.Mw

/-- A text of a day is made of a day and of digits. -/
theorem day_form {s : ByteArray} {v : Int} (a : PDayIs s v 0) : ∃ (y m D : Int) (q : Nat), wholeP y m D ∧ q < 10 ^ (s.size - 11) ∧ s = daytS y.toNat m.toNat D.toNat q (s.size - 11) ∧ s.size ≤ 20 := by
  rcases a with ⟨⟨⟨t1, t2, t3, t5, t6⟩, ok⟩, hv, _⟩ | ⟨_, _, c⟩
  · obtain ⟨c0, c1, c2, c3, c4, c5, c6, c7, r, hL, i0, i1, i2, i3, i4, i5, i6, i7⟩ := split10 (by omega) t5
    have sz : s.size = 10 + r.length := by have := congrArg List.length hL; simp at this; omega
    obtain ⟨n1, n2, n3⟩ := day_nums hL
    have hw := ok.1
    have key : ∃ q, q < 10 ^ (s.size - 11) ∧ (if 0 < s.size - 11 then 46 :: decL q (s.size - 11) else []) = r := by
      match r, sz with
      | [], sz => exact ⟨0, Nat.pow_pos (by omega), by rw [if_neg (by simp at sz; omega)]⟩
      | y :: T, sz =>
        have sz : s.size = 11 + T.length := by simp at sz; omega
        obtain ⟨p1, p2⟩ := t6 (by omega)
        rw [bt_L s 10 (by omega), hL] at p1
        have hy : y = 46 := u8_val (n := 46) (by omega) p1
        subst hy
        have eN : nm s 11 s.size = Ap.numV T := by
          rw [nm_L hL _ _ (Nat.le_refl _)]
          have e : (List.drop 11 (l10 c0 c1 c2 c3 c4 c5 c6 c7 (46 :: T))) = T := rfl
          rw [e, List.take_of_length_le (by omega)]
        have aT : Ap.allD T := (numV_nn T).1 (by rw [← eN]; exact p2)
        have hb := numL_bd T T.length (Nat.le_refl _) (by rw [List.take_length]; exact aT)
        rw [List.take_length] at hb
        have := dec_of aT
        have eT : s.size - 11 = T.length := by omega
        refine ⟨(Ap.numL T).toNat, ?_, ?_⟩
        · rw [eT]
          have e : ((10 ^ T.length : Nat) : Int) = 10 ^ T.length := by simp
          omega
        · rw [if_pos (by omega), eT, this]
    obtain ⟨q, hq, hr⟩ := key
    refine ⟨_, _, _, q, hw, hq, ?_, t3⟩
    apply toL_inj
    rw [dayt_L, n1, n2, n3, val4 i0 i1 i2 i3, val2 i4 i5, val2 i6 i7, hr, hL]
    rfl
  · omega
/-- The time of a text of a day. -/
theorem day_val {s : ByteArray} {y m D v : Int} {q d : Nat} (hw : wholeP y m D) (hq : q < 10 ^ d) (hs : s = daytS y.toNat m.toNat D.toNat q d) (a : PDayIs s v 0) : v = bgv (dn y m D) y m + upI ((q : Int) * dayLen y m D) ((10 ^ d : Nat) : Int) := by
  obtain ⟨g1, g2, g3, g4, g5, g6⟩ := hw
  have ml := mo_len y m g3 g4
  have hL := dayt_L y.toNat m.toNat D.toNat q d
  rw [← hs] at hL
  obtain ⟨c0, c1, c2, c3, x0, i0, i1, i2, i3⟩ := dec4 y.toNat
  obtain ⟨c4, c5, x1, i4, i5⟩ := dec2 m.toNat
  obtain ⟨c6, c7, x2, i6, i7⟩ := dec2 D.toNat
  rw [x0, x1, x2] at hL
  obtain ⟨r, hr⟩ : ∃ r, (if 0 < d then (46 : UInt8) :: decL q d else []) = r := ⟨_, rfl⟩
  rw [hr] at hL
  have hL : s.data.toList = l10 c0 c1 c2 c3 c4 c5 c6 c7 r := hL
  have rl : r.length = (if 0 < d then d + 1 else 0) := by
    rw [← hr]
    by_cases c : 0 < d
    · simp [c, decL_len]
    · simp [c]
  have sz : s.size = 10 + (if 0 < d then d + 1 else 0) := by
    have := congrArg List.length hL
    simp [rl] at this
    omega
  obtain ⟨n1, n2, n3⟩ := day_nums hL
  rw [dec1 (by omega) x0, Int.toNat_of_nonneg (by omega)] at n1
  rw [dec1 (by omega) x1, Int.toNat_of_nonneg (by omega)] at n2
  rw [dec1 (by omega) x2, Int.toNat_of_nonneg (by omega)] at n3
  have hn : 0 < d → nm s 11 s.size = q := fun c => by
    rw [nm_L hL _ _ (Nat.le_refl _)]
    rw [if_pos c] at hr
    rw [← hr]
    have e : (List.drop 11 (l10 c0 c1 c2 c3 c4 c5 c6 c7 (46 :: decL q d))) = decL q d := rfl
    rw [e, List.take_of_length_le (by rw [decL_len, sz, if_pos c]; omega), dec_val hq]
  have pv : partV s = upI ((q : Int) * dayLen y m D) ((10 ^ d : Nat) : Int) := by
    unfold partV
    by_cases c : 0 < d
    · rw [if_neg (by rw [sz, if_pos c]; omega), hn c, n1, n2, n3]
      have : s.size - 11 = d := by rw [sz, if_pos c]; omega
      rw [this]
      rfl
    · rw [if_pos (by rw [sz, if_neg c])]
      obtain rfl : d = 0 := by omega
      obtain rfl : q = 0 := by omega
      simp [upI]
  rcases a with ⟨_, hv, _⟩ | ⟨_, _, c⟩
  · rw [hv]
    unfold dayV
    rw [n1, n2, n3, pv]
    unfold timeOf
    omega
  · omega
theorem upI_mul {a b c : Int} (hb : 0 < b) (hc : 0 < c) : upI (a * c) (b * c) = upI a b := by
  unfold upI
  rw [Int.mul_ediv_mul_of_pos_left a b hc, Int.mul_comm a c, Int.mul_comm b c, Int.mul_emod_mul_of_pos a b hc, Int.mul_comm c]
  have : (0 < a % b * c) ↔ 0 < a % b := by
    have h0 := Int.emod_nonneg a (show b ≠ 0 by omega)
    constructor
    · intro h
      by_cases g : a % b = 0
      · rw [g] at h; simp at h
      · omega
    · intro h
      exact Int.mul_pos h hc
  simp only [this]
/-- The text of six digits of a time that was read from at most six. -/
theorem day_six {s : ByteArray} {v : Int} (a : PDayIs s v 0) (h : s.size - 11 ≤ 6) : ∃ day, DayIs v 6 day 0 ∧ PDayIs day v 0 ∧ (s.size = 17 → day = s) := by
  obtain ⟨y, m, D, q, hw, hq, hs, hz⟩ := day_form a
  obtain ⟨d, hd⟩ : ∃ d, s.size - 11 = d := ⟨_, rfl⟩
  rw [hd] at hq hs h
  have hv := day_val hw hq hs a
  have p10 : 10 ^ d * 10 ^ (6 - d) = 10 ^ 6 := by rw [← Nat.pow_add]; congr 1; omega
  have hk : 0 < 10 ^ (6 - d) := Nat.pow_pos (by omega)
  have hq6 : q * 10 ^ (6 - d) < 10 ^ 6 := by rw [← p10]; exact Nat.mul_lt_mul_of_pos_right hq hk
  obtain ⟨P, b1, b2, _, _⟩ := day_core (s := daytS y.toNat m.toNat D.toNat (q * 10 ^ (6 - d)) 6) (by omega) hw hq6 rfl
  have hv2 := day_val hw hq6 rfl b1
  have e : bgv (dn y m D) y m + (P : Int) = v := by
    rw [hv2, hv]
    congr 1
    rw [← p10, Int.natCast_mul, Int.natCast_mul]
    have h0 : (0 : Int) < ((10 ^ d : Nat) : Int) := Int.ofNat_lt.2 (Nat.pow_pos (by omega))
    have h1 : (0 : Int) < ((10 ^ (6 - d) : Nat) : Int) := Int.ofNat_lt.2 hk
    have e2 : (q : Int) * ((10 ^ (6 - d) : Nat) : Int) * dayLen y m D = (q : Int) * dayLen y m D * ((10 ^ (6 - d) : Nat) : Int) := by
      rw [Int.mul_assoc, Int.mul_comm ((10 ^ (6 - d) : Nat) : Int), ← Int.mul_assoc]
    rw [e2, upI_mul h0 h1]
  rw [e] at b1 b2
  refine ⟨_, b2, b1, fun h17 => ?_⟩
  have hd6 : d = 6 := by omega
  subst hd6
  rw [hs]
  simp
end Op
end Go.Proofs.YtgodhaphbgllhaaGreatDoor
/-
  Plain law of observations: texts of angles that are read have texts; no walk here.
-/
namespace Go.Proofs.YtgodhaphbgllhaaGreatDoor
namespace Op
open Go.RowKit Lw Go.Proofs.YtgodhaphbgllhaaGreatDoor.Ap Go.Proofs.YtgodhaphbgllhaaGreatDoor.Mp Go.Proofs.YtgodhaphbgllhaaGreatDoor.At Go.Proofs.YtgodhaphbgllhaaGreatDoor.Ow Go.Proofs.YtgodhaphbgllhaaGreatDoor.Mw

theorem cons_of {l : List UInt8} {n : Nat} (h : n + 1 ≤ l.length) : ∃ a r, l = a :: r ∧ n ≤ r.length := by
  match l, h with
  | a :: r, h => exact ⟨a, r, rfl, by simpa using h⟩
theorem eight {l : List UInt8} (h : 8 ≤ l.length) : ∃ a b x c d y e f r, l = a :: b :: x :: c :: d :: y :: e :: f :: r := by
  obtain ⟨a, l1, rfl, h1⟩ := cons_of h
  obtain ⟨b, l2, rfl, h2⟩ := cons_of h1
  obtain ⟨x, l3, rfl, h3⟩ := cons_of h2
  obtain ⟨c, l4, rfl, h4⟩ := cons_of h3
  obtain ⟨d, l5, rfl, h5⟩ := cons_of h4
  obtain ⟨y, l6, rfl, h6⟩ := cons_of h5
  obtain ⟨e, l7, rfl, h7⟩ := cons_of h6
  obtain ⟨f, l8, rfl, h8⟩ := cons_of h7
  exact ⟨a, b, x, c, d, y, e, f, l8, rfl⟩
theorem two_dig {a b : UInt8} (h : 0 ≤ Ap.numV [a, b]) : ∃ n : Nat, Ap.numV [a, b] = n ∧ decL n 2 = [a, b] ∧ n < 100 := by
  have ad := (numV_nn [a, b]).1 h
  have ha : isD a := ad a (by simp)
  have hb : isD b := ad b (by simp)
  have v := val2 ha hb
  obtain ⟨_, n0, n1⟩ := num2 ha hb
  have e : Ap.numV [a, b] = Ap.numL [a, b] := if_pos ad
  exact ⟨(Ap.numV [a, b]).toNat, by omega, v, by omega⟩
/-- A clock, taken apart. -/
structure Clk (s : ByteArray) (h m c : Nat) (T : List UInt8) : Prop where
  hh : h < 100
  mm : m ≤ 59
  cc : c ≤ 59
  d : Ap.allD T
  l : T.length ≤ 6
  eq : s.data.toList = decL h 2 ++ ([32] ++ (decL m 2 ++ ([32] ++ (decL c 2 ++ (if T = [] then [] else 46 :: T)))))
  sc : Gp.secs s = h * 3600 + m * 60 + c
  tw : Gp.two s 0 = h
  rest : Gp.restOf s = ⟨T.toArray⟩
theorem clk_of {s : ByteArray} (hv : Gp.validP s) : ∃ h m c T, Clk s h m c T := by
  obtain ⟨⟨z8, g2, g5, z9, z15, g8⟩, t0, t3, t6, hr⟩ := hv
  have zl : s.data.toList.length = s.size := (size_L s).symm
  obtain ⟨a, b, x, c, d, y, e, f, r, hl⟩ := eight (l := s.data.toList) (by omega)
  have b2 := bt_L s 2 (by omega)
  have b5 := bt_L s 5 (by omega)
  rw [hl] at b2 b5
  have hx : x = 32 := u8_val (n := 32) (by omega) (b2.symm.trans g2)
  have hy : y = 32 := u8_val (n := 32) (by omega) (b5.symm.trans g5)
  subst hx hy
  have w0 : Gp.two s 0 = Ap.numV [a, b] := by rw [Gp.two_eq, hl]; rfl
  have w3 : Gp.two s 3 = Ap.numV [c, d] := by rw [Gp.two_eq, hl]; rfl
  have w6 : Gp.two s 6 = Ap.numV [e, f] := by rw [Gp.two_eq, hl]; rfl
  rw [w0] at t0
  rw [w3] at t3
  rw [w6] at t6
  obtain ⟨n0, e0, d0, l0⟩ := two_dig t0
  obtain ⟨n3, e3, d3, l3⟩ := two_dig t3.1
  obtain ⟨n6, e6, d6, l6⟩ := two_dig t6.1
  have sc : Gp.secs s = n0 * 3600 + n3 * 60 + n6 := by unfold Gp.secs; rw [w0, w3, w6, e0, e3, e6]
  by_cases h8 : s.size = 8
  · have hr0 : r = [] := by
      have := congrArg List.length hl
      rw [zl, h8] at this
      simp at this
      exact this
    subst hr0
    refine ⟨n0, n3, n6, [], l0, by omega, by omega, fun _ hc => by simp at hc, by simp, ?_, sc, by rw [w0, e0], ?_⟩
    · rw [hl, d0, d3, d6]; rfl
    · rw [Gp.restOf_8 h8]; rfl
  · have b8 := bt_L s 8 (by omega)
    rw [hl] at b8
    have lr : r.length = s.size - 8 := by
      have := congrArg List.length hl
      rw [zl] at this
      simp at this
      omega
    obtain ⟨p, T, rfl, lT⟩ := cons_of (l := r) (n := 1) (by omega)
    have hp : p = 46 := u8_val (n := 46) (by omega) (b8.symm.trans (g8 (by omega)))
    subst hp
    have er : Gp.restOf s = ⟨T.toArray⟩ := by
      rw [Gp.restOf_9 (by omega)]
      apply toL_inj
      rw [ext_L _ _ _ (Nat.le_refl _), hl, toL_mk]
      show List.take (s.size - 9) T = T
      rw [List.take_of_length_le]
      simp at lr
      omega
    rw [er, toL_mk] at hr
    have aT : Ap.allD T := (numV_nn T).1 hr
    have nT : T ≠ [] := fun h => by rw [h] at lT; simp at lT
    refine ⟨n0, n3, n6, T, l0, by omega, by omega, aT, by simp at lr; omega, ?_, sc, by rw [w0, e0], er⟩
    rw [hl, d0, d3, d6, if_neg nT]; rfl
theorem pre_ne46 (h m c : Nat) : ∀ z ∈ decL h 2 ++ ([32] ++ (decL m 2 ++ ([32] ++ decL c 2))), z ≠ 46 := mem3 (allD_ne46 (decL_num _ _).2) (by decide) (allD_ne46 (decL_num _ _).2) (by decide) (allD_ne46 (decL_num _ _).2)
theorem decs_none {l : List UInt8} (h : ∀ c ∈ l, c ≠ 46) : decs ⟨l.toArray⟩ = 0 := by
  unfold decs ptS
  rw [toL_mk, size_mk]
  have : ptL l = l.length := ptL_uniq (Nat.le_refl _) (fun j g hj => fun e => h _ (List.getElem_mem g) (UInt8.toNat_inj.1 (Int.ofNat.inj e))) (fun g => absurd g (Nat.lt_irrefl _))
  rw [this]; omega
theorem Clk.decs {s : ByteArray} {h m c : Nat} {T : List UInt8} (k : Clk s h m c T) : decs s = T.length := by
  rw [← mk_toL s, k.eq]
  by_cases hT : T = []
  · rw [if_pos hT, hT, List.append_nil, decs_none (pre_ne46 h m c)]; rfl
  · rw [if_neg hT]
    have : decL h 2 ++ ([32] ++ (decL m 2 ++ ([32] ++ (decL c 2 ++ 46 :: T)))) = (decL h 2 ++ ([32] ++ (decL m 2 ++ ([32] ++ decL c 2)))) ++ 46 :: T := by simp
    rw [this, decs_app (pre_ne46 h m c)]
theorem Clk.ang {s : ByteArray} {h m c : Nat} {T : List UInt8} (k : Clk s h m c T) (u : Int) : ∃ V : Nat, V < 10 ^ T.length ∧ decL V T.length = T ∧ Gp.angV s u = ((h * 3600 + m * 60 + c : Nat) : Int) * u + V * (u / ((10 ^ T.length : Nat) : Int)) := by
  have b := numL_bd T T.length (Nat.le_refl _) (by rw [List.take_length]; exact k.d)
  rw [List.take_length] at b
  have e : ((10 ^ T.length : Nat) : Int) = 10 ^ T.length := by simp
  refine ⟨(Ap.numL T).toNat, by omega, dec_of k.d, ?_⟩
  unfold Gp.angV
  rw [k.sc, k.rest, toL_mk, size_mk]
  have nv : Gp.numV T = Ap.numL T := (show Gp.numV T = Ap.numV T from rfl).trans (if_pos k.d)
  rw [nv, Int.toNat_of_nonneg b.1]
  have te : Gp.tenI T.length = ((10 ^ T.length : Nat) : Int) := rfl
  rw [te]
  congr 2
theorem hms {h m c : Nat} (hm : m ≤ 59) (hc : c ≤ 59) : (h * 3600 + m * 60 + c) / 3600 = h ∧ (h * 3600 + m * 60 + c) / 60 % 60 = m ∧ (h * 3600 + m * 60 + c) % 60 = c := ⟨by omega, by omega, by omega⟩
theorem ra_form {s : ByteArray} {v : Int} (a : Gp.RaIs s v 0) (h1 : 1 ≤ decs s) (h3 : decs s ≤ 3) : ∃ N : Nat, N < 86400000 ∧ v = ((N * 15000 : Nat) : Int) ∧ (decs s = 3 → s.data.toList = Gt.clockL N 3) := by
  rcases a with ⟨hv, h23, hv2, _⟩ | ⟨_, _, c⟩
  · obtain ⟨h, m, c, T, k⟩ := clk_of hv
    obtain ⟨V, lV, dV, ev⟩ := k.ang 15000000
    have dk := k.decs
    rw [k.tw] at h23
    rw [hv2, ev]
    have c1 := k.mm
    have c2 := k.cc
    rw [dk] at h1 h3 ⊢
    have keq := k.eq
    rcases (show T.length = 1 ∨ T.length = 2 ∨ T.length = 3 by omega) with e | e | e
    · rw [e] at lV ⊢
      exact ⟨(h * 3600 + m * 60 + c) * 1000 + V * 100, by omega, by omega, fun g => by omega⟩
    · rw [e] at lV ⊢
      exact ⟨(h * 3600 + m * 60 + c) * 1000 + V * 10, by omega, by omega, fun g => by omega⟩
    · rw [e] at lV dV ⊢
      refine ⟨(h * 3600 + m * 60 + c) * 1000 + V, by omega, by omega, fun _ => ?_⟩
      have nT : T ≠ [] := fun g => by rw [g] at e; simp at e
      rw [if_neg nT] at keq
      rw [keq, clock_dec (by omega) (by omega)]
      have f1 : ((h * 3600 + m * 60 + c) * 1000 + V) / 10 ^ 3 = h * 3600 + m * 60 + c := by omega
      have f2 : ((h * 3600 + m * 60 + c) * 1000 + V) % 10 ^ 3 = V := by omega
      rw [f1, f2, dV, (hms c1 c2).1, (hms c1 c2).2.1, (hms c1 c2).2.2]
  · cases c
theorem dec_form {s : ByteArray} {v : Int} (a : Gp.DecIs s v 0) (h2 : decs s ≤ 2) : ∃ R : Nat, R ≤ 32400000 ∧ v.natAbs = R * 10000 ∧ (decs s = 2 → s ≠ negZ → s.data.toList = (if v < 0 then 45 else 43) :: Gt.clockL R 2) := by
  rcases a with ⟨⟨⟨z, hs⟩, hv, h90, hle⟩, hv2, _⟩ | ⟨_, _, c⟩
  · have zl : s.data.toList.length = s.size := (size_L s).symm
    obtain ⟨x, l, hl, _⟩ := cons_of (l := s.data.toList) (n := 0) (by omega)
    have es : s = ⟨(x :: l).toArray⟩ := by rw [← hl, mk_toL]
    have et : Gp.tailOf s = ⟨l.toArray⟩ := by rw [es, Gp.tail_mk]
    have eg : s.get! 0 = x := by rw [es, Gp.get0]
    rw [et] at hv h90 hle hv2
    rw [eg] at hs hv2
    obtain ⟨h, m, c, T, k⟩ := clk_of hv
    obtain ⟨V, lV, dV, ev⟩ := k.ang 1000000
    have x46 : x ≠ 46 := fun e => by
      rw [e] at hs
      revert hs; decide
    have keq := k.eq
    rw [toL_mk] at keq
    have dk : decs s = T.length := by
      rw [es, keq]
      by_cases hT : T = []
      · rw [if_pos hT, hT, List.append_nil, decs_none (fun z hz => by
          rcases List.mem_cons.1 hz with rfl | hz
          · exact x46
          · exact pre_ne46 h m c z hz)]
        rfl
      · rw [if_neg hT]
        have : x :: (decL h 2 ++ ([32] ++ (decL m 2 ++ ([32] ++ (decL c 2 ++ 46 :: T))))) = (x :: (decL h 2 ++ ([32] ++ (decL m 2 ++ ([32] ++ decL c 2))))) ++ 46 :: T := by simp
        rw [this, decs_app (fun z hz => by
          rcases List.mem_cons.1 hz with rfl | hz
          · exact x46
          · exact pre_ne46 h m c z hz)]
    rw [ev] at hle hv2
    have c1 := k.mm
    have c2 := k.cc
    rw [dk] at h2 ⊢
    have va : ∀ R : Nat, ((h * 3600 + m * 60 + c : Nat) : Int) * 1000000 + (V : Int) * (1000000 / ((10 ^ T.length : Nat) : Int)) = ((R * 10000 : Nat) : Int) → R ≤ 32400000 ∧ v.natAbs = R * 10000 := fun R e => by
      rw [e] at hle hv2
      refine ⟨by omega, ?_⟩
      split at hv2 <;> omega
    rcases (show T.length = 0 ∨ T.length = 1 ∨ T.length = 2 by omega) with e | e | e
    · have := va ((h * 3600 + m * 60 + c) * 100 + V * 100) (by rw [e]; rw [e] at lV; omega)
      exact ⟨_, this.1, this.2, fun g => by omega⟩
    · have := va ((h * 3600 + m * 60 + c) * 100 + V * 10) (by rw [e]; omega)
      exact ⟨_, this.1, this.2, fun g => by omega⟩
    · have e2 : ((h * 3600 + m * 60 + c : Nat) : Int) * 1000000 + (V : Int) * (1000000 / ((10 ^ T.length : Nat) : Int)) = ((((h * 3600 + m * 60 + c) * 100 + V) * 10000 : Nat) : Int) := by rw [e]; omega
      have := va _ e2
      refine ⟨_, this.1, this.2, fun _ nz => ?_⟩
      rw [e] at lV dV
      have nT : T ≠ [] := fun g => by rw [g] at e; simp at e
      rw [if_neg nT] at keq
      have f1 : ((h * 3600 + m * 60 + c) * 100 + V) / 10 ^ 2 = h * 3600 + m * 60 + c := by omega
      have f2 : ((h * 3600 + m * 60 + c) * 100 + V) % 10 ^ 2 = V := by omega
      have ecl : Gt.clockL ((h * 3600 + m * 60 + c) * 100 + V) 2 = l := by
        rw [clock_dec (by omega) (by have := this.1; omega), f1, f2, dV, (hms c1 c2).1, (hms c1 c2).2.1, (hms c1 c2).2.2, keq]
      rw [ecl, hl]
      rw [e2] at hv2
      have hx : x = if v < 0 then 45 else 43 := by
        rcases hs with h43 | h45
        · have x43 : x = 43 := u8_val (n := 43) (by omega) h43
          rw [if_neg (by omega)] at hv2
          rw [if_neg (by omega), x43]
        · have x45 : x = 45 := u8_val (n := 45) (by omega) h45
          rw [if_pos h45] at hv2
          by_cases z0 : (h * 3600 + m * 60 + c) * 100 + V = 0
          · exfalso
            apply nz
            rw [z0] at ecl
            rw [es, x45, ← ecl, negZ_is, mk_toL]
          · rw [if_pos (by omega), x45]
      rw [← hx]
  · cases c
end Op
end Go.Proofs.YtgodhaphbgllhaaGreatDoor
/-
  Plain law of observations: the plan of the law ObsBack: what is read from a line has a line; no walk here.
-/
namespace Go.Proofs.YtgodhaphbgllhaaGreatDoor
namespace Op
open Go.RowKit Lw Go.Proofs.YtgodhaphbgllhaaGreatDoor.Ap Go.Proofs.YtgodhaphbgllhaaGreatDoor.Mp Go.Proofs.YtgodhaphbgllhaaGreatDoor.At Go.Proofs.YtgodhaphbgllhaaGreatDoor.Ow Go.Proofs.YtgodhaphbgllhaaGreatDoor.Mw

/-- The same observation with the variance of two digits. -/
def fine (o : Ob) : Ob := ⟨o.name, o.site, o.t, o.ra, o.dec, 100000, o.mag, o.band⟩
theorem fine_ok {o : Ob} (ok : okO o) : okO (fine o) := by
  obtain ⟨a1, a2, a3, a4, a5, a6, a7, a8, _, _, a9⟩ := ok
  exact ⟨a1, a2, a3, a4, a5, a6, a7, a8, by show (1 : Int) ≤ 100000; decide, by show (100000 : Int) ≤ 10000000000; decide, a9⟩
theorem fine_rnd {day : ByteArray} {o : Ob} (ok : okO o) (hd : DayIs o.t 6 day 0) (hp : PDayIs day o.t 0) (hr : ∃ N : Nat, o.ra = ((N * 15000 : Nat) : Int)) (hc : ∃ R : Nat, o.dec.natAbs = R * 10000) : Rnd day o (fine o) := by
  obtain ⟨_, _, _, _, r0, r1, d0, d1, _, _, _⟩ := ok
  obtain ⟨N, eN⟩ := hr
  obtain ⟨R, eR⟩ := hc
  obtain ⟨a1, a2⟩ := ra_mul (N := N) (by omega)
  obtain ⟨b1, b2⟩ := dec_mul (c := o.dec) (R := R) (by omega) eR
  rw [← eN] at a2
  have dz : Pl.dif o.ra o.ra = 0 := by unfold Pl.dif; simp
  exact ⟨rfl, rfl, rfl, rfl, rfl, Int.le_refl _, by show o.t - o.t < _; omega, hp, hd, a2, rfl, r0, r1, by show 2 * Pl.dif o.ra o.ra ≤ _; omega, by show _ ≤ 2 * Pl.dif o.ra o.ra; omega, b2, d0, d1, by show o.dec - o.dec ≤ _; omega, by show _ ≤ o.dec - o.dec; omega, Or.inr rfl⟩
/-! ### Columns as lists -/
abbrev sl (s : ByteArray) (i j : Nat) : List UInt8 := (s.extract i j).data.toList
theorem drop_split (s : ByteArray) (i j : Nat) (hi : i ≤ j) (hj : j ≤ s.size) : s.data.toList.drop i = sl s i j ++ s.data.toList.drop j := by
  unfold sl
  rw [ext_L s i j hj]
  have : s.data.toList.drop j = (s.data.toList.drop i).drop (j - i) := by rw [List.drop_drop]; congr 1; omega
  rw [this, List.take_append_drop]
theorem blank_eq {t : ByteArray} (h : blankP t) : t.data.toList = spL t.size := by
  rw [size_L]
  exact List.eq_replicate_iff.2 ⟨rfl, h⟩
theorem takeWhile_mem (p : UInt8 → Bool) : ∀ (l : List UInt8) {c : UInt8}, c ∈ l.takeWhile p → p c = true
  | x :: l, c, h => by
    by_cases hx : p x = true
    · rw [List.takeWhile_cons_of_pos hx] at h
      rcases List.mem_cons.1 h with rfl | h
      · exact hx
      · exact takeWhile_mem p l h
    · rw [List.takeWhile_cons_of_neg hx] at h
      cases h
theorem cut_fill (t : ByteArray) : t.data.toList = (cutS t).data.toList ++ spL (t.size - (cutS t).size) := by
  have hl : ∀ l : List UInt8, ∃ k, l = cutL l ++ spL k := fun l => by
    unfold cutL
    have e := List.takeWhile_append_dropWhile (p := fun c : UInt8 => c == 32) (l := l.reverse)
    have hr : (l.reverse.takeWhile (fun c => c == 32)) = spL (l.reverse.takeWhile (fun c => c == 32)).length := List.eq_replicate_iff.2 ⟨rfl, fun c hc => by
      have := takeWhile_mem _ _ hc
      simpa using this⟩
    refine ⟨(l.reverse.takeWhile (fun c => c == 32)).length, ?_⟩
    have := congrArg List.reverse e
    rw [List.reverse_append, List.reverse_reverse] at this
    rw [← this]
    conv => lhs; rw [hr]
    congr 1
    · congr 2
      rw [this]
    · unfold spL
      rw [List.reverse_replicate]
      congr 2
      rw [this]
  obtain ⟨k, hk⟩ := hl t.data.toList
  have z : (cutS t).data.toList = cutL t.data.toList := toL_mk _
  have z1 : (cutS t).size = (cutL t.data.toList).length := by rw [size_L, z]
  have z2 := congrArg List.length hk
  rw [List.length_append, spL_len, ← size_L] at z2
  rw [z, z1, show t.size - (cutL t.data.toList).length = k by omega]
  exact hk
theorem cut_last {t : ByteArray} {n : Nat} (hn : t.size = n + 1) (h : bt t n ≠ 32) : cutS t = t := by
  have e : t.data.toList.length = n + 1 := by rw [← size_L]; exact hn
  obtain ⟨l, x, hl⟩ : ∃ l x, t.data.toList = l ++ [x] := ⟨_, _, (List.dropLast_concat_getLast (by intro g; rw [g] at e; simp at e)).symm⟩
  have ll : l.length = n := by rw [hl] at e; simpa using e
  have b : bt t n = (x.toNat : Int) := bt_seg (A := l) (C := []) (by rw [hl]) ll
  have hx : x ≠ 32 := fun g => h (by rw [b, g]; rfl)
  unfold cutS
  rw [hl, cut_id hx, ← hl, mk_toL]
theorem bt_ext (s : ByteArray) (i j k : Nat) (hk : i + k < j) (hj : j ≤ s.size) : bt (s.extract i j) k = bt s (i + k) := by
  rw [bt_of _ k (by rw [ByteArray.size_extract]; omega), bt_of s (i + k) (by omega)]
  congr 2
  simp [ByteArray.getElem_eq_getElem_data]
theorem mag_back {t : ByteArray} {m : Int} (hz : t.size = 5) (h : MagIs t m) (h4 : bt t 4 ≠ 32) (h0 : -500 ≤ m) : t.data.toList = magL m ∧ m ≤ 3000 := by
  obtain ⟨a, b, c, d, e, rfl⟩ := five hz
  obtain ⟨q0, q1, q2, q3, q4⟩ := bt5 a b c d e
  unfold MagIs magN dgP at h
  rw [q0, q1, q2, q3, q4] at h
  rw [q4] at h4
  rw [if_neg h4] at h
  have hm : m ≤ 3000 := by omega
  refine ⟨?_, hm⟩
  obtain ⟨a', b', d', e', hl, hb, hd, he, ha⟩ := mag_list h0 hm
  rw [hl]
  have ex : ∀ {x y : UInt8}, (x.toNat : Int) = (y.toNat : Int) → x = y := fun g => UInt8.toNat_inj.1 (Int.ofNat.inj g)
  obtain ⟨n, hn⟩ : ∃ n : Int, ((m.natAbs : Nat) : Int) = n := ⟨_, rfl⟩
  have v : n = 100 * ((b.toNat : Int) - 48) + 10 * ((d.toNat : Int) - 48) + ((e.toNat : Int) - 48) + (if 1000 ≤ m then 1000 * ((a.toNat : Int) - 48) else 0) := by
    split <;> omega
  have k1 : c = 46 := ex h.1
  have kb : b = b' := ex (by split at v <;> omega)
  have kd : d = d' := ex (by split at v <;> omega)
  have ke : e = e' := ex (by split at v <;> omega)
  have ka : a = a' := ex (by split at v <;> omega)
  rw [k1, kb, kd, ke, ka]
theorem Clk.size {s : ByteArray} {h m c : Nat} {T : List UInt8} (k : Clk s h m c T) : s.size = 8 + (if T = [] then 0 else T.length + 1) := by
  rw [size_L, k.eq]
  by_cases hT : T = []
  · rw [if_pos hT, if_pos hT]; simp [decL_len]
  · rw [if_neg hT, if_neg hT]; simp [decL_len]; omega
theorem ra_decs {s : ByteArray} {v : Int} (a : Gp.RaIs s v 0) (h : s.size = 12) : decs s = 3 := by
  rcases a with ⟨hv, _⟩ | ⟨_, _, c⟩
  · obtain ⟨x, m, c, T, k⟩ := clk_of hv
    have := k.size
    rw [k.decs]
    split at this <;> omega
  · cases c
end Op
end Go.Proofs.YtgodhaphbgllhaaGreatDoor
/-
  Plain law of observations: the plan of the law ObsBack, joined; no walk here.
-/
namespace Go.Proofs.YtgodhaphbgllhaaGreatDoor
namespace Op
open Go.RowKit Lw Go.Proofs.YtgodhaphbgllhaaGreatDoor.Ap Go.Proofs.YtgodhaphbgllhaaGreatDoor.Mp Go.Proofs.YtgodhaphbgllhaaGreatDoor.At Go.Proofs.YtgodhaphbgllhaaGreatDoor.Ow Go.Proofs.YtgodhaphbgllhaaGreatDoor.Mw

theorem mark_sl {s : ByteArray} {o : Ob} (G : Good s o) : sl s 12 15 = [32, 32, 67] := by
  unfold sl
  rw [(mark_is G.size).2 G.mark]
theorem all_split {s : ByteArray} (h : s.size = 80) : s.data.toList = sl s 0 5 ++ (sl s 5 12 ++ (sl s 12 15 ++ (sl s 15 32 ++ (sl s 32 44 ++ (sl s 44 56 ++ (sl s 56 65 ++ (sl s 65 71 ++ (sl s 71 77 ++ sl s 77 80)))))))) := by
  have e : ∀ i j, i ≤ j → j ≤ 80 → s.data.toList.drop i = sl s i j ++ s.data.toList.drop j := fun i j a b => drop_split s i j a (by omega)
  have z : s.data.toList.drop 80 = [] := List.drop_of_length_le (by rw [← size_L]; omega)
  have d0 : s.data.toList.drop 0 = s.data.toList := List.drop_zero
  rw [← d0, e 0 5 (by omega) (by omega), e 5 12 (by omega) (by omega), e 12 15 (by omega) (by omega), e 15 32 (by omega) (by omega), e 32 44 (by omega) (by omega), e 44 56 (by omega) (by omega), e 56 65 (by omega) (by omega), e 65 71 (by omega) (by omega), e 71 77 (by omega) (by omega), e 77 80 (by omega) (by omega), z, List.append_nil]
theorem name_back {s : ByteArray} {o : Ob} (G : Good s o) : nameF o.name = sl s 0 5 ++ (sl s 5 12 ++ [32, 32]) := by
  have z0 : (s.extract 0 5).size = 5 := by rw [ByteArray.size_extract, G.size]; rfl
  have z5 : (s.extract 5 12).size = 7 := by rw [ByteArray.size_extract, G.size]; rfl
  unfold nameF
  rcases G.name with ⟨a, b, c⟩ | ⟨a, b, c, d⟩
  · rw [if_neg c]
    have e1 := blank_eq a
    rw [z0] at e1
    have e2 := cut_fill (s.extract 5 12)
    rw [z5, ← b] at e2
    have le : o.name.size ≤ 7 := by rw [b]; exact Nat.le_trans (cutS_le _) (by rw [z5]; omega)
    show _ = (s.extract 0 5).data.toList ++ ((s.extract 5 12).data.toList ++ [32, 32])
    rw [e1, e2, show 9 - o.name.size = (7 - o.name.size) + 2 by omega, spL_add]
    simp only [List.append_assoc]
    rfl
  · rw [if_pos c]
    have e2 := blank_eq d
    rw [z5] at e2
    show _ = (s.extract 0 5).data.toList ++ ((s.extract 5 12).data.toList ++ [32, 32])
    rw [e2, ← b]
    rfl
theorem mag_cols {s : ByteArray} {o : Ob} (G : Good s o) (h : bt s 67 = 32 ∨ bt s 69 ≠ 32) : magF o.mag o.band = sl s 65 71 := by
  have z : (s.extract 65 71).size = 6 := by rw [ByteArray.size_extract, G.size]; rfl
  have z5 : (s.extract 65 70).size = 5 := by rw [ByteArray.size_extract, G.size]; rfl
  unfold magF
  rcases G.mag with ⟨a, b, _⟩ | ⟨a, b, c⟩
  · rw [if_pos b]
    have := blank_eq a
    rw [z] at this
    exact this.symm
  · have t2 : bt (s.extract 65 70) 2 = bt s 67 := bt_ext s 65 70 2 (by omega) (by rw [G.size]; omega)
    have t4 : bt (s.extract 65 70) 4 = bt s 69 := bt_ext s 65 70 4 (by omega) (by rw [G.size]; omega)
    have h4 : bt (s.extract 65 70) 4 ≠ 32 := by
      rcases h with h | h
      · have := b.1
        rw [t2, h] at this
        omega
      · rw [t4]; exact h
    have lo : o.mag = 9999 ∨ -500 ≤ o.mag := by
      obtain ⟨_, _, _, _, _, _, _, _, _, _, m⟩ := G.ok
      unfold magP at m
      omega
    have lo2 : -500 ≤ o.mag := by
      rcases lo with h | h <;> omega
    obtain ⟨e, le⟩ := mag_back z5 b h4 lo2
    rw [if_neg (by omega), ← e]
    have e70 := drop_split s 70 71 (by omega) (by rw [G.size]; omega)
    have sp : sl s 65 71 = sl s 65 70 ++ sl s 70 71 := by
      have a1 := drop_split s 65 71 (by omega) (by rw [G.size]; omega)
      have a2 := drop_split s 65 70 (by omega) (by rw [G.size]; omega)
      rw [a2, e70, ← List.append_assoc] at a1
      exact (List.append_cancel_right a1).symm
    rw [sp]
    congr 1
    have l1 : (sl s 70 71).length = 1 := by unfold sl; rw [← size_L, ByteArray.size_extract, G.size]; rfl
    match hx : sl s 70 71, l1 with
    | [x], _ =>
      have b1 : bt (s.extract 70 71) 0 = bt s 70 := bt_ext s 70 71 0 (by omega) (by rw [G.size]; omega)
      rw [bt_L _ 0 (by rw [ByteArray.size_extract, G.size]; omega)] at b1
      have hx' : (s.extract 70 71).data.toList = [x] := hx
      rw [hx'] at b1
      have b2 : (x.toNat : Int) = o.band := by rw [c]; exact b1
      rw [← b2, Int.toNat_natCast, UInt8.ofNat_toNat]
/-- A line whose columns are full is the line of what is read from it. -/
theorem back_all {s : ByteArray} {o : Ob} {day : ByteArray} (G : Good s o) (h17 : (cutS (s.extract 15 32)).size = 17 → day = cutS (s.extract 15 32)) (h31 : bt s 31 ≠ 32) (h43 : bt s 43 ≠ 32) (h55 : bt s 55 ≠ 32) (h67 : bt s 67 = 32 ∨ bt s 69 ≠ 32) (nz : s.extract 44 56 ≠ negZ) : lineL day o = s.data.toList := by
  have hz := G.size
  have z1 : (s.extract 15 32).size = 16 + 1 := by rw [ByteArray.size_extract, hz]; rfl
  have z2 : (s.extract 32 44).size = 11 + 1 := by rw [ByteArray.size_extract, hz]; rfl
  have z3 : (s.extract 44 56).size = 11 + 1 := by rw [ByteArray.size_extract, hz]; rfl
  have z4 : (s.extract 56 65).size = 9 := by rw [ByteArray.size_extract, hz]; rfl
  have z5 : (s.extract 71 77).size = 6 := by rw [ByteArray.size_extract, hz]; rfl
  have c1 : cutS (s.extract 15 32) = s.extract 15 32 := cut_last z1 (by rw [bt_ext s 15 32 16 (by omega) (by omega)]; exact h31)
  have c2 : cutS (s.extract 32 44) = s.extract 32 44 := cut_last z2 (by rw [bt_ext s 32 44 11 (by omega) (by omega)]; exact h43)
  have c3 : cutS (s.extract 44 56) = s.extract 44 56 := cut_last z3 (by rw [bt_ext s 44 56 11 (by omega) (by omega)]; exact h55)
  have hd : day = s.extract 15 32 := by
    rw [c1] at h17
    exact h17 z1
  have gr := G.ra
  have gd := G.dec
  have gr3 := G.r
  have e3 := G.q
  rw [c2] at gr e3
  rw [c3] at gd gr3
  have k3 := ra_decs gr z2
  obtain ⟨N, n1, n2, n3⟩ := ra_form gr (by omega) (by omega)
  have eR : Gt.raL o.ra 3 = sl s 32 44 := by
    rw [n2, (ra_mul n1).1]
    exact (n3 k3).symm
  have d2 : decs (s.extract 44 56) = 2 := by
    have gd' := gd
    rcases gd' with ⟨⟨⟨zz, hs⟩, hv, _⟩, _⟩ | ⟨_, _, c⟩
    · have zl : (s.extract 44 56).data.toList.length = 12 := by rw [← size_L]; exact z3
      obtain ⟨x, l, hl, _⟩ := cons_of (l := (s.extract 44 56).data.toList) (n := 0) (by omega)
      have es : s.extract 44 56 = ⟨(x :: l).toArray⟩ := by rw [← hl, mk_toL]
      have et : Gp.tailOf (s.extract 44 56) = ⟨l.toArray⟩ := by rw [es, Gp.tail_mk]
      have eg : (s.extract 44 56).get! 0 = x := by rw [es, Gp.get0]
      rw [et] at hv
      rw [eg] at hs
      obtain ⟨h, m, c, T, k⟩ := clk_of hv
      have ksz := k.size
      rw [size_mk] at ksz
      have ll : l.length = 11 := by rw [hl] at zl; simpa using zl
      have keq := k.eq
      rw [toL_mk] at keq
      have x46 : x ≠ 46 := fun e => by
        rw [e] at hs
        revert hs; decide
      by_cases hT : T = []
      · rw [if_pos hT] at ksz; omega
      · rw [if_neg hT] at ksz keq
        rw [es, keq]
        have : x :: (decL h 2 ++ ([32] ++ (decL m 2 ++ ([32] ++ (decL c 2 ++ 46 :: T))))) = (x :: (decL h 2 ++ ([32] ++ (decL m 2 ++ ([32] ++ decL c 2))))) ++ 46 :: T := by simp
        rw [this, decs_app (fun z hz => by
          rcases List.mem_cons.1 hz with rfl | hz
          · exact x46
          · exact pre_ne46 h m c z hz)]
        omega
    · cases c
  obtain ⟨R, r1, r2, r3⟩ := dec_form gd gr3
  have eD : Gt.decL o.dec 2 = sl s 44 56 := by
    rw [(dec_mul r1 r2).1]
    exact (r3 d2 nz).symm
  have eN := name_back G
  have eM := mag_cols G h67
  have s56 := blank_eq G.b1
  rw [z4] at s56
  have s71 := blank_eq G.b2
  rw [z5] at s71
  rw [all_split hz, mark_sl G]
  unfold lineL
  rw [eN, eR, eD, eM, hd, G.site]
  show _ = (s.extract 0 5).data.toList ++ ((s.extract 5 12).data.toList ++ ([32, 32, 67] ++ ((s.extract 15 32).data.toList ++ ((s.extract 32 44).data.toList ++ ((s.extract 44 56).data.toList ++ ((s.extract 56 65).data.toList ++ ((s.extract 65 71).data.toList ++ ((s.extract 71 77).data.toList ++ (s.extract 77 80).data.toList))))))))
  rw [s56, s71]
  simp only [List.append_assoc, List.cons_append, List.nil_append]
/-- All that the law ObsBack asks of a string. -/
theorem back_plan {s : ByteArray} {o : Ob} (G : Good s o) : ∃ T : ByteArray, PrintIs o T 0 ∧ ObsIs T (fine o) 0 ∧ T.size = 80 ∧
    (bt s 31 ≠ 32 → bt s 43 ≠ 32 → bt s 55 ≠ 32 → (bt s 67 = 32 ∨ bt s 69 ≠ 32) → s.extract 44 56 ≠ negZ → T = s) := by
  have ok := G.ok
  have zD : (cutS (s.extract 15 32)).size ≤ 17 := Nat.le_trans (cutS_le _) (by rw [ByteArray.size_extract]; omega)
  obtain ⟨day, d1, d2, d3⟩ := day_six G.day (by omega)
  obtain ⟨N, n1, n2, _⟩ := ra_form G.ra G.q.1 G.q.2
  obtain ⟨R, r1, r2, _⟩ := dec_form G.dec G.r
  have rd := fine_rnd ok d1 d2 ⟨N, n2⟩ ⟨R, r2⟩
  obtain ⟨_, _, _, S⟩ := line_seg ok d1
  refine ⟨⟨(lineL day o).toArray⟩, Or.inl ⟨ok, ⟨day, d1, rfl⟩, rfl⟩, Or.inl ⟨line_good ok d1 rd, rfl⟩, S.size, fun a b c d e => ?_⟩
  rw [back_all G d3 a b c d e, mk_toL]
end Op
end Go.Proofs.YtgodhaphbgllhaaGreatDoor
/-
  The walk of the law ObsBack.
-/
namespace Go.Proofs.YtgodhaphbgllhaaGreatDoor
namespace Ow
open Go.RowKit Lw Go.Proofs.YtgodhaphbgllhaaGreatDoor.Ap Go.Proofs.YtgodhaphbgllhaaGreatDoor.Op Go.Proofs.YtgodhaphbgllhaaGreatDoor.Mp Go.Proofs.YtgodhaphbgllhaaGreatDoor.Mw Go.Proofs.YtgodhaphbgllhaaGreatDoor.At

set_option maxRecDepth 100000 in
set_option maxHeartbeats 40000000 in
theorem back_long (s : ByteArray) (w : World) (hT : Gt.Tab w) (hE : ES w) (hs : s.size ≤ maxLen) (h : 200 < s.size) : Calls Tryz.prog 4 #[.string s] w fun e w' => e = .returned (.bool true) ∧ Below w.heap.size w w' := by
  have HT := Lib.hid hT
  have HE := Lib.hid hE
  have AL := Lib.hid (fun w' (h : Gt.Tab w') (g : ES w') => alive_any w' h g)
  have h' : (200 : Int) < s.size := by omega
  clear hT hE h
  go_enter Tryz.func4, Tryz.ntmps4
  go_wp2_with fail
  refine (AL.out _ HT.out HE.out).mono ?_
  rintro e w1 ⟨rfl, hb⟩
  have B1 := Lib.hid hb
  clear hb AL
  go_wp2_with fail
  go_ret
  exact ⟨rfl, B1.out⟩
set_option maxRecDepth 100000 in
set_option maxHeartbeats 40000000 in
theorem back_bad (s : ByteArray) (w : World) (hT : Gt.Tab w) (hE : ES w) (hs : s.size ≤ maxLen) (h : s.size ≤ 200) (no : ∀ x, ¬ Go.Proofs.YtgodhaphbgllhaaGreatDoor.Op.Good s x) : Calls Tryz.prog 4 #[.string s] w fun e w' => e = .returned (.bool true) ∧ Below w.heap.size w w' := by
  have HT := Lib.hid hT
  have HE := Lib.hid hE
  have AL := Lib.hid (fun w' (h : Gt.Tab w') (g : ES w') => alive_any w' h g)
  have PA := Lib.hid (fun w' (g : ES w') => obs_parse_any s w' g hs)
  have h' : (s.size : Int) ≤ 200 := by omega
  have N : Hid (ObsIs s ⟨⟨#[]⟩, ⟨#[]⟩, 0, 0, 0, 0, 0, 0⟩ 12) := Lib.hid (obs_no no)
  clear hT hE h hs no
  go_enter Tryz.func4, Tryz.ntmps4
  go_wp2_with fail
  refine (AL.out _ HT.out HE.out).mono ?_
  rintro e w1 ⟨rfl, hb⟩
  have B1 := Lib.hid hb
  clear hb AL
  go_wp2_with fail
  refine (PA.out _ (HE.out.below B1.out)).mono ?_
  rintro e w2 ⟨o, c, rfl, hP, hb⟩
  obtain ⟨rfl, rfl⟩ := hP.uniq N.out
  have b2 := Lib.hid (below_then B1.out (hb.alloc hb.size (.cells (obsC ⟨⟨#[]⟩, ⟨#[]⟩, 0, 0, 0, 0, 0, 0⟩).toArray 23)))
  clear hb hP PA N HT HE B1
  go_wp2_with (refine wpList_store_new rfl _ (.tmp 4) (.tmp 23) rfl _ _ rfl rfl info8 rfl ?_ ?_; simp [Value.oneCell'])
  go_ret
  exact ⟨by first | rfl | simp, b2.out⟩
set_option maxRecDepth 100000 in
set_option maxHeartbeats 40000000 in
theorem back_good (s : ByteArray) (w : World) (hT : Gt.Tab w) (hE : ES w) (hs : s.size ≤ maxLen) (h : s.size ≤ 200) {o : Ob} (G : Go.Proofs.YtgodhaphbgllhaaGreatDoor.Op.Good s o) : Calls Tryz.prog 4 #[.string s] w fun e w' => e = .returned (.bool true) ∧ Below w.heap.size w w' := by
  have HT := Lib.hid hT
  have HE := Lib.hid hE
  have AL := Lib.hid (fun w' (h : Gt.Tab w') (g : ES w') => alive_any w' h g)
  have PA := Lib.hid (fun w' (g : ES w') => obs_parse_any s w' g hs)
  have h' : (s.size : Int) ≤ 200 := by omega
  obtain ⟨T, p1, p2, zT, TS⟩ := back_plan G
  have obo := ok_ob G.ok
  have N := Lib.hid (show ObsIs s o 0 from Or.inl ⟨G, rfl⟩)
  have PR := Lib.hid (fun w' (h : Gt.Tab w') (g : ES w') => print_any o w' h g obo)
  have PT := Lib.hid (fun w' (g : ES w') => obs_parse_any T w' g (by rw [zT]; decide))
  have Q1 := Lib.hid p1
  have Q2 := Lib.hid p2
  have z80 := G.size
  have zT' : (T.size : Int) = 80 := by rw [zT]; rfl
  have i31 : (31 : Nat) < s.size := by omega
  have c31 := bt_of s 31 i31
  obtain ⟨b31, e31⟩ : ∃ b : Int, ((s[31]'i31).toNat : Int) = b := ⟨_, rfl⟩
  rw [c31, e31] at TS
  clear c31
  have i43 : (43 : Nat) < s.size := by omega
  have c43 := bt_of s 43 i43
  obtain ⟨b43, e43⟩ : ∃ b : Int, ((s[43]'i43).toNat : Int) = b := ⟨_, rfl⟩
  rw [c43, e43] at TS
  clear c43
  have i55 : (55 : Nat) < s.size := by omega
  have c55 := bt_of s 55 i55
  obtain ⟨b55, e55⟩ : ∃ b : Int, ((s[55]'i55).toNat : Int) = b := ⟨_, rfl⟩
  rw [c55, e55] at TS
  clear c55
  have i67 : (67 : Nat) < s.size := by omega
  have c67 := bt_of s 67 i67
  obtain ⟨b67, e67⟩ : ∃ b : Int, ((s[67]'i67).toNat : Int) = b := ⟨_, rfl⟩
  rw [c67, e67] at TS
  clear c67
  have i69 : (69 : Nat) < s.size := by omega
  have c69 := bt_of s 69 i69
  obtain ⟨b69, e69⟩ : ∃ b : Int, ((s[69]'i69).toNat : Int) = b := ⟨_, rfl⟩
  rw [c69, e69] at TS
  clear c69
  obtain ⟨K, hK⟩ : ∃ K, s.extract 44 56 = K := ⟨_, rfl⟩
  rw [hK] at TS
  have TS := Lib.hid TS
  have z81 : (s.size : Int) = 80 := by rw [z80]; rfl
  clear hT hE h hs p1 p2 zT obo z80 G h'
  obtain ⟨nm, st, tt, ra, dec, sg, mg, bd⟩ := o
  go_enter Tryz.func4, Tryz.ntmps4
  go_wp2_with fail
  refine (AL.out _ HT.out HE.out).mono ?_
  rintro e w1 ⟨rfl, hb⟩
  have B1 := Lib.hid hb
  clear hb AL
  go_wp2_with fail
  refine (PA.out _ (HE.out.below B1.out)).mono ?_
  rintro e w2 ⟨o, c, rfl, hP, hb⟩
  obtain ⟨rfl, rfl⟩ := hP.uniq N.out
  have b2 := Lib.hid (below_then B1.out (hb.alloc hb.size (.cells (obsC ⟨nm, st, tt, ra, dec, sg, mg, bd⟩).toArray 23)))
  have X2 := Lib.hid (Box.new w2 ⟨nm, st, tt, ra, dec, sg, mg, bd⟩)
  have lw := (below_then B1.out hb).size
  clear hb hP PA N B1
  go_wp2_with (first | (refine wpList_store_new rfl _ (.tmp 4) (.tmp 23) rfl _ _ rfl rfl info8 rfl ?_ ?_; simp [Value.oneCell']) | (refine wpList_load_mid rfl _ (.tmp 4) rfl w2.heap.size 0 rfl (obsC ⟨nm, st, tt, ra, dec, sg, mg, bd⟩) _ X2.out.row Tryz.underlying23 rfl info8 ?_))
  refine (PR.out _ (HT.out.below b2.out) (HE.out.below b2.out)).mono ?_
  rintro e w3 ⟨T', c, rfl, hP, hb⟩
  obtain ⟨rfl, rfl⟩ := hP.uniq Q1.out
  have b3 := Lib.hid (below_then b2.out hb)
  have X3 := Lib.hid (X2.out.call hb)
  clear hb hP PR Q1 b2 X2
  go_wp2_with fail
  refine (PT.out _ (HE.out.below b3.out)).mono ?_
  rintro e w4 ⟨q, c, rfl, hP, hb⟩
  have hP' : ObsIs T' ⟨nm, st, tt, ra, dec, 100000, mg, bd⟩ 0 := Q2.out
  obtain ⟨rfl, rfl⟩ := hP.uniq hP'
  have X4 := X3.out.call hb
  have b5 := Lib.hid ((below_then b3.out hb).alloc (below_then b3.out hb).size (.cells (obsC ⟨nm, st, tt, ra, dec, sg, mg, bd⟩).toArray 23))
  have lt4 := X4.lt
  have q0 := X4.row 0 _ rfl
  have q1 := X4.row 1 _ rfl
  have q2 := X4.row 2 _ rfl
  have q3 := X4.row 3 _ rfl
  have q4 := X4.row 4 _ rfl
  have q5 := X4.row 5 _ rfl
  have q6 := X4.row 6 _ rfl
  have q7 := X4.row 7 _ rfl
  simp only [Nat.zero_add] at q0 q1 q2 q3 q4 q5 q6 q7
  clear hb hP PT Q2 b3 X3 hP' X4 HT HE
  go_upto_region 12 with (refine wpList_store_new rfl _ (.tmp 8) (.tmp 45) rfl _ _ rfl rfl info8 rfl ?_ ?_; simp [Value.oneCell'])
  generalize (w4.alloc _) = wF at *
  clear q0 q1 q2 q3 q4 q5 q6 q7 lt4
  have cut0 : ∀ (b : Bool), (b = true → T' = s) → ∃ b' : Bool, Value.bool b = .bool b' ∧ (b' = true → T' = s) := fun b h => ⟨b, rfl, h⟩
  go_cut [10] (fun q wx => (∃ b : Bool, q = .bool b ∧ (b = true → T' = s)) ∧ wF = wx)
  case first =>
    have kk : ¬ K.toList = [45, 48, 48, 32, 48, 48, 32, 48, 48, 46, 48, 48] → K ≠ negZ := fun h g => h (by rw [g, Lib.toList_data]; rfl)
    have TS2 := Lib.hid (fun a b c d e => TS.out a b c d (kk e))
    clear TS kk
    go_wp2_with fail
    all_goals
      go_meet
      refine ⟨⟨_, rfl, fun h => ?_⟩, by first | rfl | trivial⟩
      first
        | (simp at h; done)
        | (simp at h; exact TS2.out h.1.1.1.1 h.1.1.1.2 h.1.1.2 h.1.2 h.2)
        | (simp at h; exact TS2.out h.1.1.1 h.1.1.2 h.1.2 (Or.inl (by assumption)) h.2)
        | (simp at h; exact TS2.out h.1.1.1.1 h.1.1.1.2 h.1.1.2 (Or.inr h.1.2) h.2)
        | (simp at h; exact TS2.out h.1.1.1 h.1.1.2 h.1.2 (Or.inr (by assumption)) h.2)
  case rest =>
    obtain ⟨⟨b, rfl, hb⟩, rfl⟩ := hcut
    clear e31 e43 e55 e67 e69 hK TS cut0
    cases b
    · clear hb
      go_wp2_with fail
      go_ret
      exact ⟨by first | rfl | simp, b5.out⟩
    · obtain rfl := hb rfl
      clear hb
      go_wp2_with fail
      go_ret
      exact ⟨by first | rfl | simp, b5.out⟩
theorem obsback_any (s : ByteArray) (w : World) (hT : Gt.Tab w) (hE : ES w) (hs : s.size ≤ maxLen) : Calls Tryz.prog 4 #[.string s] w fun e w' => e = .returned (.bool true) ∧ Below w.heap.size w w' := by
  by_cases h : 200 < s.size
  · exact back_long s w hT hE hs h
  · by_cases g : ∃ x, Go.Proofs.YtgodhaphbgllhaaGreatDoor.Op.Good s x
    · obtain ⟨o, g⟩ := g
      exact back_good s w hT hE hs (by omega) g
    · exact back_bad s w hT hE hs (by omega) (fun x hx => g ⟨x, hx⟩)
end Ow
end Go.Proofs.YtgodhaphbgllhaaGreatDoor
