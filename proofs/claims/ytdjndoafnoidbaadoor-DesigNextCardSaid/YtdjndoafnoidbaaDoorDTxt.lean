/-
  Plain facts on the texts and packed forms of designations: digits, numerals, what a text is read as; no program in sight.
-/
import Derived.Test.YtdjndoafnoidbaaDoorDPl
import Derived.Lib.ItoaLen
import Derived.Lib.Repeat
import Derived.Lib.ItoaNum
namespace Go.Proofs.YtdjndoafnoidbaaDoor
namespace Dp
open Go.RowKit

/-- What one of the 62 digits stands for; 99: it is none. -/
def worthN (c : UInt8) : Nat := if 48 ≤ c.toNat ∧ c.toNat ≤ 57 then c.toNat - 48 else if 65 ≤ c.toNat ∧ c.toNat ≤ 90 then c.toNat - 55 else if 97 ≤ c.toNat ∧ c.toNat ≤ 122 then c.toNat - 61 else 99
def dig62 (n : Nat) : UInt8 := UInt8.ofNat (if n < 10 then 48 + n else if n < 36 then 55 + n else 61 + n)
theorem worth_dig : ∀ n, n < 62 → worthN (dig62 n) = n := by decide
theorem dig62_lt {n : Nat} (h : n < 10) : dig62 n = UInt8.ofNat (48 + n) := by unfold dig62; rw [if_pos h]
def valN (b : Nat) (l : List UInt8) : Nat := l.foldl (fun n c => n * b + worthN c) 0
def allW (b : Nat) (l : List UInt8) : Prop := ∀ c ∈ l, worthN c < b
instance (b : Nat) (l : List UInt8) : Decidable (allW b l) := by unfold allW; infer_instance
theorem valN_snoc (b : Nat) (l : List UInt8) (c : UInt8) : valN b (l ++ [c]) = valN b l * b + worthN c := by simp [valN]
theorem allW_snoc {b : Nat} {l : List UInt8} {c : UInt8} (h : allW b l) (h1 : worthN c < b) : allW b (l ++ [c]) := fun x hx => by
  rcases List.mem_append.1 hx with g | g
  · exact h x g
  · have := List.mem_singleton.1 g; subst this; exact h1
theorem allW_head {b : Nat} {l : List UInt8} {c : UInt8} (h : allW b (c :: l)) : worthN c < b := h c (List.mem_cons_self ..)
theorem allW_tail {b : Nat} {l : List UInt8} {c : UInt8} (h : allW b (c :: l)) : allW b l := fun x hx => h x (List.mem_cons_of_mem _ hx)
theorem allW_nil (b : Nat) : allW b [] := fun c hc => absurd hc (by simp)
theorem allW_cons {b : Nat} {l : List UInt8} {c : UInt8} (h1 : worthN c < b) (h : allW b l) : allW b (c :: l) := fun x hx => by
  rcases List.mem_cons.1 hx with rfl | g
  · exact h1
  · exact h x g
theorem dd_val (u : Nat) : valN 10 (Lib.decDigits u) = u ∧ allW 10 (Lib.decDigits u) := by
  induction u using Nat.strongRecOn with
  | _ u ih =>
    by_cases h : u < 10
    · rw [Lib.decDigits_one h, ← dig62_lt h]
      have e := worth_dig u (by omega)
      refine ⟨by unfold valN; simp only [List.foldl_cons, List.foldl_nil]; omega, fun c hc => ?_⟩
      rw [List.mem_singleton.1 hc]
      omega
    · rw [Lib.decDigits, dif_neg h, ← dig62_lt (Nat.mod_lt u (by omega))]
      obtain ⟨h1, h2⟩ := ih (u / 10) (by omega)
      have e := worth_dig (u % 10) (by omega)
      exact ⟨by rw [valN_snoc, h1]; omega, allW_snoc h2 (by omega)⟩
theorem itoa_nat (r : Nat) : Lib.itoa (r : Int) = Lib.decDigits r := by
  unfold Lib.itoa
  rw [if_neg (by omega), Int.toNat_natCast]
/-- A number with at least so many digits. -/
def padL (n : Int) (d : Nat) : List UInt8 := Lib.repeatL [48] (d - (Lib.itoa n).length) ++ Lib.itoa n
theorem rep_len (k : Nat) : (Lib.repeatL [48] k).length = k := by
  induction k with
  | zero => rfl
  | succ k ih => simp_all [Lib.repeatL]
theorem rep_val (b : Nat) (hb : 0 < b) (k : Nat) : valN b (Lib.repeatL [48] k) = 0 ∧ allW b (Lib.repeatL [48] k) := by
  induction k with
  | zero => exact ⟨rfl, fun c hc => by simp [Lib.repeatL] at hc⟩
  | succ k ih =>
    have e : Lib.repeatL [48] (k + 1) = 48 :: Lib.repeatL [48] k := rfl
    rw [e]
    refine ⟨?_, allW_cons hb ih.2⟩
    have := ih.1
    unfold valN at this ⊢
    rw [List.foldl_cons, show 0 * b + worthN 48 = 0 by rw [Nat.zero_mul]; decide]
    exact this
theorem pad_val (r d : Nat) : valN 10 (padL (r : Int) d) = r ∧ allW 10 (padL (r : Int) d) := by
  have h1 := dd_val r
  rw [← itoa_nat] at h1
  have h2 := rep_val 10 (by omega) (d - (Lib.itoa (r : Int)).length)
  refine ⟨?_, fun c hc => ?_⟩
  · unfold padL valN
    rw [List.foldl_append]
    have e2 := h2.1
    have e1 := h1.1
    unfold valN at e1 e2
    rw [e2, e1]
  · rcases List.mem_append.1 hc with g | g
    · exact h2.2 c g
    · exact h1.2 c g
theorem nd_le : ∀ (d r : Nat), r < 10 ^ (d + 1) → Lib.nDigits r ≤ d + 1
  | 0, r, h => by rw [Lib.nDigits_small (by simpa using h)]; exact Nat.le_refl _
  | d + 1, r, h => by
    by_cases g : r < 10
    · rw [Lib.nDigits_small g]; omega
    · rw [Lib.nDigits_big g]
      have := nd_le d (r / 10) (by rw [Nat.pow_succ] at h; omega)
      omega
theorem itoa_len (r d : Nat) (h : r < 10 ^ (d + 1)) : 1 ≤ (Lib.itoa (r : Int)).length ∧ (Lib.itoa (r : Int)).length ≤ d + 1 := by
  rw [itoa_nat, Lib.decDigits_length]
  exact ⟨Lib.nDigits_pos r, nd_le d r h⟩
theorem pad_size (r d : Nat) (h : r < 10 ^ (d + 1)) : (padL (r : Int) (d + 1)).length = d + 1 := by
  have h1 := itoa_len r d h
  unfold padL
  rw [List.length_append, rep_len]
  omega
theorem pad_none (r d : Nat) (h : d ≤ 1) : padL (r : Int) d = Lib.itoa (r : Int) := by
  have h1 := Lib.nDigits_pos r
  unfold padL
  rw [show d - (Lib.itoa (r : Int)).length = 0 by rw [itoa_nat, Lib.decDigits_length]; omega]
  rfl
/-- A designation. -/
structure Dg where
  n : Int
  y : Int
  h : Int
  s : Int
  c : Int
abbrev okG (d : Dg) : Prop := okD d.n d.y d.h d.s d.c
abbrev zeroG : Dg := ⟨0, 0, 0, 0, 0⟩
def b8 (x : Int) : UInt8 := UInt8.ofNat x.toNat
theorem b8_of {x : Int} (h0 : 0 ≤ x) (h1 : x < 256) : ((b8 x).toNat : Int) = x := by
  unfold b8
  rw [UInt8.toNat_ofNat']
  omega
theorem half_bd {h : Int} (g : halfP h) : 0 ≤ h ∧ h < 256 := by unfold halfP at g; omega
theorem sec_bd {h : Int} (g : secP h) : 0 ≤ h ∧ h < 256 := by unfold secP at g; omega
/-- The text of a designation. -/
def textG (d : Dg) : List UInt8 := if 0 < d.n then Lib.itoa d.n else Lib.itoa d.y ++ [32, b8 d.h, b8 d.s] ++ (if 0 < d.c then Lib.itoa d.c else [])
/-- A number of 620,000 and more is packed less these. -/
def lessL (n : Int) : Nat := (n - 620000).toNat
theorem lessL_is {n : Int} (h : 620000 ≤ n) : (lessL n : Int) = n - 620000 := by unfold lessL; omega
def bigL (m : Nat) : List UInt8 := [126, dig62 (m / 238328), dig62 (m / 3844 % 62), dig62 (m / 62 % 62), dig62 (m % 62)]
theorem bigL_is (m : Nat) (h : m < 14776336) : allW 62 [dig62 (m / 238328), dig62 (m / 3844 % 62), dig62 (m / 62 % 62), dig62 (m % 62)] ∧ valN 62 [dig62 (m / 238328), dig62 (m / 3844 % 62), dig62 (m / 62 % 62), dig62 (m % 62)] = m := by
  have a1 := worth_dig (m / 238328) (by omega)
  have a2 := worth_dig (m / 3844 % 62) (by omega)
  have a3 := worth_dig (m / 62 % 62) (by omega)
  have a4 := worth_dig (m % 62) (by omega)
  refine ⟨allW_cons (by omega) (allW_cons (by omega) (allW_cons (by omega) (allW_cons (by omega) (allW_nil _)))), ?_⟩
  simp only [valN, List.foldl_cons, List.foldl_nil, a1, a2, a3, a4]
  omega
/-- The packed form of a designation. -/
def packG (d : Dg) : List UInt8 :=
  if 620000 ≤ d.n then bigL (lessL d.n)
  else if 0 < d.n then dig62 (d.n.toNat / 10000) :: padL ((d.n.toNat % 10000 : Nat) : Int) 4
  else b8 (d.y / 100 + 55) :: (padL ((d.y.toNat % 100 : Nat) : Int) 2 ++ [b8 d.h, dig62 (d.c.toNat / 10), dig62 (d.c.toNat % 10), b8 d.s])
theorem len4 {l : List UInt8} (h : l.length = 4) : ∃ a b c e, l = [a, b, c, e] := by
  match l, h with
  | [a, b, c, e], _ => exact ⟨a, b, c, e, rfl⟩
theorem len2 {l : List UInt8} (h : l.length = 2) : ∃ a b, l = [a, b] := by
  match l, h with
  | [a, b], _ => exact ⟨a, b, rfl⟩
theorem text_shape {d : Dg} (g : okG d) :
    (d.y = 0 ∧ d.h = 0 ∧ d.s = 0 ∧ d.c = 0 ∧ 0 < d.n ∧ allW 10 (textG d) ∧ (valN 10 (textG d) : Int) = d.n ∧ 1 ≤ (textG d).length ∧ (textG d).length ≤ 8) ∨
    (d.n = 0 ∧ halfP d.h ∧ secP d.s ∧ ∃ a b c e r, textG d = a :: b :: c :: e :: 32 :: b8 d.h :: b8 d.s :: r ∧ allW 10 [a, b, c, e] ∧ (valN 10 [a, b, c, e] : Int) = d.y ∧ allW 10 r ∧ r.length ≤ 3 ∧ (valN 10 r : Int) = d.c) := by
  obtain ⟨n, y, h, s, c⟩ := d
  unfold okG okD at g
  simp only at g
  rcases g with ⟨g1, rfl, rfl, rfl, rfl, g2, g3⟩ | ⟨rfl, g1, g2, g3, g4, g5, g6⟩
  · left
    obtain ⟨m, rfl⟩ := Int.eq_ofNat_of_zero_le (show 0 ≤ n by omega)
    unfold textG
    rw [if_pos g2]
    have h1 := dd_val m
    have h2 := itoa_len m 7 (by omega)
    rw [← itoa_nat] at h1
    exact ⟨rfl, rfl, rfl, rfl, g2, h1.2, by rw [h1.1], h2.1, h2.2⟩
  · right
    obtain ⟨v, rfl⟩ := Int.eq_ofNat_of_zero_le (show 0 ≤ y by omega)
    obtain ⟨k, rfl⟩ := Int.eq_ofNat_of_zero_le g5
    have h1 := pad_val v 4
    have h2 := pad_size v 3 (by omega)
    have h3 : padL (v : Int) 4 = Lib.itoa (v : Int) := by
      unfold padL
      have : 4 ≤ (Lib.itoa (v : Int)).length := by
        rw [itoa_nat, Lib.decDigits_length]
        exact Nat.le_of_eq (Lib.nDigits_unique 3 v (by omega) (by omega)).symm
      rw [show 4 - (Lib.itoa (v : Int)).length = 0 by omega]
      rfl
    rw [h3] at h1 h2
    obtain ⟨a, b, e, f, ee⟩ := len4 h2
    rw [ee] at h1
    refine ⟨rfl, g3, g4, a, b, e, f, if 0 < (k : Int) then Lib.itoa (k : Int) else [], ?_, h1.2, by rw [h1.1], ?_⟩
    · unfold textG
      rw [if_neg (by simp), ee]
      rfl
    · by_cases hk : 0 < (k : Int)
      · rw [if_pos hk]
        have h4 := dd_val k
        have h5 := itoa_len k 2 (by omega)
        rw [← itoa_nat] at h4
        exact ⟨h4.2, h5.2, by rw [h4.1]⟩
      · rw [if_neg hk]
        refine ⟨allW_nil 10, by simp, ?_⟩
        simp only [valN, List.foldl_nil]
        omega
theorem pack_shape {d : Dg} (g : okG d) :
    (d.y = 0 ∧ d.h = 0 ∧ d.s = 0 ∧ d.c = 0 ∧ ∃ a b c e, packG d = [126, a, b, c, e] ∧ allW 62 [a, b, c, e] ∧ (valN 62 [a, b, c, e] : Int) + 620000 = d.n) ∨
    (d.y = 0 ∧ d.h = 0 ∧ d.s = 0 ∧ d.c = 0 ∧ ∃ x a b c e, packG d = [x, a, b, c, e] ∧ worthN x < 62 ∧ allW 10 [a, b, c, e] ∧ 10000 * (worthN x : Int) + (valN 10 [a, b, c, e] : Int) = d.n) ∨
    (d.n = 0 ∧ halfP d.h ∧ secP d.s ∧ ∃ x a b f e, packG d = [x, a, b, b8 d.h, f, e, b8 d.s] ∧ 73 ≤ x.toNat ∧ x.toNat ≤ 75 ∧ allW 10 [a, b] ∧ worthN f < 62 ∧ worthN e < 10 ∧ 100 * (18 + ((x.toNat : Int) - 73)) + (valN 10 [a, b] : Int) = d.y ∧ 10 * (worthN f : Int) + worthN e = d.c) := by
  obtain ⟨n, y, h, s, c⟩ := d
  unfold okG okD at g
  simp only at g
  rcases g with ⟨g1, rfl, rfl, rfl, rfl, g2, g3⟩ | ⟨rfl, g1, g2, g3, g4, g5, g6⟩
  · obtain ⟨m, rfl⟩ := Int.eq_ofNat_of_zero_le (show 0 ≤ n by omega)
    by_cases hl : 620000 ≤ (m : Int)
    · left
      have hm := lessL_is hl
      have hb := bigL_is (lessL m) (by omega)
      refine ⟨rfl, rfl, rfl, rfl, _, _, _, _, ?_, hb.1, ?_⟩
      · unfold packG
        rw [if_pos hl]
        rfl
      · rw [hb.2, hm]
        show (m : Int) - 620000 + 620000 = (m : Int)
        omega
    · right; left
      have h1 := pad_val (m % 10000) 4
      have h2 := pad_size (m % 10000) 3 (by omega)
      obtain ⟨a, b, e, f, ee⟩ := len4 h2
      rw [ee] at h1
      have h3 := worth_dig (m / 10000) (by omega)
      refine ⟨rfl, rfl, rfl, rfl, dig62 (m / 10000), a, b, e, f, ?_, by omega, h1.2, by rw [h1.1, h3]; show _ = (m : Int); omega⟩
      unfold packG
      rw [if_neg hl, if_pos g2]
      simp only [Int.toNat_natCast]
      rw [ee]
  · right; right
    obtain ⟨v, rfl⟩ := Int.eq_ofNat_of_zero_le (show 0 ≤ y by omega)
    obtain ⟨k, rfl⟩ := Int.eq_ofNat_of_zero_le g5
    have h1 := pad_val (v % 100) 2
    have h2 := pad_size (v % 100) 1 (by omega)
    obtain ⟨a, b, ee⟩ := len2 h2
    rw [ee] at h1
    have hx := b8_of (x := (v : Int) / 100 + 55) (by omega) (by omega)
    have hf := worth_dig (k / 10) (by omega)
    have he := worth_dig (k % 10) (by omega)
    refine ⟨rfl, g3, g4, b8 ((v : Int) / 100 + 55), a, b, dig62 (k / 10), dig62 (k % 10), ?_, by omega, by omega, h1.2, by omega, by omega, by rw [h1.1]; show _ = (v : Int); omega, by show _ = (k : Int); omega⟩
    unfold packG
    rw [if_neg (by simp), if_neg (by simp)]
    simp only [Int.toNat_natCast]
    rw [ee]
    rfl
/-- The number that decimal digits stand for, or -1: they are none, or too many. -/
def valR (l : List UInt8) : Int := if 1 ≤ l.length ∧ l.length ≤ 8 ∧ allW 10 l then (valN 10 l : Int) else -1
theorem valR_yes {l : List UInt8} (h1 : 1 ≤ l.length) (h2 : l.length ≤ 8) (h : allW 10 l) : valR l = valN 10 l := if_pos ⟨h1, h2, h⟩
theorem valR_no {l : List UInt8} (h : ¬ allW 10 l) : valR l = -1 := if_neg (fun g => h g.2.2)
theorem not_all {b : Nat} {l : List UInt8} {c : UInt8} (hc : c ∈ l) (h : ¬ worthN c < b) : ¬ allW b l := fun g => h (g c hc)
/-- The designation that a text is, if it is one. -/
def candT (l : List UInt8) : Dg := if 0 ≤ valR l then ⟨valR l, 0, 0, 0, 0⟩ else if l.length < 7 then zeroG else ⟨0, valR (l.take 4), ((l.getD 5 0).toNat : Int), ((l.getD 6 0).toNat : Int), if 7 < l.length then valR (l.drop 7) else 0⟩
theorem cand_text {d : Dg} (g : okG d) : candT (textG d) = d := by
  rcases text_shape g with ⟨h1, h2, h3, h4, h5, h6, h7, h8, h9⟩ | ⟨h1, h2, h3, a, b, c, e, r, h4, h5, h6, h7, h8, h9⟩
  · unfold candT
    rw [valR_yes h8 h9 h6, if_pos (by omega), h7]
    obtain ⟨n, y, h, s, c⟩ := d
    simp only at h1 h2 h3 h4
    rw [h1, h2, h3, h4]
  · unfold candT
    rw [h4, valR_no (not_all (c := 32) (by simp) (by decide)), if_neg (by omega), if_neg (by simp)]
    obtain ⟨n, y, h, s, k⟩ := d
    simp only at h1 h2 h3 h4 h6 h9
    have e1 := b8_of (half_bd h2).1 (half_bd h2).2
    have e2 := b8_of (sec_bd h3).1 (sec_bd h3).2
    have e3 : valR [a, b, c, e] = y := by rw [valR_yes (by simp) (by simp) h5, h6]
    simp only [List.take_succ_cons, List.take_zero, List.drop_succ_cons, List.drop_zero, List.getD_cons_succ, List.getD_cons_zero, List.length_cons, e1, e2, e3, h1]
    by_cases hr : r = []
    · subst hr
      simp only [valN, List.foldl_nil, List.length_nil] at h9 ⊢
      rw [if_neg (by omega), ← h9]
      rfl
    · have : r.length ≠ 0 := by simpa using hr
      rw [if_pos (by omega), valR_yes (by omega) (by omega) h7, h9]
def worthI (c : UInt8) : Int := if worthN c < 62 then (worthN c : Int) else -1
/-- The designation that a packed form is, if it is one. -/
def candU (l : List UInt8) : Dg :=
  match l with
  | [x, a, b, c, e] => if x = 126 then ⟨62 * (62 * (62 * worthI a + worthI b) + worthI c) + worthI e + 620000, 0, 0, 0, 0⟩ else ⟨10000 * worthI x + valR [a, b, c, e], 0, 0, 0, 0⟩
  | [x, a, b, h, f, e, s] => ⟨0, 1800 + 100 * (((x.toNat : Int) - 73) % 256) + valR [a, b], (h.toNat : Int), (s.toNat : Int), 10 * worthI f + worthI e⟩
  | _ => zeroG
theorem cand_pack {d : Dg} (g : okG d) : candU (packG d) = d := by
  rcases pack_shape g with ⟨h1, h2, h3, h4, a, b, c, e, h5, h6, h7⟩ | ⟨h1, h2, h3, h4, x, a, b, c, e, h5, h6, h7, h8⟩ | ⟨h1, h2, h3, x, a, b, f, e, h4, h5, h6, h7, h8, h9, h10, h11⟩
  · rw [h5]
    obtain ⟨n, y, h, s, k⟩ := d
    simp only at h1 h2 h3 h4 h7
    have w1 := allW_head h6
    have w2 := allW_head (allW_tail h6)
    have w3 := allW_head (allW_tail (allW_tail h6))
    have w4 := allW_head (allW_tail (allW_tail (allW_tail h6)))
    simp only [candU, if_pos, worthI, if_pos w1, if_pos w2, if_pos w3, if_pos w4, h1, h2, h3, h4]
    simp only [valN, List.foldl_cons, List.foldl_nil] at h7
    congr 1
    omega
  · rw [h5]
    obtain ⟨n, y, h, s, k⟩ := d
    simp only at h1 h2 h3 h4 h8
    have hx : x ≠ 126 := by rintro rfl; exact absurd h6 (by decide)
    simp only [candU, if_neg hx, worthI, if_pos h6, h1, h2, h3, h4]
    rw [valR_yes (by simp) (by simp) h7, h8]
  · rw [h4]
    obtain ⟨n, y, h, s, k⟩ := d
    simp only at h1 h2 h3 h10 h11
    have e1 := b8_of (half_bd h2).1 (half_bd h2).2
    have e2 := b8_of (sec_bd h3).1 (sec_bd h3).2
    simp only [candU, worthI, if_pos h8, if_pos (show worthN e < 62 by omega), h1, e1, e2]
    rw [valR_yes (by simp) (by simp) h7, h11]
    congr 1
    omega
/-- What Parse returns. -/
def ParseIs (l : List UInt8) (d : Dg) (k : Int) : Prop := (okG d ∧ textG d = l ∧ k = 0) ∨ ((∀ e, okG e → textG e ≠ l) ∧ d = zeroG ∧ k = 12)
/-- What Unpack returns. -/
def UnpackIs (l : List UInt8) (d : Dg) (k : Int) : Prop := (okG d ∧ packG d = l ∧ k = 0) ∨ ((∀ e, okG e → packG e ≠ l) ∧ d = zeroG ∧ k = 12)
theorem text_inj {d e : Dg} (g : okG d) (g' : okG e) (h : textG d = textG e) : d = e := by rw [← cand_text g, h, cand_text g']
theorem pack_inj {d e : Dg} (g : okG d) (g' : okG e) (h : packG d = packG e) : d = e := by rw [← cand_pack g, h, cand_pack g']
theorem ParseIs.uniq {l : List UInt8} {d e : Dg} {k j : Int} (a : ParseIs l d k) (b : ParseIs l e j) : d = e ∧ k = j := by
  rcases a with ⟨a1, a2, a3⟩ | ⟨a1, a2, a3⟩ <;> rcases b with ⟨b1, b2, b3⟩ | ⟨b1, b2, b3⟩
  · exact ⟨text_inj a1 b1 (a2.trans b2.symm), a3.trans b3.symm⟩
  · exact absurd a2 (b1 _ a1)
  · exact absurd b2 (a1 _ b1)
  · exact ⟨a2.trans b2.symm, a3.trans b3.symm⟩
theorem UnpackIs.uniq {l : List UInt8} {d e : Dg} {k j : Int} (a : UnpackIs l d k) (b : UnpackIs l e j) : d = e ∧ k = j := by
  rcases a with ⟨a1, a2, a3⟩ | ⟨a1, a2, a3⟩ <;> rcases b with ⟨b1, b2, b3⟩ | ⟨b1, b2, b3⟩
  · exact ⟨pack_inj a1 b1 (a2.trans b2.symm), a3.trans b3.symm⟩
  · exact absurd a2 (b1 _ a1)
  · exact absurd b2 (a1 _ b1)
  · exact ⟨a2.trans b2.symm, a3.trans b3.symm⟩
/-- A candidate: whatever has this text is it. -/
def CandT (l : List UInt8) (d : Dg) : Prop := ∀ e, okG e → textG e = l → e = d
def CandU (l : List UInt8) (d : Dg) : Prop := ∀ e, okG e → packG e = l → e = d
theorem ParseIs.yes {l : List UInt8} {d : Dg} (g : okG d) (h : textG d = l) : ParseIs l d 0 := Or.inl ⟨g, h, rfl⟩
theorem ParseIs.no {l : List UInt8} {d : Dg} (hc : CandT l d) (h : ¬ (okG d ∧ textG d = l)) : ParseIs l zeroG 12 := Or.inr ⟨fun e g t => by have := hc e g t; subst this; exact h ⟨g, t⟩, rfl, rfl⟩
theorem UnpackIs.yes {l : List UInt8} {d : Dg} (g : okG d) (h : packG d = l) : UnpackIs l d 0 := Or.inl ⟨g, h, rfl⟩
theorem UnpackIs.no {l : List UInt8} {d : Dg} (hc : CandU l d) (h : ¬ (okG d ∧ packG d = l)) : UnpackIs l zeroG 12 := Or.inr ⟨fun e g t => by have := hc e g t; subst this; exact h ⟨g, t⟩, rfl, rfl⟩
theorem candT_is (l : List UInt8) : CandT l (candT l) := fun e g t => by rw [← t, cand_text g]
theorem candU_is (l : List UInt8) : CandU l (candU l) := fun e g t => by rw [← t, cand_pack g]
/-- What whole returns: the number in the digits of a string. -/
structure WholeIs (b : Nat) (l : List UInt8) (n : Int) (ok : Bool) : Prop where
  lo : 0 ≤ n
  hi : n ≤ 1000000000
  yes : ok = true → allW b l ∧ l ≠ [] ∧ n = valN b l
  no : ok = false → n = 0 ∧ ¬ (allW b l ∧ l ≠ [] ∧ valN b l ≤ 15396335)
theorem WholeIs.known {b : Nat} {l : List UInt8} {n : Int} {ok : Bool} (g : WholeIs b l n ok) (h1 : allW b l) (h2 : l ≠ []) (h3 : valN b l ≤ 15396335) : n = valN b l ∧ ok = true := by
  cases ok with
  | true => exact ⟨(g.yes rfl).2.2, rfl⟩
  | false => exact absurd ⟨h1, h2, h3⟩ (g.no rfl).2
theorem WholeIs.empty {b : Nat} {n : Int} {ok : Bool} (g : WholeIs b [] n ok) : n = 0 := by
  cases ok with
  | true => exact absurd rfl (g.yes rfl).2.1
  | false => exact (g.no rfl).1
theorem prog_num {l : List UInt8} {n : Int} (w : WholeIs 10 l n true) : CandT l ⟨n, 0, 0, 0, 0⟩ := fun d g t => by
  have hy := w.yes rfl
  rcases text_shape g with ⟨h1, h2, h3, h4, h5, h6, h7, h8, h9⟩ | ⟨h1, h2, h3, a, b, c, e, r, h4, h5, h6, h7, h8, h9⟩
  · rw [t] at h7
    obtain ⟨n', y, h, s, c⟩ := d
    simp only at h1 h2 h3 h4 h7
    rw [h1, h2, h3, h4, hy.2.2, h7]
  · rw [t] at h4
    exact absurd hy.1 (not_all (c := 32) (by rw [h4]; simp) (by decide))
theorem prog_not {l : List UInt8} {n : Int} (w : WholeIs 10 l n false) {d : Dg} (g : okG d) (t : textG d = l) :
    d.n = 0 ∧ halfP d.h ∧ secP d.s ∧ ∃ a b c e r, l = a :: b :: c :: e :: 32 :: b8 d.h :: b8 d.s :: r ∧ allW 10 [a, b, c, e] ∧ (valN 10 [a, b, c, e] : Int) = d.y ∧ allW 10 r ∧ r.length ≤ 3 ∧ (valN 10 r : Int) = d.c := by
  have hb := okD_bd g
  rcases text_shape g with ⟨h1, h2, h3, h4, h5, h6, h7, h8, h9⟩ | h
  · rw [t] at h6 h7 h8
    exact absurd ⟨h6, by intro e; rw [e] at h8; simp at h8, by omega⟩ (w.no rfl).2
  · rw [t] at h
    exact h
theorem prog_none {l : List UInt8} {n : Int} (w : WholeIs 10 l n false) (h7 : l.length < 7) : CandT l zeroG := fun d g t => by
  obtain ⟨_, _, _, a, b, c, e, r, h4, _⟩ := prog_not w g t
  rw [h4] at h7
  simp only [List.length_cons] at h7
  omega
theorem prog_prov {l : List UInt8} {n y c : Int} {o1 o2 : Bool} (w : WholeIs 10 l n false) (w1 : WholeIs 10 (l.take 4) y o1) (w2 : WholeIs 10 (l.drop 7) c o2) :
    CandT l ⟨0, y, ((l.getD 5 0).toNat : Int), ((l.getD 6 0).toNat : Int), c⟩ := fun d g t => by
  obtain ⟨h1, h2, h3, a, b, c', e, r, h4, h5, h6, h7, h8, h9⟩ := prog_not w g t
  have e1 := b8_of (half_bd h2).1 (half_bd h2).2
  have e2 := b8_of (sec_bd h3).1 (sec_bd h3).2
  rw [h4] at w1 w2 ⊢
  simp only [List.take_succ_cons, List.take_zero, List.drop_succ_cons, List.drop_zero] at w1 w2
  have hbd : d.y ≤ 2099 ∧ d.c ≤ 619 := by unfold okG okD at g; omega
  have y1 := w1.known h5 (by simp) (by omega)
  have c1 : c = d.c := by
    by_cases hr : r = []
    · subst hr
      rw [w2.empty, ← h9]
      rfl
    · rw [(w2.known h7 hr (by omega)).1, h9]
  simp only [List.getD_cons_succ, List.getD_cons_zero]
  obtain ⟨n', y', h, s, k⟩ := d
  simp only at h1 h6 e1 e2 c1
  rw [e1, e2, c1, y1.1, h6, h1]
/-- The place of a byte in "IJK". -/
def idxC (x : Int) : Int := if x = 73 then 0 else if x = 74 then 1 else if x = 75 then 2 else -1
theorem unp_7 {l : List UInt8} {year tens ones : Int} {o1 o2 o3 : Bool} (h7 : l.length = 7) (w1 : WholeIs 10 [l.getD 1 0, l.getD 2 0] year o1) (w2 : WholeIs 62 [l.getD 4 0] tens o2) (w3 : WholeIs 10 [l.getD 5 0] ones o3) :
    CandU l ⟨0, 100 * (18 + idxC ((l.getD 0 0).toNat : Int)) + year, ((l.getD 3 0).toNat : Int), ((l.getD 6 0).toNat : Int), 10 * tens + ones⟩ := fun d g t => by
  rcases pack_shape g with ⟨h1, h2, h3, h4, a, b, c, e, h5, h6, _⟩ | ⟨h1, h2, h3, h4, x, a, b, c, e, h5, h6, _, h8⟩ | ⟨h1, h2, h3, x, a, b, f, e, h4, h5, h6, h7, h8, h9, h10, h11⟩
  · rw [← t, h5] at h7; simp at h7
  · rw [← t, h5] at h7; simp at h7
  · rw [t] at h4
    have e1 := b8_of (half_bd h2).1 (half_bd h2).2
    have e2 := b8_of (sec_bd h3).1 (sec_bd h3).2
    rw [h4] at w1 w2 w3 ⊢
    simp only [List.getD_cons_succ, List.getD_cons_zero] at w1 w2 w3 ⊢
    have hi : idxC (x.toNat : Int) = (x.toNat : Int) - 73 := by
      unfold idxC
      split
      · omega
      · split
        · omega
        · rw [if_pos (by omega)]; omega
    have hbd : d.y ≤ 2099 := by unfold okG okD at g; omega
    have v1 := w1.known h7 (by simp) (by omega)
    have s2 : allW 62 [f] := allW_cons h8 (allW_nil _)
    have s3 : allW 10 [e] := allW_cons h9 (allW_nil _)
    have t2 : valN 62 [f] = worthN f := by simp [valN]
    have t3 : valN 10 [e] = worthN e := by simp [valN]
    have v2 := w2.known s2 (by simp) (by omega)
    have v3 := w3.known s3 (by simp) (by omega)
    obtain ⟨n', y', h, s, k⟩ := d
    simp only at h1 h10 h11 e1 e2
    rw [e1, e2, hi, v1.1, v2.1, v3.1, t2, t3, h10, h11, h1]
theorem unp_tilde {l : List UInt8} {n : Int} (h5 : l.length = 5) (h0 : l.getD 0 0 = 126) (w : WholeIs 62 (l.drop 1) n true) : CandU l ⟨n + 620000, 0, 0, 0, 0⟩ := fun d g t => by
  have hy := w.yes rfl
  rcases pack_shape g with ⟨h1, h2, h3, h4, a, b, c, e, h5, h6, h7⟩ | ⟨h1, h2, h3, h4, x, a, b, c, e, h5, h6, h7, h8⟩ | ⟨h1, h2, h3, x, a, b, f, e, h4, _⟩
  · rw [t] at h5
    rw [h5] at hy
    obtain ⟨n', y', h, s, k⟩ := d
    simp only at h1 h2 h3 h4 h7
    simp only [List.drop_succ_cons, List.drop_zero] at hy
    rw [hy.2.2, h7, h1, h2, h3, h4]
  · rw [t] at h5
    rw [h5] at h0
    simp only [List.getD_cons_zero] at h0
    subst h0
    exact absurd h6 (by decide)
  · rw [← t, h4] at h5; simp at h5
theorem unp_low {l : List UInt8} {n high low : Int} {ok o1 o2 : Bool} (h5 : l.length = 5) (w : WholeIs 62 (l.drop 1) n ok) (h0 : ¬ (l.getD 0 0 = 126 ∧ ok = true)) (w1 : WholeIs 62 (l.take 1) high o1) (w2 : WholeIs 10 (l.drop 1) low o2) :
    CandU l ⟨10000 * high + low, 0, 0, 0, 0⟩ := fun d g t => by
  have hb := okD_bd g
  rcases pack_shape g with ⟨h1, h2, h3, h4, a, b, c, e, h5, h6, h7⟩ | ⟨h1, h2, h3, h4, x, a, b, c, e, h5, h6, h7, h8⟩ | ⟨h1, h2, h3, x, a, b, f, e, h4, _⟩
  · rw [t] at h5
    rw [h5] at w h0
    exact absurd ⟨rfl, (w.known h6 (by simp) (by simp only [List.drop_succ_cons, List.drop_zero]; omega)).2⟩ h0
  · rw [t] at h5
    rw [h5] at w1 w2
    simp only [List.drop_succ_cons, List.drop_zero, List.take_succ_cons, List.take_zero] at w1 w2
    have s1 : allW 62 [x] := allW_cons h6 (allW_nil _)
    have t1 : valN 62 [x] = worthN x := by simp [valN]
    have v1 := w1.known s1 (by simp) (by omega)
    have v2 := w2.known h7 (by simp) (by omega)
    obtain ⟨n', y', h, s, k⟩ := d
    simp only at h1 h2 h3 h4 h8
    rw [v1.1, v2.1, t1, h8, h1, h2, h3, h4]
  · rw [← t, h4] at h5; simp at h5
theorem unp_none {l : List UInt8} (h5 : l.length ≠ 5) (h7 : l.length ≠ 7) : CandU l zeroG := fun d g t => by
  rcases pack_shape g with ⟨h1, h2, h3, h4, a, b, c, e, h, _⟩ | ⟨h1, h2, h3, h4, x, a, b, c, e, h, _⟩ | ⟨h1, h2, h3, x, a, b, f, e, h, _⟩
  · rw [← t, h] at h5; simp at h5
  · rw [← t, h] at h5; simp at h5
  · rw [← t, h] at h7; simp at h7
theorem prog_small {l : List UInt8} {n : Int} (w : WholeIs 10 l n false) (h7 : ¬ 7 ≤ l.length) : CandT l zeroG := prog_none w (by omega)
end Dp
end Go.Proofs.YtdjndoafnoidbaaDoor
