/-
  Plain facts on the order of designations, and of their packed forms.
-/
import Derived.Test.YtdjndoafnoidbaaDoorDTxt
namespace Go.Proofs.YtdjndoafnoidbaaDoor
namespace Dp
open Go.RowKit

/-- One number that orders as the reference compares. -/
def keyD (d : Dg) : Int := (((big d.n * 3000 + d.y) * 256 + d.h) * 1000 + d.c) * 256 + d.s
theorem okG_bd {d : Dg} (g : okG d) : 1 ≤ big d.n ∧ big d.n ≤ 15396336 ∧ 0 ≤ d.y ∧ d.y < 3000 ∧ 0 ≤ d.h ∧ d.h < 256 ∧ 0 ≤ d.c ∧ d.c < 1000 ∧ 0 ≤ d.s ∧ d.s < 256 ∧ (d.n = 0 ↔ big d.n = 15396336) ∧ (d.n ≠ 0 → big d.n = d.n) := by
  unfold okG okD halfP secP at g
  unfold big
  split <;> omega
def cmpD (a b : Dg) : Int := cmpR a.n a.y a.h a.s a.c b.n b.y b.h b.s b.c
theorem cmp_key {a b : Dg} (g : okG a) (g' : okG b) : cmpD a b = sgn (keyD a) (keyD b) := by
  obtain ⟨a1, a2, a3, a4, a5, a6, a7, a8, a9, a10, _, _⟩ := okG_bd g
  obtain ⟨b1, b2, b3, b4, b5, b6, b7, b8, b9, b10, _, _⟩ := okG_bd g'
  unfold cmpD cmpR keyD
  generalize big a.n = p at *
  generalize big b.n = p' at *
  generalize a.y = y at *
  generalize b.y = y' at *
  generalize a.h = h at *
  generalize b.h = h' at *
  generalize a.c = c at *
  generalize b.c = c' at *
  generalize a.s = s at *
  generalize b.s = s' at *
  unfold orr
  rcases Int.lt_trichotomy p p' with e | e | e
  · rw [sgn_lt e, if_neg (by omega), sgn_lt (by omega)]
  · subst e
    rw [sgn_eq rfl, if_pos rfl]
    rcases Int.lt_trichotomy y y' with e | e | e
    · rw [sgn_lt e, if_neg (by omega), sgn_lt (by omega)]
    · subst e
      rw [sgn_eq rfl, if_pos rfl]
      rcases Int.lt_trichotomy h h' with e | e | e
      · rw [sgn_lt e, if_neg (by omega), sgn_lt (by omega)]
      · subst e
        rw [sgn_eq rfl, if_pos rfl]
        rcases Int.lt_trichotomy c c' with e | e | e
        · rw [sgn_lt e, if_neg (by omega), sgn_lt (by omega)]
        · subst e
          rw [sgn_eq rfl, if_pos rfl]
          rcases Int.lt_trichotomy s s' with e | e | e
          · rw [sgn_lt e, sgn_lt (by omega)]
          · rw [sgn_eq e, sgn_eq (by omega)]
          · rw [sgn_gt e, sgn_gt (by omega)]
        · rw [sgn_gt e, if_neg (by omega), sgn_gt (by omega)]
      · rw [sgn_gt e, if_neg (by omega), sgn_gt (by omega)]
    · rw [sgn_gt e, if_neg (by omega), sgn_gt (by omega)]
  · rw [sgn_gt e, if_neg (by omega), sgn_gt (by omega)]
theorem key_inj {a b : Dg} (g : okG a) (g' : okG b) (h : keyD a = keyD b) : a = b := by
  obtain ⟨a1, a2, a3, a4, a5, a6, a7, a8, a9, a10, a11, a12⟩ := okG_bd g
  obtain ⟨b1, b2, b3, b4, b5, b6, b7, b8, b9, b10, b11, b12⟩ := okG_bd g'
  unfold keyD at h
  have e5 : a.s = b.s := by omega
  have e4 : a.c = b.c := by omega
  have e3 : a.h = b.h := by omega
  have e2 : a.y = b.y := by omega
  have e1 : big a.n = big b.n := by omega
  have e0 : a.n = b.n := by omega
  obtain ⟨n, y, h, s, c⟩ := a
  obtain ⟨n', y', h', s', c'⟩ := b
  simp only at e0 e2 e3 e4 e5
  rw [e0, e2, e3, e4, e5]
/-- Comparing is a total order. -/
theorem cmp_order {a b c : Dg} (ga : okG a) (gb : okG b) (gc : okG c) :
    cmpD b a = -(cmpD a b) ∧ (cmpD a b = 0 ↔ a = b) ∧ (cmpD a b ≤ 0 → cmpD b c ≤ 0 → cmpD a c ≤ 0) := by
  rw [cmp_key ga gb, cmp_key gb ga, cmp_key gb gc, cmp_key ga gc]
  have hi : keyD a = keyD b ↔ a = b := ⟨key_inj ga gb, fun e => by rw [e]⟩
  rw [← hi]
  unfold sgn
  refine ⟨?_, ?_, ?_⟩
  · split <;> (try split) <;> (try split) <;> omega
  · split <;> (try split) <;> omega
  · intro h1 h2
    split at h1 <;> split at h2 <;> (try split at h1) <;> (try split at h2) <;> split <;> (try split) <;> omega
theorem worth_nat {x : UInt8} {k : Nat} (h : worthN x = k) (hk : k < 62) : (x.toNat : Int) = if (k : Int) < 10 then 48 + k else if (k : Int) < 36 then 55 + k else 61 + k := by
  unfold worthN at h
  split at h
  · rw [if_pos (by omega)]; omega
  · split at h
    · rw [if_neg (by omega), if_pos (by omega)]; omega
    · split at h
      · rw [if_neg (by omega), if_neg (by omega)]; omega
      · omega
theorem less_cons (a b : UInt8) (l m : List UInt8) : Op.bytesLess (a :: l) (b :: m) = (decide ((a.toNat : Int) < b.toNat) || (decide ((a.toNat : Int) = b.toNat) && Op.bytesLess l m)) := by
  rw [Op.bytesLess]
  congr 1
  · exact decide_eq_decide.2 (by rw [UInt8.lt_iff_toNat_lt]; omega)
  · congr 1
    rw [Bool.eq_iff_iff, beq_iff_eq, decide_eq_true_iff, ← UInt8.toNat_inj]
    omega
theorem less_nil : Op.bytesLess [] [] = false := rfl
theorem worth_mono {x y : UInt8} (hx : worthN x < 62) (hy : worthN y < 62) : ((x.toNat : Int) < y.toNat ↔ worthN x < worthN y) ∧ ((x.toNat : Int) = y.toNat ↔ worthN x = worthN y) := by
  have h1 := worth_nat (x := x) rfl hx
  have h2 := worth_nat (x := y) rfl hy
  generalize worthN x = k at *
  generalize worthN y = j at *
  generalize (x.toNat : Int) = X at *
  generalize (y.toNat : Int) = Y at *
  split at h1 <;> (try split at h1) <;> split at h2 <;> (try split at h2) <;> omega
theorem val4 (b : Nat) (p q r t : UInt8) : valN b [p, q, r, t] = ((worthN p * b + worthN q) * b + worthN r) * b + worthN t := by simp [valN]
theorem val2 (b : Nat) (p q : UInt8) : valN b [p, q] = worthN p * b + worthN q := by simp [valN]
theorem pack_order {d e : Dg} (gd : okG d) (ge : okG e) (hl : (packG d).length = (packG e).length) (nd : d.n < 620000) (ne : e.n < 620000) : Op.bytesLess (packG d) (packG e) = decide (keyD d < keyD e) := by
  have bd := okG_bd gd
  have be := okG_bd ge
  unfold keyD
  rcases pack_shape gd with ⟨_, _, _, _, a, b, c, f, _, _, h⟩ | ⟨y1, h1, s1, c1, x, a, b, c, f, p1, v0, v1, v2⟩ | ⟨n1, h1, s1, x, a, b, f, g, p1, x0, x1, v1, v2, v3, v4, v5⟩
  · omega
  · rcases pack_shape ge with ⟨_, _, _, _, a', b', c', f', _, _, h⟩ | ⟨y1', h1', s1', c1', x', a', b', c', f', p1', v0', v1', v2'⟩ | ⟨n1', h1', s1', x', a', b', f', g', p1', x0', x1', v1', v2', v3', v4', v5'⟩
    · omega
    · rw [p1, p1']
      simp only [less_cons, less_nil, Bool.and_false, Bool.or_false]
      rw [val4] at v2 v2'
      have w1 := allW_head v1
      have w2 := allW_head (allW_tail v1)
      have w3 := allW_head (allW_tail (allW_tail v1))
      have w4 := allW_head (allW_tail (allW_tail (allW_tail v1)))
      have w1' := allW_head v1'
      have w2' := allW_head (allW_tail v1')
      have w3' := allW_head (allW_tail (allW_tail v1'))
      have w4' := allW_head (allW_tail (allW_tail (allW_tail v1')))
      have m0 := worth_mono v0 v0'
      have m1 := worth_mono (x := a) (y := a') (by omega) (by omega)
      have m2 := worth_mono (x := b) (y := b') (by omega) (by omega)
      have m3 := worth_mono (x := c) (y := c') (by omega) (by omega)
      have m4 := worth_mono (x := f) (y := f') (by omega) (by omega)
      rw [Bool.eq_iff_iff]
      simp only [Bool.or_eq_true, Bool.and_eq_true, decide_eq_true_eq, m0.1, m0.2, m1.1, m1.2, m2.1, m2.2, m3.1, m3.2, m4.1]
      rw [y1, h1, s1, c1, y1', h1', s1', c1']
      have k1 : big d.n = d.n := bd.2.2.2.2.2.2.2.2.2.2.2 (by have := okD_bd gd; intro e; rw [e] at bd; rcases gd with g | g <;> omega)
      have k2 : big e.n = e.n := be.2.2.2.2.2.2.2.2.2.2.2 (by have := okD_bd ge; intro e; rw [e] at be; rcases ge with g | g <;> omega)
      rw [k1, k2]
      clear m0 m1 m2 m3 m4 p1 p1' bd be gd ge v1 v1' k1 k2 hl
      push_cast at v2 v2'
      generalize worthN x = X at *
      generalize worthN a = A at *
      generalize worthN b = B at *
      generalize worthN c = C at *
      generalize worthN f = F at *
      generalize worthN x' = X' at *
      generalize worthN a' = A' at *
      generalize worthN b' = B' at *
      generalize worthN c' = C' at *
      generalize worthN f' = F' at *
      omega
    · rw [p1, p1'] at hl
      simp at hl
  · rcases pack_shape ge with ⟨_, _, _, _, a', b', c', f', _, _, h⟩ | ⟨y1', h1', s1', c1', x', a', b', c', f', p1', v0', v1', v2'⟩ | ⟨n1', h1', s1', x', a', b', f', g', p1', x0', x1', v1', v2', v3', v4', v5'⟩
    · omega
    · rw [p1, p1'] at hl
      simp at hl
    · rw [p1, p1']
      simp only [less_cons, less_nil, Bool.and_false, Bool.or_false]
      rw [val2] at v4 v4'
      have w1 := allW_head v1
      have w2 := allW_head (allW_tail v1)
      have w1' := allW_head v1'
      have w2' := allW_head (allW_tail v1')
      have m1 := worth_mono (x := a) (y := a') (by omega) (by omega)
      have m2 := worth_mono (x := b) (y := b') (by omega) (by omega)
      have m3 := worth_mono (x := f) (y := f') v2 v2'
      have m4 := worth_mono (x := g) (y := g') (by omega) (by omega)
      have u1 := b8_of (half_bd h1).1 (half_bd h1).2
      have u2 := b8_of (sec_bd s1).1 (sec_bd s1).2
      have u1' := b8_of (half_bd h1').1 (half_bd h1').2
      have u2' := b8_of (sec_bd s1').1 (sec_bd s1').2
      rw [Bool.eq_iff_iff]
      simp only [Bool.or_eq_true, Bool.and_eq_true, decide_eq_true_eq, m1.1, m1.2, m2.1, m2.2, m3.1, m3.2, m4.1, m4.2, u1, u2, u1', u2']
      have k1 : big d.n = 15396336 := by unfold big; rw [if_pos n1]
      have k2 : big e.n = 15396336 := by unfold big; rw [if_pos n1']
      rw [k1, k2]
      clear m1 m2 m3 m4 p1 p1' gd ge v1 v1' hl u1 u2 u1' u2'
      generalize worthN a = A at *
      generalize worthN b = B at *
      generalize worthN f = F at *
      generalize worthN g = G at *
      generalize worthN a' = A' at *
      generalize worthN b' = B' at *
      generalize worthN f' = F' at *
      generalize worthN g' = G' at *
      generalize x.toNat = X at *
      generalize x'.toNat = X' at *
      omega
end Dp
end Go.Proofs.YtdjndoafnoidbaaDoor
