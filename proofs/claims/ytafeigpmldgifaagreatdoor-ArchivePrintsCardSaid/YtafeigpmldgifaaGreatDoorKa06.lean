/-
  Lemmas and walks, texts joined: OGood, OName, OMgPl, OCand, OMgW, MRDay, MTDAny, OPrint, PRa, OParse, OParse2, OGood2, OAny, OAllPl, KCat, OGreat, OBox.
-/
import Derived.Laws.DeepBits32
import Derived.RegionTactic
import Derived.BigRegion
import Derived.StillTailTactics
import Derived.Lib.Join
import Derived.Lib.ItoaLen
import Derived.LoopTactic
import Derived.Test.YtafeigpmldgifaaGreatDoorKa05
import Derived.Test.YtafeigpmldgifaaGreatDoorKa03
import Derived.Test.YtafeigpmldgifaaGreatDoorKa04
import Derived.Test.YtafeigpmldgifaaGreatDoorKa02
set_option linter.unusedSimpArgs false
set_option linter.unusedVariables false
/-
  Plain law of observations: the line of an observation is read as the rounded observation; no walk here.
-/
namespace Go.Proofs.YtafeigpmldgifaaGreatDoor
namespace Op
open Go.RowKit Lw Go.Proofs.YtafeigpmldgifaaGreatDoor.Ap Go.Proofs.YtafeigpmldgifaaGreatDoor.Mp Go.Proofs.YtafeigpmldgifaaGreatDoor.At Go.Proofs.YtafeigpmldgifaaGreatDoor.Ow Go.Proofs.YtafeigpmldgifaaGreatDoor.Mw

theorem cutL_sp (l : List UInt8) : ∀ k, cutL (l ++ spL k) = cutL l
  | 0 => by simp [spL]
  | k + 1 => by
    have ih := cutL_sp l k
    have e : spL (k + 1) = spL k ++ [32] := by unfold spL; rw [List.replicate_succ']
    rw [e, ← List.append_assoc]
    unfold cutL at ih ⊢
    have e2 : (l ++ spL k ++ [32]).reverse = 32 :: (l ++ spL k).reverse := by simp
    rw [e2, List.dropWhile_cons_of_pos (by decide)]
    exact ih
theorem toL_mk (l : List UInt8) : (⟨l.toArray⟩ : ByteArray).data.toList = l := by simp
theorem mk_toL (s : ByteArray) : (⟨s.data.toList.toArray⟩ : ByteArray) = s := toL_inj (by simp)
theorem blank_sp (n : Nat) : blankP ⟨(spL n).toArray⟩ := fun c hc => by rw [toL_mk] at hc; exact (List.mem_replicate.1 hc).2
theorem word_ne {c : UInt8} (h : dgP (c.toNat : Int) ∨ ltP (c.toNat : Int)) : c ≠ 32 := fun e => by
  rw [e] at h
  revert h
  decide
/-- What the columns of a name say. -/
def NameIs (n1 n2 : List UInt8) (nm : ByteArray) : Prop := (blankP ⟨n1.toArray⟩ ∧ nm = cutS ⟨n2.toArray⟩ ∧ ¬ numbP nm) ∨ (¬ blankP ⟨n1.toArray⟩ ∧ nm = ⟨n1.toArray⟩ ∧ numbP nm ∧ blankP ⟨n2.toArray⟩)
theorem numb_first {s : ByteArray} (h : numbP s) : ¬ blankP s := by
  intro b
  obtain ⟨z, h⟩ := h
  have e : s.data.toList.length = s.size := Array.length_toList (xs := s.data)
  match hl : s.data.toList with
  | [] => rw [hl] at e; simp at e; omega
  | x :: l =>
    have hx : x = 32 := b x (by rw [hl]; exact List.mem_cons_self)
    rcases h with ⟨h, _⟩ | ⟨h, _⟩
    · rw [bt_L s 0 (by omega), hl, hx] at h
      change ((32 : UInt8).toNat : Int) = 126 at h
      exact absurd h (by decide)
    · have := h x (by rw [ext_L s 0 1 (by omega), hl]; simp)
      exact word_ne this hx
theorem name_split {nm : ByteArray} (h : nameP nm) : ∃ n1 n2, nameF nm = n1 ++ (n2 ++ [32, 32]) ∧ n1.length = 5 ∧ n2.length = 7 ∧ NameIs n1 n2 nm := by
  have e : nm.data.toList.length = nm.size := Array.length_toList (xs := nm.data)
  unfold nameF
  by_cases c : numbP nm
  · rw [if_pos c]
    refine ⟨nm.data.toList, spL 7, by rfl, by rw [e]; exact c.1, spL_len 7, Or.inr ⟨?_, (mk_toL nm).symm, c, blank_sp 7⟩⟩
    rw [mk_toL]
    exact numb_first c
  · rw [if_neg c]
    rcases h with h | ⟨h1, h2, h3⟩
    · exact absurd h c
    · refine ⟨spL 5, nm.data.toList ++ spL (7 - nm.size), ?_, spL_len 5, by rw [List.length_append, e, spL_len]; omega, Or.inl ⟨blank_sp 5, ?_, c⟩⟩
      · rw [show 9 - nm.size = (7 - nm.size) + 2 by omega, spL_add]
        simp only [List.append_assoc]
        rfl
      · obtain ⟨l, x, hl⟩ : ∃ l x, nm.data.toList = l ++ [x] := ⟨_, _, (List.dropLast_concat_getLast (by intro hn; rw [hn] at e; simp at e; omega)).symm⟩
        unfold cutS
        rw [toL_mk, cutL_sp, hl, cut_id (word_ne (h3 x (by rw [hl]; simp))), ← hl, mk_toL]
/-! ### Magnitudes -/
theorem bt5 (a b c d e : UInt8) : bt ⟨#[a, b, c, d, e]⟩ 0 = (a.toNat : Int) ∧ bt ⟨#[a, b, c, d, e]⟩ 1 = (b.toNat : Int) ∧ bt ⟨#[a, b, c, d, e]⟩ 2 = (c.toNat : Int) ∧ bt ⟨#[a, b, c, d, e]⟩ 3 = (d.toNat : Int) ∧ bt ⟨#[a, b, c, d, e]⟩ 4 = (e.toNat : Int) :=
  ⟨by rw [bt_L _ _ (by simp [ByteArray.size])]; rfl, by rw [bt_L _ _ (by simp [ByteArray.size])]; rfl, by rw [bt_L _ _ (by simp [ByteArray.size])]; rfl, by rw [bt_L _ _ (by simp [ByteArray.size])]; rfl, by rw [bt_L _ _ (by simp [ByteArray.size])]; rfl⟩
theorem mag_list {m : Int} (h0 : -500 ≤ m) (h1 : m ≤ 3000) : ∃ a b d e : UInt8, magL m = [a, b, 46, d, e] ∧ (b.toNat : Int) = 48 + m.natAbs / 100 % 10 ∧ (d.toNat : Int) = 48 + m.natAbs / 10 % 10 ∧ (e.toNat : Int) = 48 + m.natAbs % 10 ∧
    ((m < 0 ∧ (a.toNat : Int) = 45) ∨ (0 ≤ m ∧ m < 1000 ∧ (a.toNat : Int) = 32) ∨ (1000 ≤ m ∧ (a.toNat : Int) = 48 + m.natAbs / 1000)) := by
  obtain ⟨n, hn⟩ : ∃ n, m.natAbs = n := ⟨_, rfl⟩
  have hB : magB m = (if m < 0 then [45] else []) ++ Lib.itoa ((n / 100 : Nat) : Int) ++ [46] ++ [dg (n / 10 % 10), dg (n % 10)] := by rw [← hn]; rfl
  have d1 := dg_of (n / 10 % 10) (Nat.mod_lt _ (by omega))
  have d2 := dg_of (n % 10) (Nat.mod_lt _ (by omega))
  rw [hn]
  by_cases c : n / 100 < 10
  · have d0 := dg_of (n / 100) c
    rw [itoa_dg _ c] at hB
    by_cases g : m < 0
    · rw [if_pos g] at hB
      refine ⟨45, dg (n / 100), _, _, by unfold magL; rw [hB]; rfl, by omega, by omega, by omega, Or.inl ⟨g, rfl⟩⟩
    · rw [if_neg g] at hB
      refine ⟨32, dg (n / 100), _, _, by unfold magL; rw [hB]; rfl, by omega, by omega, by omega, Or.inr (Or.inl ⟨by omega, by omega, rfl⟩)⟩
  · have d0 := dg_of (n / 100 % 10) (Nat.mod_lt _ (by omega))
    have d3 := dg_of (n / 100 / 10) (by omega)
    have g : ¬ m < 0 := by omega
    rw [itoa_two _ c (by omega), if_neg g] at hB
    refine ⟨dg (n / 100 / 10), dg (n / 100 % 10), _, _, by unfold magL; rw [hB]; rfl, by omega, by omega, by omega, Or.inr (Or.inr ⟨by omega, by omega⟩)⟩
theorem magL_is {m : Int} (h0 : -500 ≤ m) (h1 : m ≤ 3000) : MagIs ⟨(magL m).toArray⟩ m := by
  obtain ⟨a, b, d, e, hl, hb, hd, he, ha⟩ := mag_list h0 h1
  rw [hl]
  obtain ⟨q0, q1, q2, q3, q4⟩ := bt5 a b 46 d e
  have e46 : ((46 : UInt8).toNat : Int) = 46 := rfl
  unfold MagIs magN dgP
  rw [q0, q1, q2, q3, q4, e46]
  clear q0 q1 q2 q3 q4 hl
  have n1 : ¬ ((e.toNat : Int) = 32) := by omega
  rw [if_neg n1]
  refine ⟨rfl, by omega, by omega, Or.inl (by omega), ?_⟩
  rcases ha with ⟨g, ha⟩ | ⟨g, g', ha⟩ | ⟨g, ha⟩
  · exact Or.inl ⟨ha, by omega, by omega⟩
  · exact Or.inr (Or.inl ⟨ha, by omega⟩)
  · exact Or.inr (Or.inr ⟨by omega, by omega, by omega, by omega⟩)
/-! ### Angles -/
theorem rnd_mul (n u : Nat) (hu : 1 ≤ u) : Gt.rndN (n * u) u = n := by
  have h := Gt.rndN_eq (n * u) u
  unfold Gp.rndI at h
  have e1 : ((n * u : Nat) : Int) % (u : Int) = 0 := by rw [Int.natCast_mul]; exact Int.mul_emod_left _ _
  have e2 : ((n * u : Nat) : Int) / (u : Int) = n := by rw [Int.natCast_mul]; exact Int.mul_ediv_cancel _ (by omega)
  rw [e1, e2] at h
  rw [if_neg (by omega)] at h
  omega
theorem ra_val (a : Int) : ∃ N : Nat, N < 86400000 ∧ Gt.raL a 3 = Gt.clockL N 3 ∧ Gp.RaIs ⟨(Gt.raL a 3).toArray⟩ ((N * 15000 : Nat) : Int) 0 ∧ Gt.raL ((N * 15000 : Nat) : Int) 3 = Gt.clockL N 3 ∧
    2 * Pl.dif ((N * 15000 : Nat) : Int) a ≤ 15000 ∧ -15000 ≤ 2 * Pl.dif ((N * 15000 : Nat) : Int) a := by
  obtain ⟨v, h1, _, _, h2, h3⟩ := Gt.ra_back a 3 (by omega)
  obtain ⟨N, hN⟩ : ∃ N, Gt.rndN (a % 1296000000000).toNat (15000000 / 10 ^ 3) % (86400 * 10 ^ 3) = N := ⟨_, rfl⟩
  have lt : N < 86400000 := by rw [← hN]; exact Nat.mod_lt _ (by decide)
  have hL : Gt.raL a 3 = Gt.clockL N 3 := by unfold Gt.raL; rw [hN]
  obtain ⟨c1, c2, c3⟩ := Gt.clock_reads N 3 (by omega) (by omega)
  have c4 := c3 15000
  have R : Gp.RaIs ⟨(Gt.raL a 3).toArray⟩ ((N * 15000 : Nat) : Int) 0 := by
    rw [hL]
    exact Or.inl ⟨c1, by rw [c2]; omega, c4.symm, rfl⟩
  obtain ⟨rfl, _⟩ := h1.det R
  refine ⟨N, lt, hL, R, ?_, h2, h3⟩
  unfold Gt.raL
  have e1 : (((N * 15000 : Nat) : Int) % 1296000000000).toNat = N * 15000 := by omega
  have e2 : 15000000 / 10 ^ 3 = 15000 := by decide
  rw [e1, e2, rnd_mul N 15000 (by omega), Nat.mod_eq_of_lt (by omega)]
theorem dec_valu {c : Int} (h0 : -324000000000 ≤ c) (h1 : c ≤ 324000000000) : ∃ v : Int, Gp.DecIs ⟨(Gt.decL c 2).toArray⟩ v 0 ∧ -324000000000 ≤ v ∧ v ≤ 324000000000 ∧ v - c ≤ 5000 ∧ -5000 ≤ v - c ∧
    ((c < 0 ∧ v = 0 ∧ Gt.decL c 2 = 45 :: Gt.clockL 0 2) ∨ Gt.decL v 2 = Gt.decL c 2) := by
  obtain ⟨v, h2, v0, v1, v2, v3⟩ := Gt.dec_back c 2 (by omega) h0 h1
  refine ⟨v, h2, v0, v1, by omega, by omega, ?_⟩
  have e2 : 1000000 / 10 ^ 2 = 10000 := by decide
  obtain ⟨R, hR⟩ : ∃ R, Gt.rndN c.natAbs (1000000 / 10 ^ 2) = R := ⟨_, rfl⟩
  have lR : R ≤ 32400001 := by
    have := rnd_le2 c.natAbs (1000000 / 10 ^ 2)
    rw [e2] at this hR
    omega
  have hL : Gt.decL c 2 = (if c < 0 then 45 else 43) :: Gt.clockL R 2 := by unfold Gt.decL; rw [hR]
  obtain ⟨c1, c2, c3⟩ := Gt.clock_reads R 2 (by omega) (by omega)
  have c4 := c3 10000
  have hv : v = if c < 0 then -((R * 10000 : Nat) : Int) else ((R * 10000 : Nat) : Int) := by
    rcases h2 with ⟨_, h2, _⟩ | ⟨_, _, h2⟩
    · rw [hL] at h2
      rw [Gp.get0, Gp.tail_mk] at h2
      rw [h2, show (1000000 : Int) = ((10000 * 10 ^ 2 : Nat) : Int) from rfl, c4]
      by_cases g : c < 0
      · rw [if_pos g, if_pos g, if_pos (show (((45 : UInt8).toNat : Nat) : Int) = 45 from rfl)]
      · rw [if_neg g, if_neg g, if_neg (by decide)]
    · cases h2
  by_cases g : c < 0
  · rw [if_pos g] at hv hL
    by_cases z : R = 0
    · subst z
      exact Or.inl ⟨g, by omega, hL⟩
    · right
      rw [hL]
      unfold Gt.decL
      rw [if_pos (by omega), show v.natAbs = R * 10000 by omega, e2, rnd_mul R 10000 (by omega)]
  · rw [if_neg g] at hv hL
    right
    rw [hL]
    unfold Gt.decL
    rw [if_neg (by omega), show v.natAbs = R * 10000 by omega, e2, rnd_mul R 10000 (by omega)]
/-! ### Days -/
theorem day_time {t d : Int} {s : ByteArray} (h : DayIs t d s 0) : timeP t := by
  rcases h with ⟨_, _, h⟩ | ⟨_, _, _, _, h⟩ | ⟨_, _, h1, h2, _⟩
  · cases h
  · cases h
  · exact ⟨h1, h2⟩
/-- Two times with the same text of six digits are near. -/
theorem day_near {t v : Int} {s : ByteArray} (h : DayIs t 6 s 0) (hv : DayIs v 6 s 0) (hp : PDayIs s v 0) (le : v ≤ t) : t - v < 100000 := by
  obtain ⟨v', p1, le', hv', _⟩ := day_parse h
  obtain ⟨rfl, _⟩ := p1.uniq hp
  rcases h with ⟨_, _, c⟩ | ⟨_, _, _, _, c⟩ | ⟨d0, d6, b1, b2, n, y, m, z, k, hd, hs, _⟩
  · cases c
  · cases c
  have hw : wholeP y m (n - mo y m + 1) := ⟨hd.y1, by have := hd.y2; omega, hd.ym.m1, hd.ym.m12, by have := hd.ym.lo; omega, by have := hd.ym.hi; omega⟩
  have e : dn y m (n - mo y m + 1) = n := by rw [dn_mo]; omega
  obtain ⟨P0, L, T, p1', p2, p3, p4, p5, p6, p7, p8, p9, p10, p11, p12⟩ := part_nat hd 6 (by omega)
  have eL := day_diff hw (by rw [e]; exact hd.zk)
  rw [e, p2] at eL
  rw [show (6 : Int).toNat = 6 from rfl, p8, p3] at hs
  rw [p3] at p10
  obtain ⟨P, q1, q2, q3, q4, q5⟩ := day_core2 (by omega) hw p10 hs
  rw [e] at q1
  obtain ⟨rfl, _⟩ := q1.uniq hp
  rw [← eL] at q5
  have k1 := Nat.lt_div_mul_add (a := P0 * 10 ^ 6) (b := L) (by omega)
  have k2 : ((P0 * 10 ^ 6 / L : Nat) : Int) * L = ((P0 * 10 ^ 6 / L * L : Nat) : Int) := by simp
  rw [k2] at q5
  generalize P0 * 10 ^ 6 / L * L = Z at *
  omega
end Op
end Go.Proofs.YtafeigpmldgifaaGreatDoor
/-
  The walk of name of package obs.
-/
namespace Go.Proofs.YtafeigpmldgifaaGreatDoor
namespace Ow
open Go.RowKit Lw Go.Proofs.YtafeigpmldgifaaGreatDoor.Ap Go.Proofs.YtafeigpmldgifaaGreatDoor.Op Go.Proofs.YtafeigpmldgifaaGreatDoor.Mp Go.Proofs.YtafeigpmldgifaaGreatDoor.Mw Go.Proofs.YtafeigpmldgifaaGreatDoor.At

/-- What the columns of a name say. -/
def NameOf (s n : ByteArray) : Prop := (blankP (s.extract 0 5) ∧ n = cutS (s.extract 5 12) ∧ ¬ numbP n) ∨ (¬ blankP (s.extract 0 5) ∧ n = s.extract 0 5 ∧ numbP n ∧ blankP (s.extract 5 12))
def NameA (s n : ByteArray) (b : Bool) : Prop := (b = true ∧ NameOf s n) ∨ (b = false ∧ ∀ x, ¬ NameOf s x)
def NamePost (s : ByteArray) (w : World) (e : Ending) (w' : World) : Prop := ∃ (n : ByteArray) (b : Bool), e = .returned (.tuple #[.string n, .bool b]) ∧ NameA s n b ∧ Below w.heap.size w w'
theorem cut_nil (s : ByteArray) : cutS s = ⟨#[]⟩ ↔ blankP s := by
  have e : cutS s = ⟨#[]⟩ ↔ cutL s.data.toList = [] := by
    unfold cutS
    constructor
    · intro h
      have := congrArg (fun t : ByteArray => t.data.toList) h
      simpa using this
    · intro h; rw [h]
  rw [e]
  unfold cutL blankP
  rw [List.reverse_eq_nil_iff, dropWhile_nil]
  constructor
  · intro h c hc
    have := h c (List.mem_reverse.2 hc)
    simpa using this
  · intro h c hc
    have := h c (List.mem_reverse.1 hc)
    simp [this]
theorem zero_str {V : ByteArray} (z : V.size = 0) : V = ⟨#[]⟩ := by
  apply At.toL_inj
  have : V.data.toList.length = 0 := by rw [← size_L]; exact z
  rw [List.length_eq_zero_iff.1 this]
theorem name_b {s n : ByteArray} {ub : Bool} (h : blankP (s.extract 0 5)) (hn : n = cutS (s.extract 5 12)) (hu : ub = numbB n) : NameA s n (!ub) := by
  cases hub : ub
  · rw [hub] at hu
    exact Or.inl ⟨rfl, Or.inl ⟨h, hn, of_decide_eq_false hu.symm⟩⟩
  · rw [hub] at hu
    refine Or.inr ⟨rfl, fun x hx => ?_⟩
    rcases hx with ⟨_, a, b⟩ | ⟨a, _⟩
    · rw [a, ← hn] at b
      exact b (of_decide_eq_true hu.symm)
    · exact a h
theorem name_n {s n : ByteArray} {ub vb : Bool} (h : ¬ blankP (s.extract 0 5)) (hn : n = s.extract 0 5) (hu : ub = numbB n) (hv : vb = decide (blankP (s.extract 5 12))) : NameA s n (ub && vb) := by
  cases hub : ub && vb
  · refine Or.inr ⟨rfl, fun x hx => ?_⟩
    rcases hx with ⟨a, _⟩ | ⟨_, a, b, c⟩
    · exact h a
    · rw [a, ← hn] at b
      rw [hu, hv] at hub
      unfold numbB at hub
      rw [decide_eq_true b, decide_eq_true c] at hub
      cases hub
  · rw [Bool.and_eq_true] at hub
    obtain ⟨h1, h2⟩ := hub
    rw [h1] at hu
    rw [h2] at hv
    exact Or.inl ⟨rfl, Or.inr ⟨h, hn, of_decide_eq_true hu.symm, of_decide_eq_true hv.symm⟩⟩
end Ow
end Go.Proofs.YtafeigpmldgifaaGreatDoor
/-
  Plain law of observations: what the columns of a magnitude say, by digits; no walk here.
-/
namespace Go.Proofs.YtafeigpmldgifaaGreatDoor
namespace Op
open Go.RowKit Lw Go.Proofs.YtafeigpmldgifaaGreatDoor.Ap Go.Proofs.YtafeigpmldgifaaGreatDoor.Mp Go.Proofs.YtafeigpmldgifaaGreatDoor.At Go.Proofs.YtafeigpmldgifaaGreatDoor.Ow Go.Proofs.YtafeigpmldgifaaGreatDoor.Mw

theorem five {s : ByteArray} (h : s.size = 5) : ∃ a b c d e : UInt8, s = ⟨#[a, b, c, d, e]⟩ := by
  have e : s.data.toList.length = 5 := by rw [← size_L]; exact h
  match hl : s.data.toList with
  | [a, b, c, d, x] => exact ⟨a, b, c, d, x, toL_inj (by rw [hl])⟩
  | [] => rw [hl] at e; simp at e
  | [_] => rw [hl] at e; simp at e
  | [_, _] => rw [hl] at e; simp at e
  | [_, _, _] => rw [hl] at e; simp at e
  | [_, _, _, _] => rw [hl] at e; simp at e
  | _ :: _ :: _ :: _ :: _ :: _ :: _ => rw [hl] at e; simp at e
/-- A magnitude by the number of its digits. -/
def MagR (s : ByteArray) (T : List UInt8) (mn : Bool) : Prop := ∀ m, MagIs s m ↔ (allD T ∧ ((mn = true ∧ m = -numL T ∧ 0 < numL T) ∨ (mn = false ∧ m = numL T ∧ numL T ≤ 3000)))
theorem allD3 {x y z : UInt8} : allD [x, y, z] ↔ (dgP x.toNat ∧ dgP y.toNat ∧ dgP z.toNat) := by
  unfold allD dgP
  simp
theorem allD4 {w x y z : UInt8} : allD [w, x, y, z] ↔ (dgP w.toNat ∧ dgP x.toNat ∧ dgP y.toNat ∧ dgP z.toNat) := by
  unfold allD dgP
  simp
theorem numL3 {x y z : UInt8} : numL [x, y, z] = 100 * ((x.toNat : Int) - 48) + 10 * ((y.toNat : Int) - 48) + ((z.toNat : Int) - 48) := by
  unfold numL
  simp only [List.foldl]
  omega
theorem numL4 {w x y z : UInt8} : numL [w, x, y, z] = 1000 * ((w.toNat : Int) - 48) + 100 * ((x.toNat : Int) - 48) + 10 * ((y.toNat : Int) - 48) + ((z.toNat : Int) - 48) := by
  unfold numL
  simp only [List.foldl]
  omega
theorem pt_two {a b c d e : UInt8} : ptS ⟨#[a, b, c, d, e]⟩ = 2 ↔ ((a.toNat : Int) ≠ 46 ∧ (b.toNat : Int) ≠ 46 ∧ (c.toNat : Int) = 46) := by
  obtain ⟨q0, q1, q2, q3, q4⟩ := bt5 a b c d e
  constructor
  · intro h
    have h1 := pt_at ⟨#[a, b, c, d, e]⟩ (by rw [h]; simp [ByteArray.size])
    rw [h, q2] at h1
    refine ⟨fun g => ?_, fun g => ?_, h1⟩
    · have : ptS ⟨#[a, b, c, d, e]⟩ = 0 := pt_uniq (by omega) (fun j hj => by omega) (fun _ => by rw [q0]; exact g)
      omega
    · by_cases ha : (a.toNat : Int) = 46
      · have : ptS ⟨#[a, b, c, d, e]⟩ = 0 := pt_uniq (by omega) (fun j hj => by omega) (fun _ => by rw [q0]; exact ha)
        omega
      · have : ptS ⟨#[a, b, c, d, e]⟩ = 1 := pt_uniq (by simp [ByteArray.size]) (fun j hj => by
          obtain rfl : j = 0 := by omega
          rw [q0]; exact ha) (fun _ => by rw [q1]; exact g)
        omega
  · rintro ⟨h0, h1, h2⟩
    exact pt_uniq (by simp [ByteArray.size]) (fun j hj => by
      rcases (show j = 0 ∨ j = 1 by omega) with rfl | rfl
      · rw [q0]; exact h0
      · rw [q1]; exact h1) (fun _ => by rw [q2]; exact h2)
theorem mag_pt {a b c d e : UInt8} (h : ¬ ((a.toNat : Int) ≠ 46 ∧ (b.toNat : Int) ≠ 46 ∧ (c.toNat : Int) = 46)) : ∀ m, ¬ MagIs ⟨#[a, b, c, d, e]⟩ m := by
  intro m g
  obtain ⟨q0, q1, q2, q3, q4⟩ := bt5 a b c d e
  unfold MagIs dgP at g
  rw [q0, q1, q2, q3, q4] at g
  generalize magN ⟨#[a, b, c, d, e]⟩ = N at *
  omega
theorem mag_b {a b c d e : UInt8} (h : ¬ dgP b.toNat) : ∀ m, ¬ MagIs ⟨#[a, b, c, d, e]⟩ m := fun m g => h (by have := g.2.1; rwa [(bt5 a b c d e).2.1] at this)
theorem mag_d {a b c d e : UInt8} (h : ¬ dgP d.toNat) : ∀ m, ¬ MagIs ⟨#[a, b, c, d, e]⟩ m := fun m g => h (by have := g.2.2.1; rwa [(bt5 a b c d e).2.2.2.1] at this)
theorem mag_0 {a b c d e : UInt8} (h : (a.toNat : Int) = 48) : ∀ m, ¬ MagIs ⟨#[a, b, c, d, e]⟩ m := by
  intro m g
  obtain ⟨q0, q1, q2, q3, q4⟩ := bt5 a b c d e
  unfold MagIs dgP at g
  rw [q0, q1, q2, q3, q4] at g
  generalize magN ⟨#[a, b, c, d, e]⟩ = N at *
  omega
theorem mag_r1 {a b c d e z : UInt8} {mn : Bool} (hc : (c.toNat : Int) = 46) (hz : (z = e ∧ (e.toNat : Int) ≠ 32) ∨ ((z.toNat : Int) = 48 ∧ (e.toNat : Int) = 32)) (ha : ((a.toNat : Int) = 45 ∧ mn = true) ∨ ((a.toNat : Int) = 32 ∧ mn = false)) :
    MagR ⟨#[a, b, c, d, e]⟩ [b, d, z] mn := by
  intro m
  obtain ⟨q0, q1, q2, q3, q4⟩ := bt5 a b c d e
  rw [allD3, numL3]
  unfold MagIs magN dgP
  rw [q0, q1, q2, q3, q4]
  have hN : (if (e.toNat : Int) = 32 then 0 else (e.toNat : Int) - 48) = (z.toNat : Int) - 48 := by
    rcases hz with ⟨rfl, h⟩ | ⟨h, g⟩
    · rw [if_neg h]
    · rw [if_pos g]; omega
  have hE : ((48 ≤ (e.toNat : Int) ∧ (e.toNat : Int) ≤ 57) ∨ (e.toNat : Int) = 32) ↔ (48 ≤ (z.toNat : Int) ∧ (z.toNat : Int) ≤ 57) := by
    rcases hz with ⟨rfl, h⟩ | ⟨h, g⟩ <;> omega
  rw [hN, hE]
  rcases ha with ⟨h, rfl⟩ | ⟨h, rfl⟩
  · simp only [true_and, Bool.true_eq_false, false_and, or_false]
    omega
  · simp only [true_and, Bool.false_eq_true, false_and, false_or]
    omega
theorem mag_r2 {a b c d e z : UInt8} (hc : (c.toNat : Int) = 46) (hz : (z = e ∧ (e.toNat : Int) ≠ 32) ∨ ((z.toNat : Int) = 48 ∧ (e.toNat : Int) = 32)) (h1 : (a.toNat : Int) ≠ 45) (h2 : (a.toNat : Int) ≠ 32) (h3 : (a.toNat : Int) ≠ 48) :
    MagR ⟨#[a, b, c, d, e]⟩ [a, b, d, z] false := by
  intro m
  obtain ⟨q0, q1, q2, q3, q4⟩ := bt5 a b c d e
  rw [allD4, numL4]
  unfold MagIs magN dgP
  rw [q0, q1, q2, q3, q4]
  have hN : (if (e.toNat : Int) = 32 then 0 else (e.toNat : Int) - 48) = (z.toNat : Int) - 48 := by
    rcases hz with ⟨rfl, h⟩ | ⟨h, g⟩
    · rw [if_neg h]
    · rw [if_pos g]; omega
  have hE : ((48 ≤ (e.toNat : Int) ∧ (e.toNat : Int) ≤ 57) ∨ (e.toNat : Int) = 32) ↔ (48 ≤ (z.toNat : Int) ∧ (z.toNat : Int) ≤ 57) := by
    rcases hz with ⟨rfl, h⟩ | ⟨h, g⟩ <;> omega
  rw [hN, hE]
  simp only [true_and, Bool.false_eq_true, false_and, false_or]
  omega
/-- What magnitude answers. -/
def MagA (s : ByteArray) (m : Int) (b : Bool) : Prop := (b = true ∧ MagIs s m) ∨ (b = false ∧ ∀ x, ¬ MagIs s x)
theorem mag_f1 {s : ByteArray} {T : List UInt8} (R : MagR s T true) (h : allD T) : MagA s (-numL T) (decide (0 < numL T)) := by
  by_cases g : 0 < numL T
  · exact Or.inl ⟨decide_eq_true g, (R _).2 ⟨h, Or.inl ⟨rfl, rfl, g⟩⟩⟩
  · refine Or.inr ⟨decide_eq_false g, fun x hx => ?_⟩
    rcases ((R x).1 hx).2 with ⟨_, _, h⟩ | ⟨h, _⟩
    · exact g h
    · cases h
theorem mag_f2 {s : ByteArray} {T : List UInt8} (R : MagR s T false) (h : allD T) : MagA s (numL T) (decide (numL T ≤ 3000)) := by
  by_cases g : numL T ≤ 3000
  · exact Or.inl ⟨decide_eq_true g, (R _).2 ⟨h, Or.inr ⟨rfl, rfl, g⟩⟩⟩
  · refine Or.inr ⟨decide_eq_false g, fun x hx => ?_⟩
    rcases ((R x).1 hx).2 with ⟨h, _⟩ | ⟨_, _, h⟩
    · cases h
    · exact g h
theorem mag_f3 {s : ByteArray} {T : List UInt8} {mn : Bool} (R : MagR s T mn) (h : ¬ allD T) : MagA s 0 false := Or.inr ⟨rfl, fun x hx => h ((R x).1 hx).1⟩
theorem magA_no {s : ByteArray} (h : ∀ x, ¬ MagIs s x) : MagA s 0 false := Or.inr ⟨rfl, h⟩
end Op
end Go.Proofs.YtafeigpmldgifaaGreatDoor
/-
  Plain law of observations: a line's candidate, all of it but the check; no walk here.
-/
namespace Go.Proofs.YtafeigpmldgifaaGreatDoor
namespace Op
open Go.RowKit Lw Go.Proofs.YtafeigpmldgifaaGreatDoor.Ap Go.Proofs.YtafeigpmldgifaaGreatDoor.Mp Go.Proofs.YtafeigpmldgifaaGreatDoor.At Go.Proofs.YtafeigpmldgifaaGreatDoor.Ow Go.Proofs.YtafeigpmldgifaaGreatDoor.Mw

/-- The variance of a line, by the digits of its declination. -/
def sgOf (n : Nat) : Int := if n = 0 then 1000000 else if n = 1 then 300000 else 100000
structure Cand (s : ByteArray) (o : Ob) : Prop where
  size : s.size = 80
  mark : bt s 12 = 32 ∧ bt s 13 = 32 ∧ bt s 14 = 67
  b1 : blankP (s.extract 56 65)
  b2 : blankP (s.extract 71 77)
  p : 3 ≤ decs (cutS (s.extract 15 32)) ∧ decs (cutS (s.extract 15 32)) ≤ 6
  q : 1 ≤ decs (cutS (s.extract 32 44)) ∧ decs (cutS (s.extract 32 44)) ≤ 3
  r : decs (cutS (s.extract 44 56)) ≤ 2
  day : PDayIs (cutS (s.extract 15 32)) o.t 0
  ra : Gp.RaIs (cutS (s.extract 32 44)) o.ra 0
  dec : Gp.DecIs (cutS (s.extract 44 56)) o.dec 0
  site : o.site = s.extract 77 80
  sg : o.sg = sgOf (decs (cutS (s.extract 44 56)))
  name : NameOf s o.name
  mag : (blankP (s.extract 65 71) ∧ o.mag = 9999 ∧ o.band = 32) ∨ (¬ blankP (s.extract 65 71) ∧ MagIs (s.extract 65 70) o.mag ∧ o.band = bt s 70)
theorem Good.cand {s : ByteArray} {o : Ob} (h : Good s o) : Cand s o := ⟨h.size, h.mark, h.b1, h.b2, h.p, h.q, h.r, h.day, h.ra, h.dec, h.site, h.sg, h.name, h.mag⟩
theorem Cand.good {s : ByteArray} {o : Ob} (h : Cand s o) (ok : okO o) : Good s o := ⟨h.size, h.mark, h.b1, h.b2, h.p, h.q, h.r, h.day, h.ra, h.dec, h.site, h.sg, h.name, h.mag, ok⟩
theorem nameOf_uniq {s a b : ByteArray} (h : NameOf s a) (g : NameOf s b) : a = b := by
  rcases h with ⟨x1, x2, _⟩ | ⟨x1, x2, _⟩ <;> rcases g with ⟨y1, y2, _⟩ | ⟨y1, y2, _⟩
  · rw [x2, y2]
  · exact absurd x1 y1
  · exact absurd y1 x1
  · rw [x2, y2]
theorem Cand.uniq {s : ByteArray} {o o' : Ob} (a : Cand s o) (b : Cand s o') : o = o' := by
  have e1 := (a.day.uniq b.day).1
  have e2 := (a.ra.det b.ra).1
  have e3 := (a.dec.det b.dec).1
  have e4 := a.site.trans b.site.symm
  have e5 := a.sg.trans b.sg.symm
  have e6 := nameOf_uniq (s := s) a.name b.name
  have e7 : o.mag = o'.mag ∧ o.band = o'.band := by
    rcases a.mag with ⟨x1, x2, x3⟩ | ⟨x1, x2, x3⟩ <;> rcases b.mag with ⟨y1, y2, y3⟩ | ⟨y1, y2, y3⟩
    · exact ⟨by omega, by omega⟩
    · exact absurd x1 y1
    · exact absurd y1 x1
    · exact ⟨x2.uniq y2, by omega⟩
  obtain ⟨e7, e8⟩ := e7
  cases o; cases o'
  simp only at e1 e2 e3 e4 e5 e6 e7 e8
  rw [e1, e2, e3, e4, e5, e6, e7, e8]
/-- No observation has this line. -/
def NoO (s : ByteArray) : Prop := ∀ x, ¬ Good s x
theorem obs_no {s : ByteArray} (h : NoO s) : ObsIs s zeroO 12 := Or.inr ⟨h, rfl, rfl⟩
theorem Cand.obs {s : ByteArray} {o : Ob} (h : Cand s o) : (okO o → ObsIs s o 0) ∧ (¬ okO o → ObsIs s zeroO 12) := by
  refine ⟨fun g => Or.inl ⟨h.good g, rfl⟩, fun g => obs_no fun x hx => g ?_⟩
  rw [← hx.cand.uniq h]
  exact hx.ok
theorem no_size {s : ByteArray} (h : s.size ≠ 80) : NoO s := fun _ g => h g.size
theorem no_mark {s : ByteArray} (h : ¬ (bt s 12 = 32 ∧ bt s 13 = 32 ∧ bt s 14 = 67)) : NoO s := fun _ g => h g.mark
theorem no_b1 {s : ByteArray} (h : ¬ blankP (s.extract 56 65)) : NoO s := fun _ g => h g.b1
theorem no_b2 {s : ByteArray} (h : ¬ blankP (s.extract 71 77)) : NoO s := fun _ g => h g.b2
/-- The digits behind the points. -/
def digP (a b c : Nat) : Prop := 3 ≤ a ∧ a ≤ 6 ∧ 1 ≤ b ∧ b ≤ 3 ∧ c ≤ 2
theorem no_dig {s : ByteArray} (h : ¬ digP (decs (cutS (s.extract 15 32))) (decs (cutS (s.extract 32 44))) (decs (cutS (s.extract 44 56)))) : NoO s := fun _ g => h ⟨g.p.1, g.p.2, g.q.1, g.q.2, g.r⟩
theorem no_day {s : ByteArray} {t c : Int} (h : PDayIs (cutS (s.extract 15 32)) t c) (n : c ≠ 0) : NoO s := fun _ g => n (h.uniq g.day).2
theorem no_ra {s : ByteArray} {t c : Int} (h : Gp.RaIs (cutS (s.extract 32 44)) t c) (n : c ≠ 0) : NoO s := fun _ g => n (h.det g.ra).2
theorem no_dec {s : ByteArray} {t c : Int} (h : Gp.DecIs (cutS (s.extract 44 56)) t c) (n : c ≠ 0) : NoO s := fun _ g => n (h.det g.dec).2
theorem ext_ext (s : ByteArray) (i j k l : Nat) (h : i + l ≤ j) : (s.extract i j).extract k l = s.extract (i + k) (i + l) := by
  rw [ByteArray.extract_extract, Nat.min_eq_left h]
theorem nameOf_12 {s n : ByteArray} : NameOf (s.extract 0 12) n ↔ NameOf s n := by
  unfold NameOf
  rw [ext_ext s 0 12 0 5 (by omega), ext_ext s 0 12 5 12 (by omega)]
theorem no_name {s n : ByteArray} (h : NameA (s.extract 0 12) n false) : NoO s := fun x g => by
  rcases h with ⟨h, _⟩ | ⟨_, h⟩
  · cases h
  · exact h x.name (nameOf_12.2 g.name)
theorem yes_name {s n : ByteArray} (h : NameA (s.extract 0 12) n true) : NameOf s n := by
  rcases h with ⟨_, h⟩ | ⟨h, _⟩
  · exact nameOf_12.1 h
  · cases h
theorem no_mag {s : ByteArray} {m : Int} (hb : ¬ blankP (s.extract 65 71)) (h : MagA (s.extract 65 70) m false) : NoO s := fun x g => by
  rcases h with ⟨h, _⟩ | ⟨_, h⟩
  · cases h
  · rcases g.mag with ⟨a, _⟩ | ⟨_, a, _⟩
    · exact hb a
    · exact h _ a
theorem yes_mag {s : ByteArray} {m : Int} (h : MagA s m true) : MagIs s m := by
  rcases h with ⟨_, h⟩ | ⟨h, _⟩
  · exact h
  · cases h
/-- The mark as a string. -/
theorem mark_is {s : ByteArray} (h : s.size = 80) : s.extract 12 15 = ⟨#[32, 32, 67]⟩ ↔ (bt s 12 = 32 ∧ bt s 13 = 32 ∧ bt s 14 = 67) := by
  have b : ∀ k, k < 3 → bt (s.extract 12 15) k = bt s (12 + k) := fun k hk => by
    rw [bt_of _ k (by rw [ByteArray.size_extract]; omega), bt_of s (12 + k) (by omega)]
    congr 2
    simp [ByteArray.getElem_eq_getElem_data]
  have b0 := b 0 (by omega)
  have b1 := b 1 (by omega)
  have b2 := b 2 (by omega)
  constructor
  · intro e
    rw [e] at b0 b1 b2
    exact ⟨b0.symm, b1.symm, b2.symm⟩
  · rintro ⟨h0, h1, h2⟩
    have z : (s.extract 12 15).size = 3 := by rw [ByteArray.size_extract]; omega
    have l : (s.extract 12 15).data.toList.length = 3 := by rw [← size_L]; exact z
    match hl : (s.extract 12 15).data.toList, l with
    | [x, y, w], _ =>
      rw [bt_L _ _ (by omega), hl] at b0 b1 b2
      have v : ∀ {x : UInt8} {n : Nat}, n < 256 → (x.toNat : Int) = n → x = UInt8.ofNat n := fun hn h => u8_val hn h
      have e0 : x = 32 := v (n := 32) (by omega) (b0.trans h0)
      have e1 : y = 32 := v (n := 32) (by omega) (b1.trans h1)
      have e2 : w = 67 := v (n := 67) (by omega) (b2.trans h2)
      apply toL_inj
      rw [hl, e0, e1, e2]
theorem pday_bd {s : ByteArray} {t c : Int} (h : PDayIs s t c) : -9223372036854775808 ≤ t ∧ t ≤ 9223372036854775807 := by
  by_cases hc : c = 0
  · subst hc
    have := day_time (parse_day h).1
    have b : -1000000000000000 ≤ bgv (-10227) 1972 1 ∧ bgv 36525 2100 1 ≤ 10000000000000000 := by decide +kernel
    unfold timeP at this
    omega
  · rcases h with ⟨_, _, h⟩ | ⟨_, h, _⟩
    · exact absurd h hc
    · omega
end Op
end Go.Proofs.YtafeigpmldgifaaGreatDoor
/-
  The walk of magnitude of package obs.
-/
namespace Go.Proofs.YtafeigpmldgifaaGreatDoor
namespace Ow
open Go.RowKit Lw Go.Proofs.YtafeigpmldgifaaGreatDoor.Ap Go.Proofs.YtafeigpmldgifaaGreatDoor.Op Go.Proofs.YtafeigpmldgifaaGreatDoor.Mp Go.Proofs.YtafeigpmldgifaaGreatDoor.Mw Go.Proofs.YtafeigpmldgifaaGreatDoor.At

def MagPost (s : ByteArray) (w : World) (e : Ending) (w' : World) : Prop := ∃ (m : Int) (b : Bool), e = .returned (.tuple #[.int .i64 m, .bool b]) ∧ MagA s m b ∧ Below w.heap.size w w'
theorem mag_parts {a b c d e : UInt8} (h : ptS ⟨#[a, b, c, d, e]⟩ = 2) : hdP ⟨#[a, b, c, d, e]⟩ = ⟨#[a, b]⟩ ∧ tlP ⟨#[a, b, c, d, e]⟩ = ⟨#[d, e]⟩ ∧ decide (ptS ⟨#[a, b, c, d, e]⟩ < (⟨#[a, b, c, d, e]⟩ : ByteArray).size) = true := by
  have z : (⟨#[a, b, c, d, e]⟩ : ByteArray).size = 5 := rfl
  refine ⟨?_, ?_, decide_eq_true (by rw [h, z]; omega)⟩
  · unfold hdP
    rw [h]
    apply At.toL_inj
    rw [At.ext_L _ _ _ (by rw [z]; omega)]
    rfl
  · unfold tlP
    rw [if_pos (by rw [h, z]; omega), h, z]
    apply At.toL_inj
    rw [At.ext_L _ _ _ (by rw [z]; omega)]
    rfl
/-- Two bytes as a string. -/
theorem two_str (a b : UInt8) : ∃ F : ByteArray, F = ⟨#[a, b]⟩ ∧ F.size = 2 ∧ (∀ h : 0 < F.size, (F[0]'h).toNat = a.toNat) ∧ (∀ h : 1 < F.size, (F[1]'h).toNat = b.toNat) ∧ F.extract 1 2 = ⟨#[b]⟩ ∧ F.extract 0 1 = ⟨#[a]⟩ := by
  refine ⟨_, rfl, rfl, fun _ => rfl, fun _ => rfl, ?_, ?_⟩
  · apply At.toL_inj
    rw [At.ext_L _ _ _ (by show (2 : Nat) ≤ 2; omega)]
    rfl
  · apply At.toL_inj
    rw [At.ext_L _ _ _ (by show (1 : Nat) ≤ 2; omega)]
    rfl
theorem one_str (b : UInt8) : ∃ F : ByteArray, F = ⟨#[b]⟩ ∧ F.size = 1 := ⟨_, rfl, rfl⟩
theorem cat_str (x y : ByteArray) : ∃ T : ByteArray, x ++ y = T ∧ T.size = x.size + y.size ∧ T.data.toList = x.data.toList ++ y.data.toList := ⟨_, rfl, ByteArray.size_append, by simp⟩
end Ow
end Go.Proofs.YtafeigpmldgifaaGreatDoor
/-
  The day texts of times: Day of the reference.
-/
namespace Go.Proofs.YtafeigpmldgifaaGreatDoor
namespace At
open Go.RowKit Lw Ap Go.Proofs.YtafeigpmldgifaaGreatDoor.Mp Go.Proofs.YtafeigpmldgifaaGreatDoor.Mw

theorem XSr.call {w : World} {b : Nat} {a c : World} (h : XSr w b a) (hb : Below a.heap.size a c) : XSr w b c := ⟨Nat.lt_of_lt_of_le h.lt hb.size, below_then h.below hb⟩
set_option maxRecDepth 100000 in
set_option maxHeartbeats 4000000 in
theorem rsday_bad (t d : Int) (w : World) (h : d < 0 ∨ 9 < d) :
    Calls Tryz.prog 68 #[.int .i64 t, .int .i64 d] w (DayPost t d w) := by
  have N := Lib.hid (show DayIs t d ⟨#[]⟩ 2 from Or.inl ⟨h, rfl, rfl⟩)
  rcases h with h | h
  all_goals
    go_enter Tryz.func68, Tryz.ntmps68
    go_wp2_with fail
    go_ret2
    exact ⟨⟨#[]⟩, 2, rfl, N.out, Below.refl _ _⟩
set_option maxRecDepth 100000 in
set_option maxHeartbeats 4000000 in
theorem rsday_out (t : Int) (d : Nat) (w : World) (hd : d ≤ 9) (h0 : -9223372036854775808 ≤ t) (h1 : t ≤ 9223372036854775807) (h : t < bgv (-10227) 1972 1 ∨ bgv 36525 2100 1 ≤ t) :
    Calls Tryz.prog 68 #[.int .i64 t, .int .i64 d] w (DayPost t d w) := by
  have N := Lib.hid (show DayIs t d ⟨#[]⟩ 16 from Or.inr (Or.inl ⟨by omega, by omega, h, rfl, rfl⟩))
  have TU := Lib.hid (fun w' => rday_out t w' h0 h1 h)
  have i0 : ¬ (d : Int) < 0 := by omega
  have i1 : ¬ 9 < (d : Int) := by omega
  clear h
  go_enter Tryz.func68, Tryz.ntmps68
  go_wp2_with fail
  refine (TU.out _).mono ?_
  rintro e w1 ⟨rfl, hb⟩
  have B1 := Lib.hid (hb.alloc hb.size (.cells (List.toArray [.int .i64 0, .int .i64 0, .int .i64 0, .int .i64 0, .int .i64 0, .int .i64 0, .int .i64 0]) 85))
  clear hb TU
  go_wp2_with (refine wpList_store_new rfl _ (.tmp 6) (.tmp 21) rfl _ _ rfl rfl rinfo7 rfl ?_ ?_; simp [Value.oneCell'])
  go_ret2
  exact ⟨⟨#[]⟩, 16, rfl, N.out, B1.out⟩
set_option maxRecDepth 100000 in
set_option maxHeartbeats 8000000 in
theorem rsday_in (t n y m z k : Int) (d : Nat) (w : World) (hd : d ≤ 9) (h : DayOf t n y m z k) (h1 : bgv (-10227) 1972 1 ≤ t) (h2 : t < bgv 36525 2100 1) :
    Calls Tryz.prog 68 #[.int .i64 t, .int .i64 d] w (DayPost t d w) := by
  obtain ⟨Y, M, D, _, _, _, _, e1, e2, e3, -, -, -, -, b1, b2, b3, -, -, -, -⟩ := date_nat h
  obtain ⟨P, L, T, eP, eL, eT, hPL, hL, T1, T9, eQ, PQ, q1, q2, eS⟩ := part_nat h d hd
  have TI : ∀ s, s = daytS Y M D (P * T / L) d → DayIs t d s 0 := fun s hs => Or.inr (Or.inr ⟨by omega, by omega, h1, h2, n, y, m, z, k, h, by rw [Int.toNat_natCast, e1, e2, ← e1, ← e2, e3, eQ]; rw [e1, e2]; simpa using hs, rfl⟩)
  have TU := fun w' => rday_in t n y m z k w' h h1 h2
  have hw : wholeP y m (n - mo y m + 1) := ⟨h.y1, by have := h.y2; omega, h.ym.m1, h.ym.m12, by have := h.ym.lo; omega, by have := h.ym.hi; omega⟩
  have SE := fun w' => seconds_any y m (n - mo y m + 1) w' hw
  have sl : secs y m (n - mo y m + 1) * 1000000 = (L : Int) := by
    unfold secs
    rw [eS]
    split <;> rfl
  have TE : Hid (∀ w', Calls Tryz.prog 93 #[.int .i64 d] w' fun e w'' => e = .returned (.int .i64 (T : Int)) ∧ w' = w'') := Lib.hid fun w' => by rw [eT]; exact rten_any d w' (by omega)
  have PA := Lib.hid (fun w' => Dv.part_any P T L w' (by omega) (by omega) (by omega) PQ (by omega))
  have PF := Lib.hid (fun w' => show Calls Tryz.prog 91 #[.int .i64 ((P * T / L : Nat) : Int), .int .i64 d] w' (fun e w'' => e = .returned (.string (dS (P * T / L) d)) ∧ w' = w'') from rdigs_any (P * T / L) d w' (by omega) (by omega))
  rw [e3, eP] at TU
  rw [e3] at SE sl
  rw [e1, e2] at TU SE sl
  have zq := dS_size (P * T / L) d
  generalize P * T / L = q at *
  generalize P * T % L = r at *
  generalize secs (Y : Int) (M : Int) (D : Int) = sg at *
  have ws : IntKind.i64.wrap (sg * 1000000) = (L : Int) := by rw [sl]; exact IntWalk.i64_in _ (by omega)
  have PY := Lib.hid (fun w' => digs4 Y w' (by omega))
  have PM := Lib.hid (fun w' => digs2 M w' (by omega))
  have PD := Lib.hid (fun w' => digs2 D w' (by omega))
  have zY := dS_size Y 4
  have zM := dS_size M 2
  have zD := dS_size D 2
  obtain ⟨A1, x1⟩ : ∃ A, A = dS Y 4 ++ (⟨#[32]⟩ : ByteArray) := ⟨_, rfl⟩
  have z1 : A1.size = 5 := by rw [x1, ByteArray.size_append, zY]; rfl
  have a1 := add_fact x1 (by rw [zY]; show 4 + 1 ≤ _; omega)
  obtain ⟨A2, x2⟩ : ∃ A, A = A1 ++ dS M 2 := ⟨_, rfl⟩
  have z2 : A2.size = 7 := by rw [x2, ByteArray.size_append, zM, z1]
  have a2 := add_fact x2 (by rw [zM, z1]; omega)
  obtain ⟨A3, x3⟩ : ∃ A, A = A2 ++ (⟨#[32]⟩ : ByteArray) := ⟨_, rfl⟩
  have z3 : A3.size = 8 := by rw [x3, ByteArray.size_append, z2]; rfl
  have a3 := add_fact x3 (by rw [z2]; show 7 + 1 ≤ _; omega)
  obtain ⟨A4, x4⟩ : ∃ A, A = A3 ++ dS D 2 := ⟨_, rfl⟩
  have z4 : A4.size = 10 := by rw [x4, ByteArray.size_append, zD, z3]
  have a4 := add_fact x4 (by rw [zD, z3]; omega)
  have EB := Lib.hid (show dbS Y M D = A4 by unfold dbS; rw [← x1, ← x2, ← x3, ← x4])
  have TU := Lib.hid TU
  have TI := Lib.hid TI
  have SE := Lib.hid SE
  have i0 : ¬ (d : Int) < 0 := by omega
  have i1 : ¬ 9 < (d : Int) := by omega
  clear e1 e2 e3 eP eL eT eQ eS h h1 h2 PQ q1 sl hw b1 b2 b3 x1 x2 x3 x4 z1 z2 z3 zM zD hPL hL
  go_enter Tryz.func68, Tryz.ntmps68
  go_wp2_with fail
  refine (TU.out _).mono ?_
  rintro e w1 ⟨rfl, hb⟩
  have B1 := hb
  clear hb TU
  go_wp2_with (refine wpList_store_new rfl _ (.tmp 6) (.tmp 21) rfl _ _ rfl rfl rinfo7 rfl ?_ ?_; simp [Value.oneCell'])
  have r0 := rangeAt_new w1 [.int .i64 (Y : Nat), .int .i64 (M : Nat), .int .i64 (D : Nat), .int .i64 0, .int .i64 0, .int .i64 0, .int .i64 0] 85
  have X0 : XSr w w1.heap.size (w1.alloc (.cells (List.toArray [.int .i64 (Y : Nat), .int .i64 (M : Nat), .int .i64 (D : Nat), .int .i64 0, .int .i64 0, .int .i64 0, .int .i64 0]) 85)) := ⟨by simp, B1.alloc B1.size _⟩
  have q0 := r0 0 _ rfl
  have q1 := r0 1 _ rfl
  have q2' := r0 2 _ rfl
  rw [Nat.zero_add] at q0 q1 q2'
  clear r0 B1
  generalize w1.heap.size = b at *
  generalize w1.alloc (.cells (List.toArray [.int .i64 (Y : Nat), .int .i64 (M : Nat), .int .i64 (D : Nat), .int .i64 0, .int .i64 0, .int .i64 0, .int .i64 0]) 85) = W at *
  have X1 := X0.drew
  go_region_held3 (fun w' => XSr w b w' ∧ w'.cell? ⟨b, 0, none⟩ = some (.int .i64 (Y : Nat)) ∧ w'.cell? ⟨b, 1, none⟩ = some (.int .i64 (M : Nat)) ∧ w'.cell? ⟨b, 2, none⟩ = some (.int .i64 (D : Nat))) (first | go_keep | assumption) (first | (go_at_call 91; (first | (with_reducible refine (PY.out _).mono ?_) | (with_reducible refine (PM.out _).mono ?_) | (with_reducible refine (PD.out _).mono ?_)); rintro e w2 ⟨rfl, rfl⟩))
  go_split_ands
  by_cases hc : 0 < d
  · have hc' : (0 : Int) < (d : Int) := by omega
    have E := Lib.hid (show daytS Y M D q d = A4 ++ (⟨#[46]⟩ : ByteArray) ++ dS q d by unfold daytS; rw [if_pos hc, EB.out, ByteArray.append_assoc])
    have X2 : XSr w b _ := (by assumption : XSr w b _).drew
    go_wp2_with fail
    go_region_held3 (fun w' => XSr w b w' ∧ w'.cell? ⟨b, 0, none⟩ = some (.int .i64 (Y : Nat)) ∧ w'.cell? ⟨b, 1, none⟩ = some (.int .i64 (M : Nat)) ∧ w'.cell? ⟨b, 2, none⟩ = some (.int .i64 (D : Nat))) (first | go_keep | assumption) (first | (go_at_call 93; refine (TE.out _).mono ?_; rintro e w2 ⟨rfl, rfl⟩) | (go_at_call 94; go_split_ands; refine (SE.out _).mono ?_; rintro e w2 ⟨rfl, hb⟩; have hk := XSr.call (by assumption) hb; have p0 := (hb.cell (p := ⟨b, 0, none⟩) (XSr.lt (by assumption))).trans (by assumption); have p1 := (hb.cell (p := ⟨b, 1, none⟩) (XSr.lt (by assumption))).trans (by assumption); have p2 := (hb.cell (p := ⟨b, 2, none⟩) (XSr.lt (by assumption))).trans (by assumption); clear hb) | (go_at_call 92; go_split_ands; refine (PA.out _).mono ?_; rintro e w2 ⟨rfl, hb⟩; have hk := XSr.call (by assumption) hb; have p0 := (hb.cell (p := ⟨b, 0, none⟩) (XSr.lt (by assumption))).trans (by assumption); have p1 := (hb.cell (p := ⟨b, 1, none⟩) (XSr.lt (by assumption))).trans (by assumption); have p2 := (hb.cell (p := ⟨b, 2, none⟩) (XSr.lt (by assumption))).trans (by assumption); clear hb))
    go_split_ands
    go_wp2_with fail
    refine (PF.out _).mono ?_
    rintro e w' ⟨rfl, rfl⟩
    go_wp2_with fail
    go_ret2
    exact ⟨_, 0, rfl, TI.out _ E.out.symm, XSr.below (by assumption)⟩
  · have hc' : ¬ (0 : Int) < (d : Int) := by omega
    have E := Lib.hid (show daytS Y M D q d = A4 by unfold daytS; rw [if_neg hc, EB.out])
    go_wp2_with fail
    go_ret2
    exact ⟨_, 0, rfl, TI.out _ E.out.symm, XSr.below (by assumption)⟩
end At
end Go.Proofs.YtafeigpmldgifaaGreatDoor
/-
  Text and Day of both, for any time and number of digits.
-/
namespace Go.Proofs.YtafeigpmldgifaaGreatDoor
namespace At
open Go.RowKit Lw Ap Go.Proofs.YtafeigpmldgifaaGreatDoor.Mp Go.Proofs.YtafeigpmldgifaaGreatDoor.Mw

theorem sday_any (t d : Int) (w : World) (hT : Tab w) (h0 : -9223372036854775808 ≤ t) (h1 : t ≤ 9223372036854775807) :
    Calls Tryz.prog 31 #[.int .i64 t, .int .i64 d] w (DayPost t d w) := by
  by_cases hd : d < 0 ∨ 9 < d
  · exact sday_bad t d w hd
  · obtain ⟨k, rfl⟩ := Int.eq_ofNat_of_zero_le (show 0 ≤ d by omega)
    by_cases ht : t < bgv (-10227) 1972 1 ∨ bgv 36525 2100 1 ≤ t
    · exact sday_out t k w (by omega) h0 h1 ht
    · obtain ⟨n, y, m, z, j, h⟩ := day_ex t (by omega) (by omega)
      exact sday_in t n y m z j k w (by omega) hT h (by omega) (by omega)
theorem rsday_any (t d : Int) (w : World) (h0 : -9223372036854775808 ≤ t) (h1 : t ≤ 9223372036854775807) :
    Calls Tryz.prog 68 #[.int .i64 t, .int .i64 d] w (DayPost t d w) := by
  by_cases hd : d < 0 ∨ 9 < d
  · exact rsday_bad t d w hd
  · obtain ⟨k, rfl⟩ := Int.eq_ofNat_of_zero_le (show 0 ≤ d by omega)
    by_cases ht : t < bgv (-10227) 1972 1 ∨ bgv 36525 2100 1 ≤ t
    · exact rsday_out t k w (by omega) h0 h1 ht
    · obtain ⟨n, y, m, z, j, h⟩ := day_ex t (by omega) (by omega)
      exact rsday_in t n y m z j k w (by omega) h (by omega) (by omega)
end At
end Go.Proofs.YtafeigpmldgifaaGreatDoor
/-
  The walk of Print of package obs.
-/
namespace Go.Proofs.YtafeigpmldgifaaGreatDoor
namespace Ow
open Go.RowKit Lw Go.Proofs.YtafeigpmldgifaaGreatDoor.Ap Go.Proofs.YtafeigpmldgifaaGreatDoor.Op Go.Proofs.YtafeigpmldgifaaGreatDoor.Mp Go.Proofs.YtafeigpmldgifaaGreatDoor.Mw Go.Proofs.YtafeigpmldgifaaGreatDoor.At

theorem info8 : (Tryz.prog.info? 57).map (·.size) = some 8 := by kernel_rfl
/-- A line of spaces as bytes, in a block of its own. -/
theorem line_new (w : World) (s : ByteArray) : ∃ (W : World) (cap : Nat), (convert 9 42 (.string s)).run Tryz.prog w = .ok (.slice (some ⟨w.heap.size, 0, none⟩) s.size cap) W ∧ w.heap.size < W.heap.size ∧ W.rangeAt w.heap.size 0 (bytesV s.data.toList) ∧ W.there w.heap.size 0 s.size ∧ Below w.heap.size w W ∧ s.size ≤ cap := by
  obtain ⟨W, cap, h1, h2, h3, h4⟩ := Ap.bytes_in w s
  refine ⟨W, cap, h1, h2.1, ?_, ?_, h3, h4⟩
  · intro i x hi
    unfold bytesV at hi
    rw [List.getElem?_map] at hi
    obtain ⟨y, hy, rfl⟩ := Option.map_eq_some_iff.1 hi
    obtain ⟨hl, hy⟩ := List.getElem?_eq_some_iff.1 hy
    have hl' : i < s.size := by rw [size_L]; exact hl
    have := h2.2 i hl'
    rw [Nat.zero_add, this, ← hy]
    rfl
  · intro j hj
    rw [Nat.zero_add]
    refine ⟨by rw [h2.2 j hj]; rfl, ?_⟩
    rw [run_bytes_of_string (P := Tryz.prog) w 9 42 5 s Tryz.underlying9 Tryz.underlying42 Tryz.underlying5] at h1
    injection h1 with _ h1
    rw [← h1]
    have hz : ∀ C, s.size ≤ (bytesRow s C).size := fun C => by
      unfold bytesRow
      rw [Array.size_append, Array.size_map]
      exact Nat.le_add_right _ _
    have := World.frozen?_alloc_mark w.drew (bytesRow s (grownCap w s.size 0 5)) 5 (bytesRow s (grownCap w s.size 0 5)).size ((bytesRow s (grownCap w s.size 0 5)).size + 1) j
    rw [show (decide ((bytesRow s (grownCap w s.size 0 5)).size ≤ j)) = false from decide_eq_false (by have := hz (grownCap w s.size 0 5); omega)] at this
    exact this
theorem PX.tab {w0 w' : World} {b g p c : Nat} {o : Ob} {L' : List UInt8} (h : PX w0 b o g p c L' w') (hT : Gt.Tab w0) : Gt.Tab w' := hT.below h.ox.below
theorem back_line {w0 w : World} {b g p c : Nat} {o : Ob} {L : List UInt8} (h : PX w0 b o g p c L w) : (convert 42 9 (.slice (some ⟨g, 0, none⟩) 80 c)).run Tryz.prog w = .ok (.string ⟨L.toArray⟩) w := by
  have := run_convert_bytes_back (P := Tryz.prog) w 42 9 5 ⟨g, 0, none⟩ c L Tryz.underlying42 Tryz.underlying5 Tryz.underlying9 (fun j hj => by
    have := h.row j (.int .u8 (L[j].toNat : Int)) (by unfold bytesV; rw [List.getElem?_map, List.getElem?_eq_getElem hj]; rfl)
    rw [Addr.add_mid]
    rw [this])
  rw [h.len] at this
  exact this
theorem wput_wput {L s : List UInt8} {k : Nat} (h : k + s.length ≤ L.length) : wput (wput L k s) k s = wput L k s := by
  unfold wput
  have e1 : (L.take k).length = k := by simp; omega
  have e2 : (L.take k ++ (s ++ L.drop (k + s.length))).take k = L.take k := by rw [List.take_append_of_le_length (by omega), List.take_of_length_le (by omega)]
  have e3 : (L.take k ++ (s ++ L.drop (k + s.length))).drop (k + s.length) = L.drop (k + s.length) := by
    rw [← List.append_assoc, List.drop_append_of_le_length (by simp; omega)]
    have : (L.take k ++ s).length = k + s.length := by simp; omega
    rw [List.drop_of_length_le (by omega), List.nil_append]
  rw [e2, e3]
/-- Before or behind one put. -/
structure PS (w0 : World) (b : Nat) (o : Ob) (g p c : Nat) (L : List UInt8) (k : Nat) (s : ByteArray) (w : World) : Prop where
  px : ∃ L0, (L0 = L ∨ L0 = wput L k s.data.toList) ∧ PX w0 b o g p c L0 w
  tab : Gt.Tab w
  len : k + s.data.toList.length ≤ L.length
theorem PS.call {w0 w w' : World} {b g p c k : Nat} {o : Ob} {L : List UInt8} {s : ByteArray} (h : PS w0 b o g p c L k s w) (hb : Below w.heap.size w w') : PS w0 b o g p c L k s w' := by
  obtain ⟨⟨L0, h1, h2⟩, h3, h4⟩ := h
  exact ⟨⟨L0, h1, h2.call hb⟩, h3.below hb, h4⟩
theorem PS.drew {w0 w : World} {b g p c k : Nat} {o : Ob} {L : List UInt8} {s : ByteArray} (h : PS w0 b o g p c L k s w) : PS w0 b o g p c L k s w.drew := h.call (Below.refl _ _).drew
theorem PS.lift {w0 w w' : World} {b g p c k : Nat} {o : Ob} {L : List UInt8} {s : ByteArray} (h : PS w0 b o g p c L k s w) (hT : Gt.Tab w0) (g' : PX w0 b o g p c (wput L k s.data.toList) w') : PS w0 b o g p c L k s w' := ⟨⟨_, Or.inr rfl, g'⟩, g'.tab hT, h.len⟩
theorem put_ps {w0 w : World} {b g p c k : Nat} {o : Ob} {L : List UInt8} {s : ByteArray} (h : PS w0 b o g p c L k s w) (h0 : 0 < s.size) (hs : k + s.size ≤ 80) (hc : 80 ≤ c) :
    Calls Tryz.prog 30 #[.int .i64 k, .string s, .pointer (some ⟨p, 0, none⟩)] w fun e w' => e = .returned (.tuple #[]) ∧ PX w0 b o g p c (wput L k s.data.toList) w' := by
  obtain ⟨⟨L0, h1, h2⟩, h3, h4⟩ := h
  have := put_any h2 k s h0 hs hc
  rcases h1 with rfl | rfl
  · exact this
  · rw [wput_wput h4] at this
    exact this
/-- The same with the cells that are read. -/
abbrev PQ (w0 : World) (b : Nat) (o : Ob) (g p c : Nat) (L : List UInt8) (k : Nat) (s : ByteArray) (w : World) : Prop := w.cell? ⟨b, 6, none⟩ = some (.int .i64 o.mag) ∧ w.cell? ⟨b, 7, none⟩ = some (.int .u8 o.band) ∧ PS w0 b o g p c L k s w
theorem PS.q {w0 w : World} {b g p c k : Nat} {o : Ob} {L : List UInt8} {s : ByteArray} (h : PS w0 b o g p c L k s w) : PQ w0 b o g p c L k s w := by
  obtain ⟨L0, h1, h2⟩ := h.px
  have a := h2.ox.row 6 _ rfl
  have b := h2.ox.row 7 _ rfl
  rw [Nat.zero_add] at a b
  exact ⟨a, b, h⟩
theorem mag_bd {m b : Int} (h : magP m b) (h9 : m ≠ 9999) : -500 ≤ m ∧ m ≤ 3000 := by
  unfold magP at h
  omega
theorem band_u8 {m b : Int} (h : magP m b) : 0 ≤ b ∧ b ≤ 255 ∧ b < 128 := by
  unfold magP ltP at h
  omega
theorem band_enc {m b : Int} (h : magP m b) : Utf8.encode b = ⟨#[UInt8.ofNat b.toNat]⟩ := by
  have hb : 0 ≤ b ∧ b < 128 := by
    unfold magP ltP at h
    omega
  unfold Utf8.encode
  have v : Utf8.valid b = true := by
    unfold Utf8.valid
    rw [decide_eq_true (show 0 ≤ b by omega), decide_eq_true (show b < 55296 by omega)]
    rfl
  simp only [v, if_true]
  rw [if_pos (by omega)]
theorem band_enc2 {m b : Int} (h : magP m b) : Utf8.encode (IntKind.i32.wrap b) = ⟨#[UInt8.ofNat b.toNat]⟩ := by
  obtain ⟨b0, b1, _⟩ := band_u8 h
  rw [wrap_i32_small b b0 (by omega), band_enc h]
set_option maxRecDepth 100000 in
set_option maxHeartbeats 16000000 in
theorem print_bad (o : Ob) (w : World) (hE : ES w) (h0 : -9223372036854775808 ≤ o.t) (h1 : o.t ≤ 9223372036854775807) (b0 : 0 ≤ o.band) (b1 : o.band ≤ 255) (n1 : o.name.size ≤ maxLen) (n2 : o.site.size ≤ maxLen) (no : ¬ okO o) :
    Calls Tryz.prog 19 #[obsV o] w fun e w' => e = .returned (.tuple #[.string ByteArray.empty, .int .i64 8]) ∧ Below w.heap.size w w' := by
  have X0 := OX.new w o
  have C := Lib.hid (fun w' (h : ES w') => check_any o w' h h0 h1 b0 b1 n1 n2)
  rw [show checkC o = 8 from if_neg no] at C
  have HE := Lib.hid (hE.below X0.below)
  have XX := Lib.hid X0
  clear X0 hE h0 h1 b0 b1 n1 n2 no
  obtain ⟨nm, st, tt, ra, dec, sg, mg, bd⟩ := o
  go_enter Tryz.func19, Tryz.ntmps19
  go_wp2_with (refine wpList_load_mid rfl _ (.tmp 1) rfl w.heap.size 0 rfl (obsC ⟨nm, st, tt, ra, dec, sg, mg, bd⟩) _ XX.out.row Tryz.underlying57 rfl info8 ?_)
  refine (C.out _ HE.out).mono ?_
  rintro e w1 ⟨rfl, hb⟩
  have X1 := Lib.hid (XX.out.call hb)
  clear hb XX C HE
  go_wp2_with fail
  go_ret2
  exact ⟨rfl, X1.out.below⟩
set_option maxRecDepth 100000 in
set_option maxHeartbeats 16000000 in
theorem print_ok (o : Ob) (w : World) (hT : Gt.Tab w) (hE : ES w) (h0 : -9223372036854775808 ≤ o.t) (h1 : o.t ≤ 9223372036854775807) (b0 : 0 ≤ o.band) (b1 : o.band ≤ 255) (n1 : o.name.size ≤ maxLen) (n2 : o.site.size ≤ maxLen) (ok : okO o) :
    Calls Tryz.prog 19 #[obsV o] w fun e w' => ∃ day, DayIs o.t 6 day 0 ∧ e = .returned (.tuple #[.string ⟨(lineL day o).toArray⟩, .int .i64 0]) ∧ Below w.heap.size w w' := by
  have PL := Lib.hid (fun day (h : DayIs o.t 6 day 0) => put_line ok h)
  have LM := Lib.hid (fun day (h : DayIs o.t 6 day 0) => mid_len ok h)
  have X0 := OX.new w o
  have C := Lib.hid (fun w' (h : ES w') => check_any o w' h h0 h1 b0 b1 n1 n2)
  rw [show checkC o = 0 from if_pos ok] at C
  have HE := Lib.hid (hE.below X0.below)
  have HT := Lib.hid (hT.below X0.below)
  have HT0 := Lib.hid hT
  have XX := Lib.hid X0
  obtain ⟨ot, on, os, ow, or0, or1, od0, od1, og0, og1, om⟩ := ok
  have NN := Lib.hid on
  have zN : 1 ≤ o.name.size ∧ o.name.size ≤ 7 := by
    rcases on with h | h
    · have := h.1; omega
    · exact ⟨h.1, h.2.1⟩
  have DY := Lib.hid (fun w' (h : At.Tab w') => sday_any o.t 6 w' h h0 h1)
  have RA := Lib.hid (fun w' (h : Gt.Tab w') => Gt.ratext_any o.ra 3 w' h (by omega) (by omega) (by omega))
  have DE := Lib.hid (fun w' (h : Gt.Tab w') => Gt.dectext_any o.dec 2 w' h od0 od1 (by omega))
  have NU := Lib.hid (fun w' (h : ES w') => isNumb_any o.name w' h n1)
  have OT := Lib.hid ot
  have OS := Lib.hid os
  have OM := Lib.hid om
  have RP := Lib.hid (fun w' => Tryz.strings_Repeat ⟨#[32]⟩ 80 w' (by omega) (by show 1 * _ ≤ _; omega))
  obtain ⟨nm, st, tt, ra, dec, sg, mg, bd⟩ := o
  simp only at *
  clear X0 hE hT b0 b1 n1 n2 on ot os ow or0 or1 od0 od1 og0 og1 om h0 h1
  go_enter Tryz.func19, Tryz.ntmps19
  go_wp2_with (refine wpList_load_mid rfl _ (.tmp 1) rfl w.heap.size 0 rfl (obsC ⟨nm, st, tt, ra, dec, sg, mg, bd⟩) _ XX.out.row Tryz.underlying57 rfl info8 ?_)
  refine (C.out _ HE.out).mono ?_
  rintro e w1 ⟨rfl, hb⟩
  have X1 := Lib.hid (XX.out.call hb)
  have HT1 := Lib.hid (HT.out.below hb)
  have HE1 := Lib.hid (HE.out.below hb)
  clear hb XX C HE HT
  go_wp2_with fail
  refine (RP.out _).mono ?_
  rintro e w2 ⟨rfl, hb⟩
  have X2 := Lib.hid (X1.out.call hb)
  have HT2 := Lib.hid (HT1.out.below hb)
  have HE2 := Lib.hid (HE1.out.below hb)
  clear hb X1 HT1 HE1 RP
  obtain ⟨S, hS⟩ : ∃ S : ByteArray, S = ⟨(Lib.repeatL (⟨#[32]⟩ : ByteArray).data.toList 80).toArray⟩ := ⟨_, rfl⟩
  rw [← hS]
  have zS : S.size = 80 := by rw [hS]; rfl
  have lS : S.data.toList = spL 80 := by rw [hS]; rfl
  clear hS
  obtain ⟨W, cap, hcv, g1, g2, g3, g4, g5⟩ := line_new w2 S
  rw [zS] at hcv g3 g5
  rw [lS] at g2
  clear zS lS
  have b4 : Below w2.heap.size w2 (W.alloc (.cells #[.slice (some ⟨w2.heap.size, 0, none⟩) 80 cap] 42)) := g4.alloc (Nat.le_of_lt g1) _
  have bW : Below W.heap.size W (W.alloc (.cells #[.slice (some ⟨w2.heap.size, 0, none⟩) 80 cap] 42)) := (Below.refl _ _).alloc (Nat.le_refl _) _
  have P3 : PX w w.heap.size ⟨nm, st, tt, ra, dec, sg, mg, bd⟩ w2.heap.size W.heap.size cap (spL 80) (W.alloc (.cells #[.slice (some ⟨w2.heap.size, 0, none⟩) 80 cap] 42)) :=
    ⟨X2.out.call b4, X2.out.lt, X2.out.below.size, g1, by simp, rangeAt_new W _ _, rfl, rangeAt_below g2 bW g1, there_below g3 bW g1⟩
  have HT3 := Lib.hid (HT2.out.below b4)
  have HE3 := Lib.hid (HE2.out.below b4)
  have q0 := P3.ox.row 0 _ rfl
  have q1 := P3.ox.row 1 _ rfl
  have q2 := P3.ox.row 2 _ rfl
  have q3 := P3.ox.row 3 _ rfl
  have q4 := P3.ox.row 4 _ rfl
  have q6 := P3.ox.row 6 _ rfl
  have q7 := P3.ox.row 7 _ rfl
  simp only [Nat.zero_add] at q0 q1 q2 q3 q4 q6 q7
  have PP3 := Lib.hid P3
  have G5 := Lib.hid g5
  clear X2 HT2 HE2 g1 g2 g3 g4 g5 b4 bW P3
  go_wp2_with fail
  refine (DY.out _ HT3.out).mono ?_
  rintro e w4 ⟨day, c, rfl, hD, hb⟩
  obtain ⟨hc0, hday⟩ : c = 0 ∧ DayIs tt 6 day 0 := by
    rcases hD with ⟨h, _⟩ | ⟨_, _, h, _⟩ | h
    · omega
    · have := OT.out; unfold timeP at this; omega
    · obtain ⟨a1, a2, a3, a4, n, y, m, z, k, a5, a6, a7⟩ := h
      exact ⟨a7, Or.inr (Or.inr ⟨a1, a2, a3, a4, n, y, m, z, k, a5, a6, rfl⟩)⟩
  subst hc0
  have HD := Lib.hid hday
  have LM1 := Lib.hid (LM.out day hday)
  have PL1 := Lib.hid (PL.out day hday)
  clear hD hday PL LM
  have PP4 := Lib.hid (PP3.out.call hb)
  have HT4 := Lib.hid (HT3.out.below hb)
  have HE4 := Lib.hid (HE3.out.below hb)
  clear hb PP3 HT3 HE3 DY q0 q1 q2 q3 q4 q6 q7
  have q0 := PP4.out.ox.row 0 _ rfl
  have q1 := PP4.out.ox.row 1 _ rfl
  have q3 := PP4.out.ox.row 3 _ rfl
  have q4 := PP4.out.ox.row 4 _ rfl
  have q6 := PP4.out.ox.row 6 _ rfl
  have q7 := PP4.out.ox.row 7 _ rfl
  simp only [Nat.zero_add] at q0 q1 q3 q4 q6 q7
  go_wp2_with fail
  refine (RA.out _ HT4.out).mono ?_
  rintro e w5 ⟨rfl, hb⟩
  have PP5 := Lib.hid (PP4.out.call hb)
  have HT5 := Lib.hid (HT4.out.below hb)
  have HE5 := Lib.hid (HE4.out.below hb)
  clear hb PP4 HT4 HE4 RA q0 q1 q3 q4 q6 q7
  have q0 := PP5.out.ox.row 0 _ rfl
  have q1 := PP5.out.ox.row 1 _ rfl
  have q3 := PP5.out.ox.row 3 _ rfl
  have q4 := PP5.out.ox.row 4 _ rfl
  have q6 := PP5.out.ox.row 6 _ rfl
  have q7 := PP5.out.ox.row 7 _ rfl
  simp only [Nat.zero_add] at q0 q1 q3 q4 q6 q7
  go_wp2_with fail
  refine (DE.out _ HT5.out).mono ?_
  rintro e w6 ⟨rfl, hb⟩
  have PP6 := Lib.hid (PP5.out.call hb)
  have HT6 := Lib.hid (HT5.out.below hb)
  have HE6 := Lib.hid (HE5.out.below hb)
  clear hb PP5 HT5 HE5 DE q0 q1 q3 q4 q6 q7
  have q0 := PP6.out.ox.row 0 _ rfl
  have q1 := PP6.out.ox.row 1 _ rfl
  have q3 := PP6.out.ox.row 3 _ rfl
  have q4 := PP6.out.ox.row 4 _ rfl
  have q6 := PP6.out.ox.row 6 _ rfl
  have q7 := PP6.out.ox.row 7 _ rfl
  simp only [Nat.zero_add] at q0 q1 q3 q4 q6 q7
  obtain ⟨M, hM⟩ : ∃ M, midL day ⟨nm, st, tt, ra, dec, sg, mg, bd⟩ = M := ⟨_, rfl⟩
  rw [hM] at LM1 PL1
  have hM2 : M = 67 :: (day.data.toList ++ (Gt.raL ra 3 ++ Gt.decL dec 2)) := hM.symm
  have lR := ra_len ra
  generalize Gt.raL ra 3 = R at *
  have lD : (Gt.decL dec 2).length = 12 := by
    have := LM1.out
    rw [hM2] at this
    have e17 := day_len17 HD.out
    simp only [List.length_cons, List.length_append, lR, e17] at this
    omega
  generalize Gt.decL dec 2 = E at *
  have zd : day.size = 17 := by rw [size_L]; exact day_len17 HD.out
  have zR : (⟨R.toArray⟩ : ByteArray).size = 12 := by rw [size_mk, lR]
  have zE : (⟨E.toArray⟩ : ByteArray).size = 12 := by rw [size_mk, lD]
  have eM : ((⟨#[67]⟩ : ByteArray) ++ day ++ ⟨R.toArray⟩ ++ ⟨E.toArray⟩) = ⟨M.toArray⟩ := by
    apply At.toL_inj
    rw [hM2]
    simp [ByteArray.data_append]
  have EM := Lib.hid eM
  have zM : (⟨M.toArray⟩ : ByteArray).size = 42 := by rw [size_mk]; exact LM1.out
  have LR := Lib.hid (And.intro lR lD)
  clear hM hM2 eM lR lD
  have NU1 := Lib.hid (fun w' (h : ES w') => NU.out w' h)
  have zs := OS.out
  clear NU
  unfold numbB at NU1
  by_cases hN : numbP nm
  · have hN1 : (if numbP nm then 0 else 5) = 0 := if_pos hN
    rw [decide_eq_true hN] at NU1
    rw [hN1] at PL1
    clear hN hN1
    go_wp2_with fail
    refine (NU1.out _ HE6.out).mono ?_
    rintro e w7 ⟨rfl, hb⟩
    have PP7 := Lib.hid (PP6.out.call hb)
    have HT7 := Lib.hid (HT6.out.below hb)
    clear hb PP6 HT6 HE6 q0 q1 q6 q7
    have q0 := PP7.out.ox.row 0 _ rfl
    have q1 := PP7.out.ox.row 1 _ rfl
    have q6 := PP7.out.ox.row 6 _ rfl
    have q7 := PP7.out.ox.row 7 _ rfl
    simp only [Nat.zero_add] at q0 q1 q6 q7
    go_wp2_with fail
    refine (put_any PP7.out 0 nm (by omega) (by omega) G5.out).mono ?_
    rintro e w8 ⟨rfl, hP⟩
    have PP8 := Lib.hid hP
    clear hP PP7 HT7 q0 q1 q6 q7
    generalize wput (spL 80) 0 nm.data.toList = L1 at *
    have q1 := PP8.out.ox.row 1 _ rfl
    have q6 := PP8.out.ox.row 6 _ rfl
    have q7 := PP8.out.ox.row 7 _ rfl
    simp only [Nat.zero_add] at q1 q6 q7
    go_wp2_with fail
    refine (put_any PP8.out 14 _ (by simp only [ByteArray.size_append, zd, zR, zE]; decide) (by simp only [ByteArray.size_append, zd, zR, zE]; decide) G5.out).mono ?_
    rintro e w9 ⟨rfl, hP⟩
    rw [EM.out, toL_mk] at hP
    have PP9 := Lib.hid hP
    clear hP PP8 q1 q6 q7 EM
    generalize wput L1 14 M = L2 at *
    have q1 := PP9.out.ox.row 1 _ rfl
    have q6 := PP9.out.ox.row 6 _ rfl
    have q7 := PP9.out.ox.row 7 _ rfl
    simp only [Nat.zero_add] at q1 q6 q7
    by_cases h9 : mg = 9999
    · rw [if_pos h9] at PL1
      subst h9
      have PL9 := Lib.hid PL1.out
      go_wp2_with fail
      refine (put_any PP9.out 77 st (by omega) (by omega) G5.out).mono ?_
      rintro e w10 ⟨rfl, hP⟩
      have BK := back_line hP
      have v0 := hP.var 0 _ rfl
      rw [Nat.zero_add] at v0
      have BB := Lib.hid hP.ox.below
      rw [PL9.out] at BK
      clear hP
      go_wp2_with fail
      go_ret2
      exact ⟨day, HD.out, rfl, BB.out⟩
    · rw [if_neg h9] at PL1
      have hmm := (mag_bd OM.out h9)
      have MT := Lib.hid (fun w' (h : Gt.Tab w') => magtext_any mg w' h (by omega) (by omega))
      have lm := magL_len (m := mg) (by omega) (by omega)
      have h92 : (mg != 9999) = true := by simpa using h9
      have EB := band_enc2 OM.out
      obtain ⟨bd0, bd1, -⟩ := band_u8 OM.out
      generalize magL mg = G at *
      generalize UInt8.ofNat bd.toNat = u at *
      have zG : (⟨G.toArray⟩ : ByteArray).size = 5 := by rw [size_mk, lm]
      have zu : (⟨#[u]⟩ : ByteArray).size = 1 := rfl
      obtain ⟨Z, hZ⟩ : ∃ Z : ByteArray, (⟨G.toArray⟩ : ByteArray) ++ ⟨#[u]⟩ = Z := ⟨_, rfl⟩
      have sa : ∀ w', (Go.Op.stringOp .add (⟨G.toArray⟩ : ByteArray) ⟨#[u]⟩).run Tryz.prog w' = .ok (.string Z) w' := fun w' => by rw [run_string_add_sum (P := Tryz.prog) (w := w') _ _ (by rw [zG, zu]; decide), hZ]
      have lZ : Z.data.toList = G ++ [u] := by rw [← hZ]; simp
      have zZ : Z.size = 6 := by rw [← hZ, ByteArray.size_append, zG, zu]
      rw [← lZ] at PL1
      have PT := Lib.hid (fun w' (h : PS w w.heap.size ⟨nm, st, tt, ra, dec, sg, mg, bd⟩ w2.heap.size W.heap.size cap L2 65 Z w') => put_ps h (by omega) (by omega) G5.out)
      have S9 : PS w w.heap.size ⟨nm, st, tt, ra, dec, sg, mg, bd⟩ w2.heap.size W.heap.size cap L2 65 Z w9 := ⟨⟨L2, Or.inl rfl, PP9.out⟩, PP9.out.tab HT0.out, by rw [← size_L, zZ, PP9.out.len]; decide⟩
      have KT := fun w' (h : PQ w w.heap.size ⟨nm, st, tt, ra, dec, sg, mg, bd⟩ w2.heap.size W.heap.size cap L2 65 Z w') => h.2.2.tab
      have KC := fun w' wx (h : PQ w w.heap.size ⟨nm, st, tt, ra, dec, sg, mg, bd⟩ w2.heap.size W.heap.size cap L2 65 Z w') (hb : Below w'.heap.size w' wx) => h.2.2.call hb
      have KP := fun w' wx (h : PQ w w.heap.size ⟨nm, st, tt, ra, dec, sg, mg, bd⟩ w2.heap.size W.heap.size cap L2 65 Z w') (hb : PX w w.heap.size ⟨nm, st, tt, ra, dec, sg, mg, bd⟩ w2.heap.size W.heap.size cap (wput L2 65 Z.data.toList) wx) => h.2.2.lift HT0.out hb
      have KS := fun w' (h : PQ w w.heap.size ⟨nm, st, tt, ra, dec, sg, mg, bd⟩ w2.heap.size W.heap.size cap L2 65 Z w') => h.2.2
      have PL2 := Lib.hid PL1.out
      clear PL1 lm hmm h9 NU1 lZ
      go_wp2_with fail
      go_region_held3 (fun w' => w'.cell? ⟨w.heap.size, 6, none⟩ = some (.int .i64 mg) ∧ w'.cell? ⟨w.heap.size, 7, none⟩ = some (.int .u8 bd) ∧ PS w w.heap.size ⟨nm, st, tt, ra, dec, sg, mg, bd⟩ w2.heap.size W.heap.size cap L2 65 Z w') (first | exact PS.q (PS.drew S9) | exact PS.q S9 | exact PS.q hk2 | exact PS.q hk | exact PS.q (by assumption)) (first | (go_at_call 35; refine (MT.out _ (KT _ (by assumption))).mono ?_; rintro e w' ⟨rfl, hb⟩; have hk := KC _ _ (by assumption) hb; clear hb) | (go_at_call 30; refine (PT.out _ (KS _ (by assumption))).mono ?_; rintro e w' ⟨rfl, hP⟩; have hk2 := KP _ _ (by assumption) hP))
      have PPa := Lib.hid hP
      clear hk hk2 hP KT KC KP KS PT MT S9 sa EB q1 q6 q7
      generalize wput L2 65 Z.data.toList = L3 at *
      have q1 := PPa.out.ox.row 1 _ rfl
      simp only [Nat.zero_add] at q1
      have PL9 := Lib.hid PL2.out
      go_wp2_with fail
      refine (put_any PPa.out 77 st (by omega) (by omega) G5.out).mono ?_
      rintro e w10 ⟨rfl, hP⟩
      have BK := back_line hP
      have v0 := hP.var 0 _ rfl
      rw [Nat.zero_add] at v0
      have BB := Lib.hid hP.ox.below
      rw [PL9.out] at BK
      clear hP
      go_wp2_with fail
      go_ret2
      exact ⟨day, HD.out, rfl, BB.out⟩
  · have hN1 : (if numbP nm then 0 else 5) = 5 := if_neg hN
    rw [decide_eq_false hN] at NU1
    rw [hN1] at PL1
    clear hN hN1
    go_wp2_with fail
    refine (NU1.out _ HE6.out).mono ?_
    rintro e w7 ⟨rfl, hb⟩
    have PP7 := Lib.hid (PP6.out.call hb)
    have HT7 := Lib.hid (HT6.out.below hb)
    clear hb PP6 HT6 HE6 q0 q1 q6 q7
    have q0 := PP7.out.ox.row 0 _ rfl
    have q1 := PP7.out.ox.row 1 _ rfl
    have q6 := PP7.out.ox.row 6 _ rfl
    have q7 := PP7.out.ox.row 7 _ rfl
    simp only [Nat.zero_add] at q0 q1 q6 q7
    go_wp2_with fail
    refine (put_any PP7.out 5 nm (by omega) (by omega) G5.out).mono ?_
    rintro e w8 ⟨rfl, hP⟩
    have PP8 := Lib.hid hP
    clear hP PP7 HT7 q0 q1 q6 q7
    generalize wput (spL 80) 5 nm.data.toList = L1 at *
    have q1 := PP8.out.ox.row 1 _ rfl
    have q6 := PP8.out.ox.row 6 _ rfl
    have q7 := PP8.out.ox.row 7 _ rfl
    simp only [Nat.zero_add] at q1 q6 q7
    go_wp2_with fail
    refine (put_any PP8.out 14 _ (by simp only [ByteArray.size_append, zd, zR, zE]; decide) (by simp only [ByteArray.size_append, zd, zR, zE]; decide) G5.out).mono ?_
    rintro e w9 ⟨rfl, hP⟩
    rw [EM.out, toL_mk] at hP
    have PP9 := Lib.hid hP
    clear hP PP8 q1 q6 q7 EM
    generalize wput L1 14 M = L2 at *
    have q1 := PP9.out.ox.row 1 _ rfl
    have q6 := PP9.out.ox.row 6 _ rfl
    have q7 := PP9.out.ox.row 7 _ rfl
    simp only [Nat.zero_add] at q1 q6 q7
    by_cases h9 : mg = 9999
    · rw [if_pos h9] at PL1
      subst h9
      have PL9 := Lib.hid PL1.out
      go_wp2_with fail
      refine (put_any PP9.out 77 st (by omega) (by omega) G5.out).mono ?_
      rintro e w10 ⟨rfl, hP⟩
      have BK := back_line hP
      have v0 := hP.var 0 _ rfl
      rw [Nat.zero_add] at v0
      have BB := Lib.hid hP.ox.below
      rw [PL9.out] at BK
      clear hP
      go_wp2_with fail
      go_ret2
      exact ⟨day, HD.out, rfl, BB.out⟩
    · rw [if_neg h9] at PL1
      have hmm := (mag_bd OM.out h9)
      have MT := Lib.hid (fun w' (h : Gt.Tab w') => magtext_any mg w' h (by omega) (by omega))
      have lm := magL_len (m := mg) (by omega) (by omega)
      have h92 : (mg != 9999) = true := by simpa using h9
      have EB := band_enc2 OM.out
      obtain ⟨bd0, bd1, -⟩ := band_u8 OM.out
      generalize magL mg = G at *
      generalize UInt8.ofNat bd.toNat = u at *
      have zG : (⟨G.toArray⟩ : ByteArray).size = 5 := by rw [size_mk, lm]
      have zu : (⟨#[u]⟩ : ByteArray).size = 1 := rfl
      obtain ⟨Z, hZ⟩ : ∃ Z : ByteArray, (⟨G.toArray⟩ : ByteArray) ++ ⟨#[u]⟩ = Z := ⟨_, rfl⟩
      have sa : ∀ w', (Go.Op.stringOp .add (⟨G.toArray⟩ : ByteArray) ⟨#[u]⟩).run Tryz.prog w' = .ok (.string Z) w' := fun w' => by rw [run_string_add_sum (P := Tryz.prog) (w := w') _ _ (by rw [zG, zu]; decide), hZ]
      have lZ : Z.data.toList = G ++ [u] := by rw [← hZ]; simp
      have zZ : Z.size = 6 := by rw [← hZ, ByteArray.size_append, zG, zu]
      rw [← lZ] at PL1
      have PT := Lib.hid (fun w' (h : PS w w.heap.size ⟨nm, st, tt, ra, dec, sg, mg, bd⟩ w2.heap.size W.heap.size cap L2 65 Z w') => put_ps h (by omega) (by omega) G5.out)
      have S9 : PS w w.heap.size ⟨nm, st, tt, ra, dec, sg, mg, bd⟩ w2.heap.size W.heap.size cap L2 65 Z w9 := ⟨⟨L2, Or.inl rfl, PP9.out⟩, PP9.out.tab HT0.out, by rw [← size_L, zZ, PP9.out.len]; decide⟩
      have KT := fun w' (h : PQ w w.heap.size ⟨nm, st, tt, ra, dec, sg, mg, bd⟩ w2.heap.size W.heap.size cap L2 65 Z w') => h.2.2.tab
      have KC := fun w' wx (h : PQ w w.heap.size ⟨nm, st, tt, ra, dec, sg, mg, bd⟩ w2.heap.size W.heap.size cap L2 65 Z w') (hb : Below w'.heap.size w' wx) => h.2.2.call hb
      have KP := fun w' wx (h : PQ w w.heap.size ⟨nm, st, tt, ra, dec, sg, mg, bd⟩ w2.heap.size W.heap.size cap L2 65 Z w') (hb : PX w w.heap.size ⟨nm, st, tt, ra, dec, sg, mg, bd⟩ w2.heap.size W.heap.size cap (wput L2 65 Z.data.toList) wx) => h.2.2.lift HT0.out hb
      have KS := fun w' (h : PQ w w.heap.size ⟨nm, st, tt, ra, dec, sg, mg, bd⟩ w2.heap.size W.heap.size cap L2 65 Z w') => h.2.2
      have PL2 := Lib.hid PL1.out
      clear PL1 lm hmm h9 NU1 lZ
      go_wp2_with fail
      go_region_held3 (fun w' => w'.cell? ⟨w.heap.size, 6, none⟩ = some (.int .i64 mg) ∧ w'.cell? ⟨w.heap.size, 7, none⟩ = some (.int .u8 bd) ∧ PS w w.heap.size ⟨nm, st, tt, ra, dec, sg, mg, bd⟩ w2.heap.size W.heap.size cap L2 65 Z w') (first | exact PS.q (PS.drew S9) | exact PS.q S9 | exact PS.q hk2 | exact PS.q hk | exact PS.q (by assumption)) (first | (go_at_call 35; refine (MT.out _ (KT _ (by assumption))).mono ?_; rintro e w' ⟨rfl, hb⟩; have hk := KC _ _ (by assumption) hb; clear hb) | (go_at_call 30; refine (PT.out _ (KS _ (by assumption))).mono ?_; rintro e w' ⟨rfl, hP⟩; have hk2 := KP _ _ (by assumption) hP))
      have PPa := Lib.hid hP
      clear hk hk2 hP KT KC KP KS PT MT S9 sa EB q1 q6 q7
      generalize wput L2 65 Z.data.toList = L3 at *
      have q1 := PPa.out.ox.row 1 _ rfl
      simp only [Nat.zero_add] at q1
      have PL9 := Lib.hid PL2.out
      go_wp2_with fail
      refine (put_any PPa.out 77 st (by omega) (by omega) G5.out).mono ?_
      rintro e w10 ⟨rfl, hP⟩
      have BK := back_line hP
      have v0 := hP.var 0 _ rfl
      rw [Nat.zero_add] at v0
      have BB := Lib.hid hP.ox.below
      rw [PL9.out] at BK
      clear hP
      go_wp2_with fail
      go_ret2
      exact ⟨day, HD.out, rfl, BB.out⟩
end Ow
end Go.Proofs.YtafeigpmldgifaaGreatDoor
/-
  ParseRa and ParseDec of package angle.
-/
namespace Go.Proofs.YtafeigpmldgifaaGreatDoor
namespace Gp
open Go.RowKit Lw

theorem mul_neg {p q : Int} (h0 : -1 ≤ p) (h1 : p ≤ 999999) (g0 : 0 ≤ q) (g1 : q ≤ 15000000) : -15000000 ≤ p * q ∧ p * q ≤ 14999985000000 := by
  by_cases h : 0 ≤ p
  · have := mul_bd h h1 g0 g1
    omega
  · obtain rfl : p = -1 := by omega
    omega
theorem bad_letters (p : Int) (d : Nat) (h0 : -1 ≤ p) (h1 : p ≤ 999999) (hd : d ≤ 6) : ∃ Q T : Int, tenI d = T ∧ (1000000 : Int).tdiv T = Q ∧ 1 ≤ T ∧ 0 ≤ Q ∧ Q ≤ 15000000 ∧ -15000000 ≤ p * Q ∧ p * Q ≤ 14999985000000 := by
  have t := (tenI_bd d (by omega)).1
  have e : (1000000 : Int).tdiv (tenI d) = 1000000 / tenI d := Int.tdiv_eq_ediv_of_nonneg (by omega)
  have q := div_bd (u := 1000000) (by omega) t
  rw [← e] at q
  have m := mul_neg h0 h1 q.1 (by omega)
  exact ⟨_, _, rfl, rfl, t, q.1, by omega, m.1, m.2⟩
end Gp
end Go.Proofs.YtafeigpmldgifaaGreatDoor
/-
  The walk of Parse of package obs.
-/
namespace Go.Proofs.YtafeigpmldgifaaGreatDoor
namespace Ow
open Go.RowKit Lw Go.Proofs.YtafeigpmldgifaaGreatDoor.Ap Go.Proofs.YtafeigpmldgifaaGreatDoor.Op Go.Proofs.YtafeigpmldgifaaGreatDoor.Mp Go.Proofs.YtafeigpmldgifaaGreatDoor.Mw Go.Proofs.YtafeigpmldgifaaGreatDoor.At

def ObsPost (s : ByteArray) (w : World) (e : Ending) (w' : World) : Prop := ∃ (o : Ob) (c : Int), e = .returned (.tuple #[obsV o, .int .i64 c]) ∧ ObsIs s o c ∧ Below w.heap.size w w'
/-- The result's box. -/
structure Res (w0 w : World) : Prop where
  below : Below w0.heap.size w0 w
  lt : w0.heap.size < w.heap.size
  th : w.there w0.heap.size 0 8
theorem Res.new (w : World) : Res w (w.alloc (.cells (obsC zeroO).toArray 57)) := ⟨(Below.refl _ _).alloc (Nat.le_refl _) _, by simp, there_new _ _ _ 8 (by show 8 ≤ 8; omega)⟩
theorem Res.call {w0 w w' : World} (h : Res w0 w) (hb : Below w.heap.size w w') : Res w0 w' := ⟨below_then h.below hb, Nat.lt_of_lt_of_le h.lt hb.size, there_below h.th hb h.lt⟩
end Ow
end Go.Proofs.YtafeigpmldgifaaGreatDoor
/-
  The walk of Parse of package obs: the main way.
-/
namespace Go.Proofs.YtafeigpmldgifaaGreatDoor
namespace Ow
open Go.RowKit Lw Go.Proofs.YtafeigpmldgifaaGreatDoor.Ap Go.Proofs.YtafeigpmldgifaaGreatDoor.Op Go.Proofs.YtafeigpmldgifaaGreatDoor.Mp Go.Proofs.YtafeigpmldgifaaGreatDoor.Mw Go.Proofs.YtafeigpmldgifaaGreatDoor.At

/-- The result's box, and an observation in a box of its own. -/
structure OY (w0 : World) (b : Nat) (o : Ob) (w : World) : Prop where
  res : Res w0 w
  hb : w0.heap.size < b
  lt : b < w.heap.size
  row : w.rangeAt b 0 (obsC o)
  th : w.there b 0 8
theorem nameOf_size {s n : ByteArray} (h : NameOf s n) (h8 : s.size = 80) : n.size ≤ 7 := by
  rcases h with ⟨_, rfl, _⟩ | ⟨_, rfl, _⟩
  · exact Nat.le_trans (cutS_le _) (by rw [ByteArray.size_extract]; omega)
  · rw [ByteArray.size_extract]; omega
theorem pday_code {s : ByteArray} {t c : Int} (h : PDayIs s t c) : c = 0 ∨ c = 12 := by
  rcases h with ⟨_, _, h⟩ | ⟨_, _, h⟩
  · exact Or.inl h
  · exact Or.inr h
theorem ra_code {s : ByteArray} {t c : Int} (h : Gp.RaIs s t c) : c = 0 ∨ c = 12 := by
  rcases h with ⟨_, _, _, h⟩ | ⟨_, _, h⟩
  · exact Or.inl h
  · exact Or.inr h
theorem dec_code {s : ByteArray} {t c : Int} (h : Gp.DecIs s t c) : c = 0 ∨ c = 12 := by
  rcases h with ⟨_, _, h⟩ | ⟨_, _, h⟩
  · exact Or.inl h
  · exact Or.inr h
theorem OY.call {w0 w w' : World} {b : Nat} {o : Ob} (h : OY w0 b o w) (hb : Below w.heap.size w w') : OY w0 b o w' := ⟨h.res.call hb, h.hb, Nat.lt_of_lt_of_le h.lt hb.size, rangeAt_below h.row hb h.lt, there_below h.th hb h.lt⟩
theorem OY.set {w0 w : World} {b : Nat} {o : Ob} (h : OY w0 b o w) (i : Nat) (v : Value) (o' : Ob) (_hi : i < 8) (e : obsC o' = (obsC o).set i v) : OY w0 b o' (w.setCell ⟨b, i, none⟩ v) := by
  have hw0 : w0.heap.size ≠ b := Nat.ne_of_lt h.hb
  have out := World.cell?_setCells_out b [v] i w
  have inn := World.cell?_setCells_in b [v] i w (fun j hj => by
    have hj : j < 1 := hj
    have := (h.th (i + j) (by omega)).1
    rwa [Nat.zero_add] at this)
  have ew : w.setCells b i [v] = w.setCell ⟨b, i, none⟩ v := rfl
  have fz : ∀ p, (w.setCell ⟨b, i, none⟩ v).frozen? p = w.frozen? p := fun p => by rw [← ew, World.frozen?_setCells]
  rw [ew] at out inn
  refine ⟨⟨?_, ?_, ?_⟩, h.hb, ?_, ?_, ?_⟩
  · exact h.res.below.setCell (p := ⟨b, i, none⟩) (Nat.le_of_lt h.hb) v
  · have := sets_size b [v] i w
    rw [ew] at this
    rw [this]; exact h.res.lt
  · intro j hj
    rw [fz, out _ (fun e => absurd e hw0)]
    exact h.res.th j hj
  · have := sets_size b [v] i w
    rw [ew] at this
    rw [this]; exact h.lt
  · intro j x hx
    rw [e] at hx
    rw [Nat.zero_add]
    by_cases hj : j = i
    · subst hj
      have hl : j < (obsC o).length := _hi
      rw [List.getElem?_set_self hl] at hx
      have := inn 0 (by show 0 < 1; omega)
      rw [Nat.add_zero] at this
      rw [this]; exact hx
    · rw [List.getElem?_set_ne (fun h => hj h.symm)] at hx
      rw [out _ (fun _ _ => by show j < i ∨ i + 1 ≤ j; omega)]
      have := h.row j x hx
      rwa [Nat.zero_add] at this
  · intro j hj
    refine ⟨?_, by rw [fz]; exact (h.th j hj).2⟩
    rw [Nat.zero_add]
    by_cases hj2 : j = i
    · subst hj2
      have := inn 0 (by show 0 < 1; omega)
      rw [Nat.add_zero] at this
      rw [this]; rfl
    · rw [out _ (fun _ _ => by show j < i ∨ i + 1 ≤ j; omega)]
      have := (h.th j hj).1
      rwa [Nat.zero_add] at this
end Ow
end Go.Proofs.YtafeigpmldgifaaGreatDoor
/-
  Plain law of observations: the line of an observation is read as the rounded observation; rounding again changes nothing; no walk here.
-/
namespace Go.Proofs.YtafeigpmldgifaaGreatDoor
namespace Op
open Go.RowKit Lw Go.Proofs.YtafeigpmldgifaaGreatDoor.Ap Go.Proofs.YtafeigpmldgifaaGreatDoor.Mp Go.Proofs.YtafeigpmldgifaaGreatDoor.At Go.Proofs.YtafeigpmldgifaaGreatDoor.Ow Go.Proofs.YtafeigpmldgifaaGreatDoor.Mw

theorem line_seg {day : ByteArray} {o : Ob} (ok : okO o) (hd : DayIs o.t 6 day 0) : ∃ n1 n2, NameIs n1 n2 o.name ∧
    Seg ⟨(lineL day o).toArray⟩ n1 n2 [32, 32] day.data.toList (Gt.raL o.ra 3) (Gt.decL o.dec 2) (magF o.mag o.band) o.site.data.toList := by
  obtain ⟨_, hn, hs, _, _, _, d0, d1, _, _, hm⟩ := ok
  obtain ⟨n1, n2, e, l1, l2, hN⟩ := name_split hn
  refine ⟨n1, n2, hN, ?_, l1, l2, rfl, day_len17 hd, ra_len _, dec_len d0 d1, ?_, by rw [← size_L]; exact hs⟩
  · rw [toL_mk]
    unfold lineL rowL
    rw [e]
    simp only [List.append_assoc]
  · unfold magF
    by_cases c : o.mag = 9999
    · rw [if_pos c, spL_len]
    · rw [if_neg c, List.length_append]
      rcases hm with ⟨h, _⟩ | ⟨h1, h2, _⟩
      · exact absurd h c
      · rw [magL_len (by omega) (by omega)]; rfl
/-- The rounded observation. -/
structure Rnd (day : ByteArray) (o r : Ob) : Prop where
  name : r.name = o.name
  site : r.site = o.site
  mag : r.mag = o.mag
  band : r.band = o.band
  sg : r.sg = 100000
  le : r.t ≤ o.t
  near : o.t - r.t < 100000
  pday : PDayIs day r.t 0
  day : DayIs r.t 6 day 0
  pra : Gp.RaIs ⟨(Gt.raL o.ra 3).toArray⟩ r.ra 0
  ra : Gt.raL r.ra 3 = Gt.raL o.ra 3
  ra0 : 0 ≤ r.ra
  ra1 : r.ra < 1296000000000
  dif1 : 2 * Pl.dif r.ra o.ra ≤ 15000
  dif2 : -15000 ≤ 2 * Pl.dif r.ra o.ra
  pdec : Gp.DecIs ⟨(Gt.decL o.dec 2).toArray⟩ r.dec 0
  dec0 : -324000000000 ≤ r.dec
  dec1 : r.dec ≤ 324000000000
  dd1 : r.dec - o.dec ≤ 5000
  dd2 : -5000 ≤ r.dec - o.dec
  dec : (o.dec < 0 ∧ r.dec = 0 ∧ Gt.decL o.dec 2 = 45 :: Gt.clockL 0 2) ∨ Gt.decL r.dec 2 = Gt.decL o.dec 2
theorem Rnd.okO {day : ByteArray} {o r : Ob} (h : Rnd day o r) (ok : okO o) : Op.okO r := by
  obtain ⟨_, a2, a3, a4, _, _, _, _, _, _, a9⟩ := ok
  have := h.sg
  exact ⟨day_time h.day, by rw [h.name]; exact a2, by rw [h.site]; exact a3, by rw [h.site]; exact a4, h.ra0, h.ra1, h.dec0, h.dec1, by omega, by omega, by rw [h.mag, h.band]; exact a9⟩
theorem rnd_ex {day : ByteArray} {o : Ob} (ok : okO o) (hd : DayIs o.t 6 day 0) : ∃ r, Rnd day o r := by
  obtain ⟨_, hn, hs, _, _, _, d0, d1, _, _, hm⟩ := ok
  obtain ⟨v, q1, q2, q3, _⟩ := day_parse hd
  obtain ⟨N, n1, n2, n3, n4, n5, n6⟩ := ra_val o.ra
  obtain ⟨c, c1, c2, c3, c4, c5, c6⟩ := dec_valu d0 d1
  exact ⟨⟨o.name, o.site, v, ((N * 15000 : Nat) : Int), c, 100000, o.mag, o.band⟩, rfl, rfl, rfl, rfl, rfl, q2, day_near hd q3 q1 q2, q1, q3, n3, by rw [n2]; exact n4, by simp only; omega, by simp only; omega, n5, n6, c1, c2, c3, c4, c5, c6⟩
theorem band_u8 {m b : Int} (h : magP m b) : 0 ≤ b ∧ b ≤ 255 ∧ ((UInt8.ofNat b.toNat).toNat : Int) = b := by
  have hb : 0 ≤ b ∧ b ≤ 255 := by
    unfold magP ltP at h
    omega
  refine ⟨hb.1, hb.2, ?_⟩
  rw [UInt8.toNat_ofNat', Nat.mod_eq_of_lt (show b.toNat < 2 ^ 8 by omega)]
  omega
theorem line_good {day : ByteArray} {o r : Ob} (ok : okO o) (hd : DayIs o.t 6 day 0) (R : Rnd day o r) : Good ⟨(lineL day o).toArray⟩ r := by
  have okr := R.okO ok
  obtain ⟨n1, n2, hN, G⟩ := line_seg ok hd
  obtain ⟨_, hn, hs, _, _, _, d0, d1, _, _, hm⟩ := ok
  generalize (⟨(lineL day o).toArray⟩ : ByteArray) = s at *
  obtain ⟨x1, r1, s1, m1⟩ := day_split hd
  obtain ⟨x2, r2, s2, m2⟩ := ra_split o.ra
  obtain ⟨x3, r3, s3, m3⟩ := dec_split d0 d1
  have e1 : s.extract 15 32 = day := by rw [G.x15, mk_toL]
  have c1 : cutS (s.extract 15 32) = day := by
    rw [G.x15, s1, show x1 ++ 46 :: decL r1 6 = (x1 ++ [46]) ++ decL r1 (5 + 1) by simp, cut_dec, ← mk_toL day, s1]
    simp
  have c2 : cutS (s.extract 32 44) = ⟨(Gt.raL o.ra 3).toArray⟩ := by
    rw [G.x32, s2, show x2 ++ 46 :: decL r2 3 = (x2 ++ [46]) ++ decL r2 (2 + 1) by simp, cut_dec]
  have c3 : cutS (s.extract 44 56) = ⟨(Gt.decL o.dec 2).toArray⟩ := by
    rw [G.x44, s3, show x3 ++ 46 :: decL r3 2 = (x3 ++ [46]) ++ decL r3 (1 + 1) by simp, cut_dec]
  have p1 : decs (cutS (s.extract 15 32)) = 6 := by
    rw [c1, ← mk_toL day, s1, decs_app m1, decL_len]
  have p2 : decs (cutS (s.extract 32 44)) = 3 := by rw [c2, s2, decs_app m2, decL_len]
  have p3 : decs (cutS (s.extract 44 56)) = 2 := by rw [c3, s3, decs_app m3, decL_len]
  refine ⟨G.size, ⟨G.b12, G.b13, G.b14⟩, by rw [G.x56]; exact blank_sp 9, by rw [G.x71]; exact blank_sp 6, by rw [p1]; omega, by rw [p2]; omega, by rw [p3]; omega, by rw [c1]; exact R.pday, by rw [c2]; exact R.pra, by rw [c3]; exact R.pdec, ?_, ?_, ?_, ?_, okr⟩
  · rw [G.x77, mk_toL]; exact R.site
  · rw [p3, if_neg (by omega), if_neg (by omega)]; exact R.sg
  · rw [G.x0, G.x5, R.name]; exact hN
  · rw [R.mag, R.band]
    obtain ⟨b0, b1, b2⟩ := band_u8 hm
    by_cases c : o.mag = 9999
    · have hb : o.band = 32 := by
        unfold magP at hm
        omega
      refine Or.inl ⟨?_, c, hb⟩
      rw [G.x65]
      unfold magF
      rw [if_pos c]
      exact blank_sp 6
    · have hmm : -500 ≤ o.mag ∧ o.mag ≤ 3000 := by unfold magP at hm; omega
      have eM : magF o.mag o.band = magL o.mag ++ [UInt8.ofNat o.band.toNat] := by unfold magF; rw [if_neg c]
      have eT : (magF o.mag o.band).take 5 = magL o.mag := by
        rw [eM]
        have := magL_len (m := o.mag) (by omega) (by omega)
        rw [← this, List.take_left]
      refine Or.inr ⟨?_, ?_, ?_⟩
      · rw [G.x65]
        intro h
        obtain ⟨a, b, d, e, hl, _⟩ := mag_list hmm.1 hmm.2
        have := h 46 (by rw [toL_mk, eM, hl]; simp)
        exact absurd this (by decide)
      · rw [G.x6570, eT]; exact magL_is hmm.1 hmm.2
      · rw [G.b70 eM, b2]
theorem dec_zero : Gp.DecIs ⟨(Gt.decL 0 2).toArray⟩ 0 0 := by
  obtain ⟨v, h, _, _, _, _⟩ := Gt.dec_back 0 2 (by omega) (by omega) (by omega)
  have h' := h
  obtain ⟨c1, c2, c3⟩ := Gt.clock_reads 0 2 (by omega) (by omega)
  have c4 := c3 10000
  have z : Gt.rndN (0 : Int).natAbs (1000000 / 10 ^ 2) = 0 := by decide
  have hD : Gt.decL 0 2 = 43 :: Gt.clockL 0 2 := by unfold Gt.decL; rw [z]; rfl
  have e : ((10000 * 10 ^ 2 : Nat) : Int) = 1000000 := rfl
  rw [e] at c4
  have : v = 0 := by
    rcases h with ⟨_, h, _⟩ | ⟨_, _, h⟩
    · rw [hD, Gp.get0, Gp.tail_mk, if_neg (by decide), c4] at h
      rw [h]; simp
    · cases h
  rw [this] at h'
  exact h'
/-- Rounding again changes nothing. -/
theorem Rnd.again {day : ByteArray} {o r q : Ob} (h : Rnd day o r) (g : Rnd day r q) : q = r := by
  have e1 := (g.pday.uniq h.pday).1
  have e2 : q.ra = r.ra := by
    have := g.pra
    rw [h.ra] at this
    exact (this.det h.pra).1
  have e3 : q.dec = r.dec := by
    rcases h.dec with ⟨_, z, _⟩ | e
    · have := g.pdec
      rw [z] at this ⊢
      exact (this.det dec_zero).1
    · have := g.pdec
      rw [e] at this
      exact (this.det h.pdec).1
  have e4 := g.name
  have e5 := g.site
  have e6 := g.mag
  have e7 := g.band
  have e8 := g.sg.trans h.sg.symm
  cases q; cases r
  simp only at e1 e2 e3 e4 e5 e6 e7 e8
  rw [e1, e2, e3, e4, e5, e6, e7, e8]
end Op
end Go.Proofs.YtafeigpmldgifaaGreatDoor
/-
  The contracts of package obs: Print, Parse, Round, for any observation and string.
-/
namespace Go.Proofs.YtafeigpmldgifaaGreatDoor
namespace Ow
open Go.RowKit Lw Go.Proofs.YtafeigpmldgifaaGreatDoor.Ap Go.Proofs.YtafeigpmldgifaaGreatDoor.Op Go.Proofs.YtafeigpmldgifaaGreatDoor.Mp Go.Proofs.YtafeigpmldgifaaGreatDoor.Mw Go.Proofs.YtafeigpmldgifaaGreatDoor.At

/-- The bounds of a Go observation. -/
structure OB (o : Ob) : Prop where
  t0 : -9223372036854775808 ≤ o.t
  t1 : o.t ≤ 9223372036854775807
  b0 : 0 ≤ o.band
  b1 : o.band ≤ 255
  n1 : o.name.size ≤ maxLen
  n2 : o.site.size ≤ maxLen
def PrintPost (o : Ob) (w : World) (e : Ending) (w' : World) : Prop := ∃ (s : ByteArray) (c : Int), e = .returned (.tuple #[.string s, .int .i64 c]) ∧ PrintIs o s c ∧ Below w.heap.size w w'
theorem print_any (o : Ob) (w : World) (hT : Gt.Tab w) (hE : ES w) (hb : OB o) : Calls Tryz.prog 19 #[obsV o] w (PrintPost o w) := by
  by_cases ok : okO o
  · refine (print_ok o w hT hE hb.t0 hb.t1 hb.b0 hb.b1 hb.n1 hb.n2 ok).mono ?_
    rintro e w' ⟨day, hd, rfl, h⟩
    exact ⟨_, 0, rfl, Or.inl ⟨ok, ⟨day, hd, rfl⟩, rfl⟩, h⟩
  · refine (print_bad o w hE hb.t0 hb.t1 hb.b0 hb.b1 hb.n1 hb.n2 ok).mono ?_
    rintro e w' ⟨rfl, h⟩
    exact ⟨_, 8, rfl, Or.inr ⟨ok, rfl, rfl⟩, h⟩
/-- What Round returns. -/
def RoundIs (o q : Ob) (c : Int) : Prop := (∃ s, PrintIs o s 0 ∧ ObsIs s q c) ∨ (¬ okO o ∧ q = zeroO ∧ c = 8)
theorem RoundIs.uniq {o q q' : Ob} {c c' : Int} (a : RoundIs o q c) (b : RoundIs o q' c') : q = q' ∧ c = c' := by
  have ok : ∀ {s}, PrintIs o s 0 → okO o := fun h => by
    rcases h with ⟨h, _⟩ | ⟨_, _, h⟩
    · exact h
    · cases h
  rcases a with ⟨s, a1, a2⟩ | ⟨a1, a2, a3⟩ <;> rcases b with ⟨s', b1, b2⟩ | ⟨b1, b2, b3⟩
  · obtain ⟨rfl, _⟩ := a1.uniq b1
    exact a2.uniq b2
  · exact absurd (ok a1) b1
  · exact absurd (ok b1) a1
  · exact ⟨by rw [a2, b2], by omega⟩
def RoundPost (o : Ob) (w : World) (e : Ending) (w' : World) : Prop := ∃ (q : Ob) (c : Int), e = .returned (.tuple #[obsV q, .int .i64 c]) ∧ RoundIs o q c ∧ Below w.heap.size w w'
/-- The boxes of Round. -/
structure RX (w0 : World) (o : Ob) (w : World) : Prop where
  below : Below w0.heap.size w0 w
  lt : w0.heap.size + 1 < w.heap.size
  row : w.rangeAt w0.heap.size 0 (obsC o)
  th : w.there (w0.heap.size + 1) 0 8
theorem RX.call {w0 w w' : World} {o : Ob} (h : RX w0 o w) (hb : Below w.heap.size w w') : RX w0 o w' :=
  ⟨below_then h.below hb, Nat.lt_of_lt_of_le h.lt hb.size, rangeAt_below h.row hb (by have := h.lt; omega), there_below h.th hb h.lt⟩
theorem RX.new (w : World) (o : Ob) : RX w o ((w.alloc (.cells (obsC o).toArray 57)).alloc (.cells (obsC zeroO).toArray 57)) := by
  have b1 : Below w.heap.size w (w.alloc (.cells (obsC o).toArray 57)) := (Below.refl _ _).alloc (Nat.le_refl _) _
  refine ⟨b1.alloc (by simp) _, by simp, rangeAt_below (rangeAt_new w _ _) ((Below.refl _ _).alloc (Nat.le_refl _) _) (by simp), ?_⟩
  have := there_new (w.alloc (.cells (obsC o).toArray 57)) (obsC zeroO).toArray 57 8 (by show 8 ≤ 8; omega)
  rwa [show (w.alloc (.cells (obsC o).toArray 57)).heap.size = w.heap.size + 1 by simp] at this
theorem print_size {o : Ob} {s : ByteArray} {c : Int} (h : PrintIs o s c) : s.size ≤ 80 := by
  rcases h with ⟨ok, ⟨day, hd, rfl⟩, _⟩ | ⟨_, rfl, _⟩
  · obtain ⟨n1, n2, _, G⟩ := line_seg ok hd
    rw [G.size]; omega
  · decide
end Ow
end Go.Proofs.YtafeigpmldgifaaGreatDoor
/-
  Plain law of lists of observations: what PrintAll, ParseAll say; no walk here.
-/
namespace Go.Proofs.YtafeigpmldgifaaGreatDoor
namespace Op
open Go.RowKit Lw Go.Proofs.YtafeigpmldgifaaGreatDoor.Ap Go.Proofs.YtafeigpmldgifaaGreatDoor.Mp Go.Proofs.YtafeigpmldgifaaGreatDoor.At Go.Proofs.YtafeigpmldgifaaGreatDoor.Ow Go.Proofs.YtafeigpmldgifaaGreatDoor.Mw

def nlS : ByteArray := ⟨#[10]⟩
/-- The error of a list. -/
def allC (l : List Ob) : Int := if 500 < l.length then 4 else if ∀ o ∈ l, okO o then 0 else 8
theorem allC_zero {l : List Ob} (h : l.length ≤ 500) (g : ∀ o ∈ l, okO o) : allC l = 0 := by unfold allC; rw [if_neg (by omega), if_pos g]
theorem allC_many {l : List Ob} (h : 500 < l.length) : allC l = 4 := by unfold allC; rw [if_pos h]
theorem allC_bad {l : List Ob} {i : Nat} (h : l.length ≤ 500) (hi : i < l.length) (g : ¬ okO l[i]) : allC l = 8 := by
  unfold allC; rw [if_neg (by omega), if_neg (fun k => g (k _ (List.getElem_mem hi)))]
theorem allC_ok {l : List Ob} (h : allC l = 0) : l.length ≤ 500 ∧ ∀ o ∈ l, okO o := by
  unfold allC at h
  by_cases c : 500 < l.length
  · rw [if_pos c] at h; cases h
  · rw [if_neg c] at h
    by_cases d : ∀ o ∈ l, okO o
    · exact ⟨by omega, d⟩
    · rw [if_neg d] at h; cases h
/-- The lines of the first k observations. -/
def LinesTo (l : List Ob) : Nat → ByteArray → Prop
  | 0, s => s = ByteArray.empty
  | k + 1, s => ∃ a b o, LinesTo l k a ∧ l[k]? = some o ∧ PrintIs o b 0 ∧ s = a ++ (b ++ nlS)
theorem LinesTo.uniq {l : List Ob} : ∀ {k : Nat} {s s' : ByteArray}, LinesTo l k s → LinesTo l k s' → s = s'
  | 0, _, _, h, h' => h.trans h'.symm
  | _ + 1, _, _, ⟨_, _, _, h1, h2, h3, h4⟩, ⟨_, _, _, g1, g2, g3, g4⟩ => by
    obtain rfl := LinesTo.uniq h1 g1
    obtain rfl := Option.some.inj (h2.symm.trans g2)
    obtain ⟨rfl, _⟩ := h3.uniq g3
    rw [h4, g4]
theorem print0_size {o : Ob} {s : ByteArray} (h : PrintIs o s 0) : s.size = 80 := by
  rcases h with ⟨ok, ⟨day, hd, rfl⟩, _⟩ | ⟨_, _, h⟩
  · obtain ⟨n1, n2, _, G⟩ := line_seg ok hd
    rw [G.size]
  · cases h
theorem LinesTo.size {l : List Ob} : ∀ {k : Nat} {s : ByteArray}, LinesTo l k s → s.size = 81 * k
  | 0, _, h => by rw [h]; rfl
  | k + 1, _, ⟨_, _, _, h1, _, h3, h4⟩ => by
    rw [h4, ByteArray.size_append, ByteArray.size_append, h1.size, print0_size h3, show nlS.size = 1 from rfl]; omega
/-- What PrintAll returns. -/
def PrintAllIs (l : List Ob) (s : ByteArray) (c : Int) : Prop := (allC l = 0 ∧ LinesTo l l.length s ∧ c = 0) ∨ (allC l ≠ 0 ∧ s = ByteArray.empty ∧ c = allC l)
theorem PrintAllIs.uniq {l : List Ob} {s s' : ByteArray} {c c' : Int} (a : PrintAllIs l s c) (b : PrintAllIs l s' c') : s = s' ∧ c = c' := by
  rcases a with ⟨a1, a2, a3⟩ | ⟨a1, a2, a3⟩ <;> rcases b with ⟨b1, b2, b3⟩ | ⟨b1, b2, b3⟩
  · exact ⟨a2.uniq b2, by omega⟩
  · exact absurd a1 b1
  · exact absurd b1 a1
  · exact ⟨by rw [a2, b2], by omega⟩
/-- A line of a file. -/
def StepAt (s : ByteArray) (k : Nat) (o : Ob) : Prop := 81 * k + 81 ≤ s.size ∧ Good (s.extract (81 * k) (81 * k + 80)) o ∧ bt s (81 * k + 80) = 10
/-- The first k lines are read. -/
def PartTo (s : ByteArray) : Nat → List Ob → Prop
  | 0, l => l = []
  | k + 1, l => ∃ l' o, PartTo s k l' ∧ StepAt s k o ∧ l = l' ++ [o]
theorem PartTo.uniq {s : ByteArray} : ∀ {k : Nat} {l l' : List Ob}, PartTo s k l → PartTo s k l' → l = l'
  | 0, _, _, h, h' => h.trans h'.symm
  | _ + 1, _, _, ⟨_, _, h1, h2, h3⟩, ⟨_, _, g1, g2, g3⟩ => by
    obtain rfl := PartTo.uniq h1 g1
    obtain rfl := h2.2.1.uniq g2.2.1
    rw [h3, g3]
theorem PartTo.len {s : ByteArray} : ∀ {k : Nat} {l : List Ob}, PartTo s k l → l.length = k ∧ 81 * k ≤ s.size
  | 0, _, h => by rw [h]; exact ⟨rfl, by omega⟩
  | k + 1, _, ⟨_, _, h1, h2, h3⟩ => by
    obtain ⟨e1, e2⟩ := h1.len
    rw [h3]
    refine ⟨by simp [e1], ?_⟩
    have := h2.1
    omega
theorem PartTo.step {s : ByteArray} : ∀ {k : Nat} {l : List Ob}, PartTo s k l → ∀ j, j < k → ∃ o, StepAt s j o
  | 0, _, _, j, hj => by omega
  | k + 1, _, ⟨_, o, h1, h2, _⟩, j, hj => by
    by_cases e : j = k
    · subst e; exact ⟨o, h2⟩
    · exact h1.step j (by omega)
/-- What ParseAll returns. -/
def ParseAllIs (s : ByteArray) (l : List Ob) (c : Int) : Prop := ∃ k l', PartTo s k l' ∧
  ((81 * k = s.size ∧ k ≤ 500 ∧ l = l' ∧ c = 0) ∨ (81 * k = s.size ∧ 500 < k ∧ l = [] ∧ c = 4) ∨ (81 * k < s.size ∧ (∀ o, ¬ StepAt s k o) ∧ l = [] ∧ c = 12))
theorem ParseAllIs.uniq {s : ByteArray} {l l' : List Ob} {c c' : Int} (a : ParseAllIs s l c) (b : ParseAllIs s l' c') : l = l' ∧ c = c' := by
  obtain ⟨k, m, a1, a2⟩ := a
  obtain ⟨k', m', b1, b2⟩ := b
  have e : k = k' := by
    rcases Nat.lt_trichotomy k k' with h | h | h
    · obtain ⟨o, ho⟩ := b1.step k h
      have := b1.len.2
      have := ho.1
      rcases a2 with ⟨e, _⟩ | ⟨e, _⟩ | ⟨_, e, _⟩
      · omega
      · omega
      · exact absurd ho (e o)
    · exact h
    · obtain ⟨o, ho⟩ := a1.step k' h
      have := a1.len.2
      have := ho.1
      rcases b2 with ⟨e, _⟩ | ⟨e, _⟩ | ⟨_, e, _⟩
      · omega
      · omega
      · exact absurd ho (e o)
  subst e
  obtain rfl := a1.uniq b1
  rcases a2 with ⟨a3, a4, a5, a6⟩ | ⟨a3, a4, a5, a6⟩ | ⟨a3, a4, a5, a6⟩ <;> rcases b2 with ⟨b3, b4, b5, b6⟩ | ⟨b3, b4, b5, b6⟩ | ⟨b3, b4, b5, b6⟩
  · exact ⟨a5.trans b5.symm, by omega⟩
  · omega
  · omega
  · omega
  · exact ⟨a5.trans b5.symm, by omega⟩
  · omega
  · omega
  · omega
  · exact ⟨a5.trans b5.symm, by omega⟩
end Op
end Go.Proofs.YtafeigpmldgifaaGreatDoor
/-
  Plain law of catalogues: the text of a catalogue; no walk here.
-/
namespace Go.Proofs.YtafeigpmldgifaaGreatDoor
namespace Kp
open Go.RowKit Lw Go.Proofs.YtafeigpmldgifaaGreatDoor.Dp Go.Proofs.YtafeigpmldgifaaGreatDoor.Op

/-- An object with its observations. -/
structure Fl where
  pr : Dg
  al : List Dg
  ob : List Ob
/-- A catalogue. -/
structure Ct where
  fl : List Fl
  rest : List Ob
  notes : List ByteArray
def okF (f : Fl) : Prop := f.al ≠ [] ∧ (∀ d ∈ f.al, okG d) ∧ ∀ o ∈ f.ob, okO o
def okC (c : Ct) : Prop := (∀ f ∈ c.fl, okF f) ∧ ∀ o ∈ c.rest, okO o
/-- The names of an object, one after another. -/
def eqS : List UInt8 := [32, 61, 32]
def headS (l : List Dg) : ByteArray := ⟨([42, 32] ++ Lib.join (l.map textG) eqS ++ [10]).toArray⟩
/-- The text of the first k objects. -/
def ObjTo (l : List Fl) : Nat → ByteArray → Prop
  | 0, s => s = ByteArray.empty
  | k + 1, s => ∃ a f t, ObjTo l k a ∧ l[k]? = some f ∧ LinesTo f.ob f.ob.length t ∧ s = (a ++ headS f.al) ++ t
theorem ObjTo.uniq {l : List Fl} : ∀ {k : Nat} {s s' : ByteArray}, ObjTo l k s → ObjTo l k s' → s = s'
  | 0, _, _, h, h' => h.trans h'.symm
  | _ + 1, _, _, ⟨_, _, _, h1, h2, h3, h4⟩, ⟨_, _, _, g1, g2, g3, g4⟩ => by
    obtain rfl := ObjTo.uniq h1 g1
    obtain rfl := Option.some.inj (h2.symm.trans g2)
    obtain rfl := h3.uniq g3
    rw [h4, g4]
def starS : ByteArray := ⟨#[42, 10]⟩
def hashS : ByteArray := ⟨#[35, 32]⟩
def noteS (n : ByteArray) : ByteArray := (hashS ++ n) ++ nlS
def notesTo (l : List ByteArray) (s : ByteArray) : Nat → ByteArray
  | 0 => s
  | k + 1 => notesTo l s k ++ (match l[k]? with | some n => noteS n | none => ByteArray.empty)
theorem notesTo_step {l : List ByteArray} (s : ByteArray) {k : Nat} (h : k < l.length) : notesTo l s (k + 1) = notesTo l s k ++ noteS l[k] := by
  rw [notesTo, List.getElem?_eq_getElem h]
/-- What Print gives. -/
def CatIs (c : Ct) (s : ByteArray) (k : Int) : Prop := (okC c ∧ (∃ a t, ObjTo c.fl c.fl.length a ∧ LinesTo c.rest c.rest.length t ∧ s = notesTo c.notes ((a ++ starS) ++ t) c.notes.length) ∧ k = 0) ∨ (¬ okC c ∧ s = ByteArray.empty ∧ k = 8)
theorem CatIs.uniq {c : Ct} {s s' : ByteArray} {k k' : Int} (a : CatIs c s k) (b : CatIs c s' k') : s = s' ∧ k = k' := by
  rcases a with ⟨a1, ⟨x, t, a2, a3, a4⟩, a5⟩ | ⟨a1, a2, a3⟩ <;> rcases b with ⟨b1, ⟨x', t', b2, b3, b4⟩, b5⟩ | ⟨b1, b2, b3⟩
  · obtain rfl := a2.uniq b2
    obtain rfl := a3.uniq b3
    exact ⟨by rw [a4, b4], by omega⟩
  · exact absurd a1 b1
  · exact absurd b1 a1
  · exact ⟨by rw [a2, b2], by omega⟩
/-- Sizes. -/
def maxTxt : Nat := 60
theorem tail_len3 (l : List (List UInt8)) (h : ∀ x ∈ l, x.length ≤ maxTxt) : (Lib.joinTail eqS l).length ≤ l.length * 63 := by
  induction l with
  | nil => exact Nat.le_refl _
  | cons a r ih =>
    have h1 := h a (List.mem_cons_self)
    have h2 := ih (fun x hx => h x (List.mem_cons_of_mem _ hx))
    have e3 : eqS.length = 3 := rfl
    simp only [Lib.joinTail, List.map_cons, List.flatten_cons, List.length_append, List.length_cons, e3] at h2 ⊢
    unfold maxTxt at h1
    omega
theorem join_len (l : List (List UInt8)) (h : ∀ x ∈ l, x.length ≤ maxTxt) : (Lib.join l eqS).length ≤ l.length * 63 := by
  cases l with
  | nil => exact Nat.zero_le _
  | cons a r =>
    have h1 := h a (List.mem_cons_self)
    have h2 := tail_len3 r (fun x hx => h x (List.mem_cons_of_mem _ hx))
    rw [Lib.join_cons, List.length_append, List.length_cons]
    unfold maxTxt at h1
    omega
theorem join_snoc (a : List UInt8) (l : List (List UInt8)) (x sep : List UInt8) : Lib.join (a :: (l ++ [x])) sep = Lib.join (a :: l) sep ++ (sep ++ x) := by
  rw [Lib.join_cons, Lib.join_cons, Lib.joinTail, Lib.joinTail, List.map_append, List.flatten_append]
  simp [List.append_assoc]
theorem text_short {d : Dg} (g : okG d) : (textG d).length ≤ maxTxt := by
  unfold textG
  have hb := okD_bd g
  by_cases hn : 0 < d.n
  · rw [if_pos hn]
    have := Lib.itoa_length_le d.n (by omega) (by omega)
    unfold maxTxt
    omega
  · rw [if_neg hn]
    have hy : 1800 ≤ d.y ∧ d.y ≤ 2099 ∧ 0 ≤ d.c ∧ d.c ≤ 619 := by
      have g2 : okD d.n d.y d.h d.s d.c := g
      unfold okD at g2
      omega
    have h1 := Lib.itoa_length_le d.y (by omega) (by omega)
    have h2 := Lib.itoa_length_le d.c (by omega) (by omega)
    have h3 : (if 0 < d.c then Lib.itoa d.c else []).length ≤ 21 := by
      split
      · exact h2
      · exact Nat.zero_le _
    simp only [List.length_append, List.length_cons, List.length_nil]
    unfold maxTxt
    omega
end Kp
end Go.Proofs.YtafeigpmldgifaaGreatDoor
/-
  The walk of Great of the reference of observations.
-/
namespace Go.Proofs.YtafeigpmldgifaaGreatDoor
namespace Ow
open Go.RowKit Lw Go.Proofs.YtafeigpmldgifaaGreatDoor.Ap Go.Proofs.YtafeigpmldgifaaGreatDoor.Op Go.Proofs.YtafeigpmldgifaaGreatDoor.Mp Go.Proofs.YtafeigpmldgifaaGreatDoor.Mw

/-- Observations in a row of memory. -/
def ObsAt (w : World) (b off : Nat) (l : List Ob) : Prop := ∀ i (h : i < l.length), w.rangeAt b (off + i * 8) (obsC (l[i]'h))
theorem ObsAt.below {w w' : World} {b off : Nat} {l : List Ob} (h : ObsAt w b off l) (hb : Below w.heap.size w w') (lt : b < w.heap.size) : ObsAt w' b off l := fun i hi => rangeAt_below (h i hi) hb lt
/-- An observation with long names. -/
def longP (o : Ob) : Prop := 100 < o.name.size ∨ 100 < o.site.size
instance (o : Ob) : Decidable (longP o) := by unfold longP; infer_instance
def greatB (l : List Ob) (most : Int) : Bool := decide ((∃ o ∈ l, longP o) ∨ (most < l.length ∧ (l.length : Int) ≤ 500) ∨ 510 < (l.length : Int))
theorem great_yes {l : List Ob} {most : Int} {i : Nat} (h : i < l.length) (g : longP l[i]) : greatB l most = true := decide_eq_true (Or.inl ⟨_, List.getElem_mem h, g⟩)
theorem great_no {l : List Ob} {most : Int} (h : ∀ i (hi : i < l.length), ¬ longP (l[i]'hi)) : greatB l most = decide ((most < l.length ∧ (l.length : Int) ≤ 500) ∨ 510 < (l.length : Int)) := by
  refine decide_eq_decide.2 ⟨fun g => ?_, fun g => Or.inr g⟩
  rcases g with ⟨o, ho, g⟩ | g
  · obtain ⟨i, hi, rfl⟩ := List.getElem_of_mem ho
    exact absurd g (h i hi)
  · exact g
set_option maxRecDepth 100000 in
set_option maxHeartbeats 4000000 in
theorem great_any (b off cap : Nat) (l : List Ob) (most : Int) (w : World) (hl : ObsAt w b off l) (hm : l.length ≤ 1000000) (hn : ∀ o ∈ l, o.name.size ≤ maxLen ∧ o.site.size ≤ maxLen) :
    Calls Tryz.prog 7 #[.slice (some ⟨b, off, none⟩) l.length cap, .int .i64 most] w fun e w' => e = .returned (.bool (greatB l most)) ∧ w = w' := by
  have HL := Lib.hid hl
  have HN := Lib.hid hn
  have GY := Lib.hid (fun i (h : i < l.length) (g : longP l[i]) => great_yes (most := most) h g)
  obtain ⟨n, hnl⟩ : ∃ n, l.length = n := ⟨_, rfl⟩
  have GN : Hid ((∀ i (hi : i < l.length), ¬ longP (l[i]'hi)) → greatB l most = decide ((most < (n : Int) ∧ (n : Int) ≤ 500) ∨ 510 < (n : Int))) := Lib.hid fun h => by rw [great_no h, hnl]
  clear hl hn
  generalize greatB l most = gb at *
  rw [hnl] at hm ⊢
  have NL := Lib.hid hnl
  clear hnl
  go_enter Tryz.func7, Tryz.ntmps7
  go_wp2_with fail
  go_loop [5] (fun i => ∃ k : Nat, k ≤ n ∧ i = .int .i64 k ∧ Hid (∀ j (h : j < l.length), j < k → ¬ longP (l[j]'h))) (fun i => n - (intOf i).toNat)
  case atStart => exact ⟨0, Nat.zero_le _, rfl, Lib.hid (fun j _ h => by omega)⟩
  case round =>
    obtain ⟨k, hk, rfl, D⟩ := hrel
    by_cases hlt : k < n
    · have hkl : k < l.length := by rw [NL.out]; exact hlt
      have r := HL.out k hkl
      have q0 := r 0 _ rfl
      have q1 := r 1 _ rfl
      rw [Nat.add_zero] at q0
      have i1 : (k : Int) < (n : Int) := by omega
      have GYk := Lib.hid (GY.out k hkl)
      have DK := Lib.hid (fun (g : ¬ longP (l[k]'hkl)) => (show ∀ j (h : j < l.length), j < k + 1 → ¬ longP (l[j]'h) from fun j h hj => by
        by_cases e : j = k
        · subst e; exact g
        · exact D.out j h (by omega)))
      have zz := HN.out _ (List.getElem_mem hkl)
      unfold longP maxLen at *
      clear r D
      generalize (l[k]'hkl).name = nm at *
      generalize (l[k]'hkl).site = st at *
      obtain ⟨z1, z2⟩ := zz
      by_cases g1 : 100 < nm.size
      · have e := Lib.hid (GYk.out (Or.inl g1))
        have g1' : (100 : Int) < nm.size := by omega
        clear GYk DK
        go_wp2_with fail
        go_ret
        exact ⟨by rw [e.out]; rfl, rfl⟩
      · have g1' : ¬ (100 : Int) < nm.size := by omega
        by_cases g2 : 100 < st.size
        · have e := Lib.hid (GYk.out (Or.inr g2))
          have g2' : (100 : Int) < st.size := by omega
          clear GYk DK
          go_wp2_with fail
          go_ret
          exact ⟨by rw [e.out]; rfl, rfl⟩
        · have g2' : ¬ (100 : Int) < st.size := by omega
          have D2 := Lib.hid (DK.out (fun h => h.elim g1 g2))
          clear GYk DK
          go_wp2_with fail
          go_round
          case rel => exact ⟨k + 1, by omega, by go_num, D2⟩
          case measure => simp [intOf]; omega
    · obtain rfl : k = n := by omega
      have E := Lib.hid (GN.out (fun i hi => D.out i hi (by have := NL.out; omega)))
      clear GN D GY HN
      by_cases c1 : most < (k : Int)
      · by_cases c2 : (k : Int) ≤ 500
        · rw [decide_eq_true (Or.inl ⟨c1, c2⟩)] at E
          go_wp2_with fail
          go_ret
          exact ⟨by rw [E.out]; rfl, rfl⟩
        · by_cases c3 : 510 < (k : Int)
          · rw [decide_eq_true (Or.inr c3)] at E
            go_wp2_with fail
            go_ret
            exact ⟨by rw [E.out]; rfl, rfl⟩
          · rw [decide_eq_false (fun h => h.elim (fun x => c2 x.2) c3)] at E
            go_wp2_with fail
            go_ret
            exact ⟨by rw [E.out]; rfl, rfl⟩
      · by_cases c3 : 510 < (k : Int)
        · rw [decide_eq_true (Or.inr c3)] at E
          go_wp2_with fail
          go_ret
          exact ⟨by rw [E.out]; rfl, rfl⟩
        · rw [decide_eq_false (fun h => h.elim (fun x => c1 x.1) c3)] at E
          go_wp2_with fail
          go_ret
          exact ⟨by rw [E.out]; rfl, rfl⟩
end Ow
end Go.Proofs.YtafeigpmldgifaaGreatDoor
/-
  An observation in a box: what stays at calls, and at stores into its cells.
-/
namespace Go.Proofs.YtafeigpmldgifaaGreatDoor
namespace Ow
open Go.RowKit Lw Go.Proofs.YtafeigpmldgifaaGreatDoor.Ap Go.Proofs.YtafeigpmldgifaaGreatDoor.Op Go.Proofs.YtafeigpmldgifaaGreatDoor.Mp Go.Proofs.YtafeigpmldgifaaGreatDoor.Mw

structure Box (b : Nat) (o : Ob) (w : World) : Prop where
  lt : b < w.heap.size
  row : w.rangeAt b 0 (obsC o)
  th : w.there b 0 8
theorem Box.call {w w' : World} {b : Nat} {o : Ob} (h : Box b o w) (hb : Below w.heap.size w w') : Box b o w' := ⟨Nat.lt_of_lt_of_le h.lt hb.size, rangeAt_below h.row hb h.lt, there_below h.th hb h.lt⟩
theorem Box.new (w : World) (o : Ob) : Box w.heap.size o (w.alloc (.cells (obsC o).toArray 57)) := ⟨by simp, rangeAt_new w _ _, there_new w _ _ 8 (by show 8 ≤ 8; omega)⟩
theorem Box.set {w : World} {b : Nat} {o : Ob} (h : Box b o w) (i : Nat) (v : Value) (o' : Ob) (_hi : i < 8) (e : obsC o' = (obsC o).set i v) : Box b o' (w.setCell ⟨b, i, none⟩ v) := by
  have out := World.cell?_setCells_out b [v] i w
  have inn := World.cell?_setCells_in b [v] i w (fun j hj => by
    have hj : j < 1 := hj
    have := (h.th (i + j) (by omega)).1
    rwa [Nat.zero_add] at this)
  have ew : w.setCells b i [v] = w.setCell ⟨b, i, none⟩ v := rfl
  have fz : ∀ p, (w.setCell ⟨b, i, none⟩ v).frozen? p = w.frozen? p := fun p => by rw [← ew, World.frozen?_setCells]
  rw [ew] at out inn
  refine ⟨?_, ?_, ?_⟩
  · have := sets_size b [v] i w
    rw [ew] at this
    rw [this]; exact h.lt
  · intro j x hx
    rw [e] at hx
    rw [Nat.zero_add]
    by_cases hj : j = i
    · subst hj
      have hl : j < (obsC o).length := _hi
      rw [List.getElem?_set_self hl] at hx
      have := inn 0 (by show 0 < 1; omega)
      rw [Nat.add_zero] at this
      rw [this]; exact hx
    · rw [List.getElem?_set_ne (fun h => hj h.symm)] at hx
      rw [out _ (fun _ _ => by show j < i ∨ i + 1 ≤ j; omega)]
      have := h.row j x hx
      rwa [Nat.zero_add] at this
  · intro j hj
    refine ⟨?_, by rw [fz]; exact (h.th j hj).2⟩
    rw [Nat.zero_add]
    by_cases hj2 : j = i
    · subst hj2
      have := inn 0 (by show 0 < 1; omega)
      rw [Nat.add_zero] at this
      rw [this]; rfl
    · rw [out _ (fun _ _ => by show j < i ∨ i + 1 ≤ j; omega)]
      have := (h.th j hj).1
      rwa [Nat.zero_add] at this
theorem Box.apart {w : World} {b c : Nat} {o : Ob} (h : Box b o w) (hc : b ≠ c) (i : Nat) (v : Value) : Box b o (w.setCell ⟨c, i, none⟩ v) := by
  have out := World.cell?_setCells_out c [v] i w
  have ew : w.setCells c i [v] = w.setCell ⟨c, i, none⟩ v := rfl
  have fz : ∀ p, (w.setCell ⟨c, i, none⟩ v).frozen? p = w.frozen? p := fun p => by rw [← ew, World.frozen?_setCells]
  rw [ew] at out
  refine ⟨?_, ?_, ?_⟩
  · have := sets_size c [v] i w
    rw [ew] at this
    rw [this]; exact h.lt
  · intro j x hx
    rw [out _ (fun e => absurd e hc)]
    exact h.row j x hx
  · intro j hj
    rw [fz, out _ (fun e => absurd e hc)]
    exact h.th j hj
theorem OX.apart {w0 w : World} {b c : Nat} {o : Ob} (h : OX w0 b o w) (hc : b ≠ c) (h0 : w0.heap.size ≤ c) (i : Nat) (v : Value) : OX w0 b o (w.setCell ⟨c, i, none⟩ v) := by
  have out := World.cell?_setCells_out c [v] i w
  have ew : w.setCells c i [v] = w.setCell ⟨c, i, none⟩ v := rfl
  rw [ew] at out
  refine ⟨h.below.setCell (p := ⟨c, i, none⟩) h0 v, ?_, ?_⟩
  · have := sets_size c [v] i w
    rw [ew] at this
    rw [this]; exact h.lt
  · intro j x hx
    rw [out _ (fun e => absurd e hc)]
    exact h.row j x hx
theorem OX.draws {w0 w : World} {b : Nat} {o : Ob} (h : OX w0 b o w) (n : Nat) : OX w0 b o (w.drewN n) := h.call (drewN_below2 (Below.refl _ _) n)
theorem Box.draws {w : World} {b : Nat} {o : Ob} (h : Box b o w) (n : Nat) : Box b o (w.drewN n) := h.call (drewN_below2 (Below.refl _ _) n)
end Ow
end Go.Proofs.YtafeigpmldgifaaGreatDoor
