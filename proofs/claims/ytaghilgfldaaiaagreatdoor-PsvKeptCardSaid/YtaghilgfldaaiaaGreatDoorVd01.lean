/-
  Lemmas and walks, texts joined: PNum, PParts2, BPl, BPl2, MRdPl, OGood2, OAllW, MNumW, OApp, OCmpPl, VMrPl, VMap, VTwo, VKpPl, OCmpW, OCmpW2.
-/
import Derived.ProofKit
import Derived.Lib.Hide
import Derived.Laws.RangeAny
import Derived.LoopTactic
import Derived.Deep.RegionHeld3
import Derived.Deep.MidRow
import Derived.OwnWalk
import Derived.Sort.Grow
import Derived.Test.YtaghilgfldaaiaaGreatDoorRows
import Derived.Test.YtaghilgfldaaiaaGreatDoorVb01
import Derived.Test.YtaghilgfldaaiaaGreatDoorVb02
import Derived.Test.YtaghilgfldaaiaaGreatDoorVb03
import Derived.Test.YtaghilgfldaaiaaGreatDoorVb04
import Derived.Test.YtaghilgfldaaiaaGreatDoorVb05
import Derived.Test.YtaghilgfldaaiaaGreatDoorVb06
import Derived.Test.YtaghilgfldaaiaaGreatDoorVb07
import Derived.Test.YtaghilgfldaaiaaGreatDoorVb08
import Derived.Test.YtaghilgfldaaiaaGreatDoorVb09
set_option linter.unusedSimpArgs false
set_option linter.unusedVariables false
/-
  Reading digits: number of the reference, value of package angle.
-/
namespace Go.Proofs.YtaghilgfldaaiaaGreatDoor
namespace Gp
open Go.RowKit Lw

set_option maxHeartbeats 1000000 in
theorem number_any (s : ByteArray) (w : World) (hs : s.size ≤ 18) :
    Calls Tryz.prog 137 #[.string s] w fun e w' => e = .returned (.int .i64 (numV s.data.toList)) ∧ w = w' := by
  go_enter Tryz.func137, Tryz.ntmps137
  go_wp2
  go_loop [3, 4] (fun n i => ∃ k : Nat, k ≤ s.size ∧ i = .int .i64 k ∧ n = .int .i64 (numL (s.data.toList.take k)) ∧ Hid (allD (s.data.toList.take k))) (fun _ i => s.size - (intOf i).toNat)
  case atStart => exact ⟨0, Nat.zero_le _, rfl, rfl, Lib.hid (by intro c hc; simp at hc)⟩
  case round =>
    obtain ⟨k, hk, rfl, rfl, D⟩ := hrel
    by_cases hlt : k < s.size
    · have nb := numL_17 s k hk (by omega) D.out
      have bb := byte_bd s[k]
      by_cases d : 48 ≤ (s[k].toNat : Int) ∧ (s[k].toNat : Int) ≤ 57
      · have HS := Lib.hid (show numL (s.data.toList.take (k + 1)) = 10 * numL (s.data.toList.take k) + ((s[k].toNat : Int) - 48) by rw [take_snoc s k hlt, numL_snoc])
        have D2 := Lib.hid (show allD (s.data.toList.take (k + 1)) by rw [take_snoc s k hlt]; exact allD_snoc D.out d.1 d.2)
        obtain ⟨d1, d2⟩ := d
        go_wp2
        go_round
        case rel => exact ⟨k + 1, by omega, by go_num, val_i HS.out.symm, D2⟩
        case measure => simp [intOf]; omega
      · have N := Lib.hid (numV_not s k hlt d)
        have d' : (s[k].toNat : Int) < 48 ∨ 57 < (s[k].toNat : Int) := by omega
        clear d
        go_wp2
        all_goals first | (exfalso; omega) | (go_ret; exact ⟨ret_i N.out.symm, rfl⟩)
    · have N := Lib.hid (numV_all s k hlt D.out)
      go_wp2
      go_ret
      exact ⟨ret_i N.out, rfl⟩

end Gp
end Go.Proofs.YtaghilgfldaaiaaGreatDoor
/-
  The parts of a text of hours or degrees: the reference, where spaces and point stand right.
-/
namespace Go.Proofs.YtaghilgfldaaiaaGreatDoor
namespace Gp
open Go.RowKit Lw

theorem two_eq (s : ByteArray) (i : Nat) : two s i = numV (List.take 2 (List.drop i s.data.toList)) := by
  unfold two; simp
theorem restOf_8 {s : ByteArray} (h : s.size = 8) : restOf s = ByteArray.empty := if_pos h
theorem restOf_9 {s : ByteArray} (h : 8 < s.size) : restOf s = s.extract 9 s.size := if_neg (by omega)
theorem numV_empty : numV ByteArray.empty.data.toList = 0 := rfl
end Gp
end Go.Proofs.YtaghilgfldaaiaaGreatDoor
/-
  A text of digits is read as its number.
-/
namespace Go.Proofs.YtaghilgfldaaiaaGreatDoor
namespace Gt
open Go.RowKit Lw Gp

theorem len2 {l : List UInt8} (h : l.length = 2) : ∃ a b, l = [a, b] := by
  match l, h with
  | [a, b], _ => exact ⟨a, b, rfl⟩
theorem clock_reads (n d : Nat) (hd : d ≤ 6) (hn : n / 10 ^ d < 360000) :
    validP ⟨(clockL n d).toArray⟩ ∧ two ⟨(clockL n d).toArray⟩ 0 = ((n / 10 ^ d / 3600 : Nat) : Int) ∧
    ∀ u : Nat, angV ⟨(clockL n d).toArray⟩ ((u * 10 ^ d : Nat) : Int) = ((n * u : Nat) : Int) := by
  have hp : 1 ≤ 10 ^ d := Nat.pow_pos (by omega)
  have hr := Nat.mod_lt n hp
  have hdm := Nat.div_add_mod n (10 ^ d)
  have hs : ∃ s, n / 10 ^ d = s := ⟨_, rfl⟩
  obtain ⟨s, es⟩ := hs
  obtain ⟨r, er⟩ : ∃ r, n % 10 ^ d = r := ⟨_, rfl⟩
  rw [es] at hn hdm
  rw [er] at hr hdm
  have lx := pad_size (s / 3600) 2 (by omega) (by omega)
  have ly := pad_size (s / 60 % 60) 2 (by omega) (by omega)
  have lz := pad_size (s % 60) 2 (by omega) (by omega)
  have nx := pad_num (s / 3600) 2
  have ny := pad_num (s / 60 % 60) 2
  have nz := pad_num (s % 60) 2
  have nr := pad_num r d
  have K : clockL n d = glueL ((s / 3600 : Nat) : Int) ((s / 60 % 60 : Nat) : Int) ((s % 60 : Nat) : Int) ++ (if 0 < d then 46 :: padL (r : Int) d else []) := by
    unfold clockL; rw [es, er]
  obtain ⟨x0, x1, ex⟩ := len2 lx
  obtain ⟨y0, y1, ey⟩ := len2 ly
  obtain ⟨z0, z1, ez⟩ := len2 lz
  unfold glueL at K
  rw [ex] at nx K
  rw [ey] at ny K
  rw [ez] at nz K
  have lr : 1 ≤ d → (padL (r : Int) d).length = d := fun h => pad_size r d h hr
  obtain ⟨q, eq⟩ : ∃ q, padL (r : Int) d = q := ⟨_, rfl⟩
  rw [eq] at nr K lr
  generalize hl : clockL n d = l at *
  have hx : 0 ≤ ((s / 3600 : Nat) : Int) := by omega
  by_cases h0 : 0 < d
  · have lq := lr h0
    rw [if_pos h0] at K
    have K' : l = x0 :: x1 :: 32 :: y0 :: y1 :: 32 :: z0 :: z1 :: 46 :: q := by rw [K]; rfl
    have sz : (⟨l.toArray⟩ : ByteArray).size = 9 + d := by rw [size_mk, K']; simp only [List.length_cons, lq]; omega
    have t0 : two ⟨l.toArray⟩ 0 = ((s / 3600 : Nat) : Int) := by rw [two_eq, mk_list, K', ← nx]; rfl
    have t3 : two ⟨l.toArray⟩ 3 = ((s / 60 % 60 : Nat) : Int) := by rw [two_eq, mk_list, K', ← ny]; rfl
    have t6 : two ⟨l.toArray⟩ 6 = ((s % 60 : Nat) : Int) := by rw [two_eq, mk_list, K', ← nz]; rfl
    have er9 : restOf ⟨l.toArray⟩ = ⟨q.toArray⟩ := by
      rw [restOf_9 (by omega)]
      apply ByteArray.ext
      apply Array.toList_inj.1
      rw [Lib.extract_to_end, mk_list, K']
      simp
    have nq : numV (restOf ⟨l.toArray⟩).data.toList = r := by rw [er9, mk_list, nr]
    have sr : (restOf ⟨l.toArray⟩).size = d := by rw [er9, size_mk, lq]
    have sp : shapeP ⟨l.toArray⟩ := by
      refine ⟨by omega, ?_, ?_, by omega, by omega, fun _ => ?_⟩ <;> (rw [K']; simp [ByteArray.get!])
    refine ⟨⟨sp, by rw [t0]; omega, by rw [t3]; omega, by rw [t6]; omega, by rw [nq]; omega⟩, by rw [es]; exact t0, fun u => ?_⟩
    have pd : ((u * 10 ^ d : Nat) : Int) / tenI d = (u : Int) := by
      unfold tenI
      rw [← Int.natCast_ediv, Nat.mul_div_cancel _ hp]
    unfold angV secs
    rw [t0, t3, t6, nq, sr, pd]
    have e1 : ((s / 3600 : Nat) : Int) * 3600 + ((s / 60 % 60 : Nat) : Int) * 60 + ((s % 60 : Nat) : Int) = (s : Int) := by omega
    rw [e1, ← hdm]
    simp only [Int.natCast_mul, Int.natCast_add]
    rw [Int.add_mul, Int.mul_comm (u : Int), ← Int.mul_assoc, Int.mul_comm (s : Int)]
  · have d0 : d = 0 := by omega
    subst d0
    rw [if_neg h0, List.append_nil] at K
    have K' : l = [x0, x1, 32, y0, y1, 32, z0, z1] := by rw [K]; rfl
    have sz : (⟨l.toArray⟩ : ByteArray).size = 8 := by rw [size_mk, K']; rfl
    have t0 : two ⟨l.toArray⟩ 0 = ((s / 3600 : Nat) : Int) := by rw [two_eq, mk_list, K', ← nx]; rfl
    have t3 : two ⟨l.toArray⟩ 3 = ((s / 60 % 60 : Nat) : Int) := by rw [two_eq, mk_list, K', ← ny]; rfl
    have t6 : two ⟨l.toArray⟩ 6 = ((s % 60 : Nat) : Int) := by rw [two_eq, mk_list, K', ← nz]; rfl
    have er9 : restOf ⟨l.toArray⟩ = ByteArray.empty := restOf_8 sz
    have sp : shapeP ⟨l.toArray⟩ := by
      refine ⟨by omega, ?_, ?_, by omega, by omega, fun h => by omega⟩ <;> (rw [K']; simp [ByteArray.get!])
    refine ⟨⟨sp, by rw [t0]; omega, by rw [t3]; omega, by rw [t6]; omega, by rw [er9]; decide⟩, by rw [es]; exact t0, fun u => ?_⟩
    have r0 : r = 0 := by simp at hr; exact hr
    unfold angV secs
    rw [t0, t3, t6, er9, numV_empty]
    have e1 : ((s / 3600 : Nat) : Int) * 3600 + ((s / 60 % 60 : Nat) : Int) * 60 + ((s % 60 : Nat) : Int) = (s : Int) := by omega
    rw [e1, ← hdm, r0]
    simp
end Gt
end Go.Proofs.YtaghilgfldaaiaaGreatDoor
/-
  The angle of a text differs from the angle by at most half a unit of the last digit.
-/
namespace Go.Proofs.YtaghilgfldaaiaaGreatDoor
namespace Gt
open Go.RowKit Lw Gp

theorem units : ∀ d : Nat, d ≤ 6 → 15000000 / 10 ^ d * 10 ^ d = 15000000 ∧ 1000000 / 10 ^ d * 10 ^ d = 1000000 ∧ 1 ≤ 15000000 / 10 ^ d ∧ 1 ≤ 1000000 / 10 ^ d ∧ 15000000 / 10 ^ d = 15 * (1000000 / 10 ^ d) ∧ 1000000 / 10 ^ d ≤ 1000000 := by decide
/-- The text of a declination is read. -/
theorem dec_back (c : Int) (d : Nat) (hd : d ≤ 6) (h0 : -324000000000 ≤ c) (h1 : c ≤ 324000000000) : ∃ v : Int, DecIs ⟨(decL c d).toArray⟩ v 0 ∧ -324000000000 ≤ v ∧ v ≤ 324000000000 ∧
    2 * (v - c) ≤ ((1000000 / 10 ^ d : Nat) : Int) ∧ -((1000000 / 10 ^ d : Nat) : Int) ≤ 2 * (v - c) := by
  obtain ⟨_, hu, _, u1, _, uM⟩ := units d hd
  have hp : 1 ≤ 10 ^ d := Nat.pow_pos (by omega)
  obtain ⟨m, em⟩ : ∃ m : Nat, c.natAbs = m := ⟨_, rfl⟩
  have hh := rnd_half m (1000000 / 10 ^ d) u1
  unfold decL
  rw [em]
  generalize 1000000 / 10 ^ d = e at *
  generalize rndN m e = R at *
  have bR : R * e ≤ 324000000000 := by
    have ek : 324000000000 = 324000 * 10 ^ d * e := by
      rw [Nat.mul_assoc, Nat.mul_comm (10 ^ d), hu]
    by_cases g : R ≤ 324000 * 10 ^ d
    · rw [ek]; exact Nat.mul_le_mul_right _ g
    · exfalso
      have : (324000 * 10 ^ d + 1) * e ≤ R * e := Nat.mul_le_mul_right _ (by omega)
      rw [Nat.add_mul, ← ek] at this
      have e2 : ((R * e : Nat) : Int) = (R : Int) * (e : Int) := by simp
      rw [← e2] at hh
      omega
  have bR2 : R ≤ 324000 * 10 ^ d := by
    have ek : 324000000000 = 324000 * 10 ^ d * e := by
      rw [Nat.mul_assoc, Nat.mul_comm (10 ^ d), hu]
    rw [ek] at bR
    exact Nat.le_of_mul_le_mul_right bR (by omega)
  have hRp : R / 10 ^ d ≤ 324000 := Nat.div_le_of_le_mul (by rw [Nat.mul_comm]; exact bR2)
  obtain ⟨c1, c2, c3⟩ := clock_reads R d hd (by omega)
  have c4 := c3 e
  rw [hu] at c4
  have t : ∀ s : UInt8, tailOf ⟨(s :: clockL R d).toArray⟩ = ⟨(clockL R d).toArray⟩ := fun s => tail_mk s _
  have ok : ∀ s : UInt8, (((s.toNat : Nat) : Int) = 43 ∨ ((s.toNat : Nat) : Int) = 45) → decOk ⟨(s :: clockL R d).toArray⟩ := fun s hs =>
    ⟨⟨by rw [size_mk]; simp, by rw [get0]; exact hs⟩, by rw [t]; exact c1, by rw [t, c2]; omega, by rw [t]; rw [show ((1000000 : Int)) = ((1000000 : Nat) : Int) from rfl, c4]; omega⟩
  have e2 : ((R * e : Nat) : Int) = (R : Int) * (e : Int) := by simp
  rw [← e2] at hh
  have av : angV ⟨(clockL R d).toArray⟩ 1000000 = ((R * e : Nat) : Int) := c4
  by_cases hn : c < 0
  · rw [if_pos hn]
    refine ⟨-((R * e : Nat) : Int), Or.inl ⟨ok 45 (Or.inr rfl), ?_, rfl⟩, by omega, by omega, by omega, by omega⟩
    rw [t, av, get0, if_pos (show (((45 : UInt8).toNat : Nat) : Int) = 45 from rfl)]
  · rw [if_neg hn]
    refine ⟨((R * e : Nat) : Int), Or.inl ⟨ok 43 (Or.inl rfl), ?_, rfl⟩, by omega, by omega, by omega, by omega⟩
    rw [t, av, get0, if_neg (by decide)]
end Gt
end Go.Proofs.YtaghilgfldaaiaaGreatDoor
/-
  Plain laws of MomentRounds: texts and times correspond; no walk here.
-/
namespace Go.Proofs.YtaghilgfldaaiaaGreatDoor
namespace At
open Go.RowKit Lw Ap Go.Proofs.YtaghilgfldaaiaaGreatDoor.Mp Go.Proofs.YtaghilgfldaaiaaGreatDoor.Mw

/-! ### Strings as lists -/
abbrev l10 (a b c d e f g h : UInt8) (r : List UInt8) : List UInt8 := a :: b :: c :: d :: 32 :: e :: f :: 32 :: g :: h :: r
/-! ### The parts of such a string -/
end At
end Go.Proofs.YtaghilgfldaaiaaGreatDoor
/-
  Plain law of observations: the line of an observation is read as the rounded observation; rounding again changes nothing; no walk here.
-/
namespace Go.Proofs.YtaghilgfldaaiaaGreatDoor
namespace Op
open Go.RowKit Lw Go.Proofs.YtaghilgfldaaiaaGreatDoor.Ap Go.Proofs.YtaghilgfldaaiaaGreatDoor.Mp Go.Proofs.YtaghilgfldaaiaaGreatDoor.At Go.Proofs.YtaghilgfldaaiaaGreatDoor.Ow Go.Proofs.YtaghilgfldaaiaaGreatDoor.Mw

theorem dec_zero : Gp.DecIs ⟨(Gt.decL 0 2).toArray⟩ 0 0 := by
  obtain ⟨v, h, _, _, _, _⟩ := Gt.dec_back 0 2 (by omega) (by omega) (by omega)
  have h' := h
  obtain ⟨c1, c2, c3⟩ := Gt.clock_reads 0 2 (by omega) (by omega)
  have c4 := c3 10000
  have z : Gt.rndN (0 : Int).natAbs (1000000 / 10 ^ 2) = 0 := by decide
  have hD : Gt.decL 0 2 = 43 :: Gt.clockL 0 2 := by unfold Gt.decL; rw [z]; rfl
  have e : ((10000 * 10 ^ 2 : Nat) : Int) = 1000000 := rfl
  rw [e] at c4
  have : v = 0 := by
    rcases h with ⟨_, h, _⟩ | ⟨_, _, h⟩
    · rw [hD, Gp.get0, Gp.tail_mk, if_neg (by decide), c4] at h
      rw [h]; simp
    · cases h
  rw [this] at h'
  exact h'
/-- Rounding again changes nothing. -/
theorem Rnd.again {day : ByteArray} {o r q : Ob} (h : Rnd day o r) (g : Rnd day r q) : q = r := by
  have e1 := (g.pday.uniq h.pday).1
  have e2 : q.ra = r.ra := by
    have := g.pra
    rw [h.ra] at this
    exact (this.det h.pra).1
  have e3 : q.dec = r.dec := by
    rcases h.dec with ⟨_, z, _⟩ | e
    · have := g.pdec
      rw [z] at this ⊢
      exact (this.det dec_zero).1
    · have := g.pdec
      rw [e] at this
      exact (this.det h.pdec).1
  have e4 := g.name
  have e5 := g.site
  have e6 := g.mag
  have e7 := g.band
  have e8 := g.sg.trans h.sg.symm
  cases q; cases r
  simp only at e1 e2 e3 e4 e5 e6 e7 e8
  rw [e1, e2, e3, e4, e5, e6, e7, e8]
end Op
end Go.Proofs.YtaghilgfldaaiaaGreatDoor
/-
  Slices of observations; the walks of checkAll of obs, and of All, Same of the reference.
-/
namespace Go.Proofs.YtaghilgfldaaiaaGreatDoor
namespace Ow
open Go.RowKit Lw Go.Proofs.YtaghilgfldaaiaaGreatDoor.Ap Go.Proofs.YtaghilgfldaaiaaGreatDoor.Op Go.Proofs.YtaghilgfldaaiaaGreatDoor.Mp Go.Proofs.YtaghilgfldaaiaaGreatDoor.Mw Go.Proofs.YtaghilgfldaaiaaGreatDoor.At

set_option maxRecDepth 100000 in
set_option maxHeartbeats 8000000 in
theorem checkall_any (x : Option Addr) (cap : Nat) (l : List Ob) (w : World) (hE : ES w) (hl : SlA w x l) (hm : l.length ≤ 1000000) (hb : OBs l) :
    Calls Tryz.prog 65 #[.slice x l.length cap] w fun e w' => e = .returned (.int .i64 (allC l)) ∧ Below w.heap.size w w' := by
  have HL := Lib.hid (fun w' (h : Below w.heap.size w w') => hl.below h)
  have HE := Lib.hid (fun w' (h : Below w.heap.size w w') => hE.below h)
  have CK := Lib.hid (fun i (h : i < l.length) w' (g : ES w') => check_any (l[i]'h) w' g (hb i h).t0 (hb i h).t1 (hb i h).b0 (hb i h).b1 (hb i h).n1 (hb i h).n2)
  obtain ⟨n, hnl⟩ : ∃ n, l.length = n := ⟨_, rfl⟩
  have GM : Hid (500 < n → allC l = 4) := Lib.hid (fun h => allC_many (by omega))
  have GB : Hid (n ≤ 500 → ∀ i (h : i < l.length), ¬ okO (l[i]'h) → allC l = 8) := Lib.hid (fun a i h g => allC_bad (by omega) h g)
  have GZ : Hid (n ≤ 500 → (∀ i (h : i < l.length), okO (l[i]'h)) → allC l = 0) := Lib.hid (fun a g => allC_zero (by omega) (fun o ho => by
    obtain ⟨i, hi, rfl⟩ := List.getElem_of_mem ho
    exact g i hi))
  generalize allC l = K at *
  rw [hnl] at hm ⊢
  have NL := Lib.hid hnl
  clear hl hE hb hnl
  by_cases h5 : 500 < n
  · have h5' : (500 : Int) < (n : Int) := by omega
    obtain rfl := GM.out h5
    clear CK GM GB GZ HL HE NL
    go_enter Tryz.func65, Tryz.ntmps65
    go_wp2_with fail
    go_ret
    exact ⟨rfl, Below.refl _ _⟩
  · have h5' : ¬ (500 : Int) < (n : Int) := by omega
    clear GM
    go_enter Tryz.func65, Tryz.ntmps65
    go_wp2_with fail
    go_loopw [11] (fun i wr => ∃ k : Nat, k ≤ n ∧ i = .int .i64 k ∧ Hid (∀ j (h : j < l.length), j < k → okO (l[j]'h)) ∧ Hid (Below w.heap.size w wr)) (fun i _ => n - (intOf i).toNat)
    case atStart => exact ⟨0, Nat.zero_le _, rfl, Lib.hid (fun j _ h => by omega), Lib.hid (Below.refl _ _)⟩
    case round =>
      obtain ⟨k, hk, rfl, D, B⟩ := hrel
      by_cases hlt : k < n
      · have hkl : k < l.length := by rw [NL.out]; exact hlt
        obtain ⟨b, off, rfl, lt, row⟩ := (HL.out _ B.out).get hkl
        have R := Lib.hid (row k hkl)
        have CKk := Lib.hid (CK.out k hkl)
        have GBk := Lib.hid (fun (g : ¬ okO (l[k]'hkl)) => GB.out (by omega) k hkl g)
        have DK := Lib.hid (fun (g : okO (l[k]'hkl)) => (show ∀ j (h : j < l.length), j < k + 1 → okO (l[j]'h) from fun j h hj => by
          by_cases e : j = k
          · subst e; exact g
          · exact D.out j h (by omega)))
        have i1 : (k : Int) < (n : Int) := by omega
        clear D GB GZ row lt CK
        generalize l[k]'hkl = o at *
        have X0 := Lib.hid (Box.new wr o)
        have B1 := Lib.hid (B.out.alloc B.out.size (.cells (obsC o).toArray 33))
        have E1 := Lib.hid (HE.out _ B1.out)
        clear B
        go_wp2_with (first | (refine wpList_store_new rfl _ (.tmp 4) (.tmp 14) rfl _ _ rfl rfl info8 rfl ?_ ?_; simp [Value.oneCell']) | (refine wpList_load_mid rfl _ (.tmp 13) rfl b (off + k * 8) rfl (obsC o) _ R.out Tryz.underlying33 rfl info8 ?_) | (refine wpList_load_mid rfl _ (.tmp 4) rfl wr.heap.size 0 rfl (obsC o) _ X0.out.row Tryz.underlying33 rfl info8 ?_))
        refine (CKk.out _ E1.out).mono ?_
        rintro e w2 ⟨rfl, hb2⟩
        have B2 := Lib.hid (below_then B1.out hb2)
        clear hb2 B1 E1 CKk X0 R
        by_cases ok : okO o
        · rw [show checkC o = 0 from if_pos ok]
          have D2 := Lib.hid (DK.out ok)
          clear DK GBk
          go_wp2_with fail
          go_roundw
          case rel => exact ⟨k + 1, by omega, by go_num, D2, B2⟩
          case measure => simp [intOf]; omega
        · rw [show checkC o = 8 from if_neg ok]
          obtain rfl := GBk.out ok
          clear DK
          go_wp2_with fail
          go_ret
          exact ⟨rfl, B2.out⟩
      · obtain rfl : k = n := by omega
        obtain rfl := GZ.out (by omega) (fun i hi => D.out i hi (by have := NL.out; omega))
        clear GZ D GB HL CK
        go_wp2_with fail
        go_ret
        exact ⟨rfl, B.out⟩
set_option maxRecDepth 100000 in
set_option maxHeartbeats 8000000 in
theorem rall_any (x : Option Addr) (cap : Nat) (l : List Ob) (w : World) (hl : SlA w x l) (hm : l.length ≤ 1000000) (hb : OBs l) :
    Calls Tryz.prog 21 #[.slice x l.length cap] w fun e w' => e = .returned (.int .i64 (allC l)) ∧ Below w.heap.size w w' := by
  have HL := Lib.hid (fun w' (h : Below w.heap.size w w') => hl.below h)
  have CK := Lib.hid (fun i (h : i < l.length) w' => rcheck_any (l[i]'h) w' (hb i h).t0 (hb i h).t1 (hb i h).b0 (hb i h).b1 (hb i h).n1 (hb i h).n2)
  obtain ⟨n, hnl⟩ : ∃ n, l.length = n := ⟨_, rfl⟩
  have GM : Hid (500 < n → allC l = 4) := Lib.hid (fun h => allC_many (by omega))
  have GB : Hid (n ≤ 500 → ∀ i (h : i < l.length), ¬ okO (l[i]'h) → allC l = 8) := Lib.hid (fun a i h g => allC_bad (by omega) h g)
  have GZ : Hid (n ≤ 500 → (∀ i (h : i < l.length), okO (l[i]'h)) → allC l = 0) := Lib.hid (fun a g => allC_zero (by omega) (fun o ho => by
    obtain ⟨i, hi, rfl⟩ := List.getElem_of_mem ho
    exact g i hi))
  generalize allC l = K at *
  rw [hnl] at hm ⊢
  have NL := Lib.hid hnl
  clear hl hb hnl
  by_cases h5 : 500 < n
  · have h5' : (500 : Int) < (n : Int) := by omega
    obtain rfl := GM.out h5
    clear CK GM GB GZ HL NL
    go_enter Tryz.func21, Tryz.ntmps21
    go_wp2_with fail
    go_ret
    exact ⟨rfl, Below.refl _ _⟩
  · have h5' : ¬ (500 : Int) < (n : Int) := by omega
    clear GM
    go_enter Tryz.func21, Tryz.ntmps21
    go_wp2_with fail
    go_loopw [3] (fun i wr => ∃ k : Nat, k ≤ n ∧ i = .int .i64 k ∧ Hid (∀ j (h : j < l.length), j < k → okO (l[j]'h)) ∧ Hid (Below w.heap.size w wr)) (fun i _ => n - (intOf i).toNat)
    case atStart => exact ⟨0, Nat.zero_le _, rfl, Lib.hid (fun j _ h => by omega), Lib.hid (Below.refl _ _)⟩
    case round =>
      obtain ⟨k, hk, rfl, D, B⟩ := hrel
      by_cases hlt : k < n
      · have hkl : k < l.length := by rw [NL.out]; exact hlt
        obtain ⟨b, off, rfl, lt, row⟩ := (HL.out _ B.out).get hkl
        have R := Lib.hid (row k hkl)
        have CKk := Lib.hid (CK.out k hkl)
        have GBk := Lib.hid (fun (g : ¬ okO (l[k]'hkl)) => GB.out (by omega) k hkl g)
        have DK := Lib.hid (fun (g : okO (l[k]'hkl)) => (show ∀ j (h : j < l.length), j < k + 1 → okO (l[j]'h) from fun j h hj => by
          by_cases e : j = k
          · subst e; exact g
          · exact D.out j h (by omega)))
        have i1 : (k : Int) < (n : Int) := by omega
        clear D GB GZ row lt CK
        generalize l[k]'hkl = o at *
        go_wp2_with (refine wpList_load_mid rfl _ (.tmp 15) rfl b (off + k * 8) rfl (obsC o) _ R.out Tryz.underlying33 rfl info8 ?_)
        refine (CKk.out _).mono ?_
        rintro e w2 ⟨rfl, hb2⟩
        have B2 := Lib.hid (below_then B.out hb2)
        clear hb2 B CKk R
        by_cases ok : okO o
        · rw [show checkC o = 0 from if_pos ok]
          have D2 := Lib.hid (DK.out ok)
          clear DK GBk
          go_wp2_with fail
          go_roundw
          case rel => exact ⟨k + 1, by omega, by go_num, D2, B2⟩
          case measure => simp [intOf]; omega
        · rw [show checkC o = 8 from if_neg ok]
          obtain rfl := GBk.out ok
          clear DK
          go_wp2_with fail
          go_ret
          exact ⟨rfl, B2.out⟩
      · obtain rfl : k = n := by omega
        obtain rfl := GZ.out (by omega) (fun i hi => D.out i hi (by have := NL.out; omega))
        clear GZ D GB HL CK
        go_wp2_with fail
        go_ret
        exact ⟨rfl, B.out⟩
end Ow
end Go.Proofs.YtaghilgfldaaiaaGreatDoor
/-
  The walk of number of the reference.
-/
namespace Go.Proofs.YtaghilgfldaaiaaGreatDoor
namespace Ap
open Go.RowKit Lw

set_option maxHeartbeats 1000000 in
theorem number_any (s : ByteArray) (w : World) (hs : s.size ≤ 18) :
    Calls Tryz.prog 134 #[.string s] w fun e w' => e = .returned (.int .i64 (numV s.data.toList)) ∧ w = w' := by
  go_enter Tryz.func134, Tryz.ntmps134
  go_wp2
  go_loop [3, 4] (fun n i => ∃ k : Nat, k ≤ s.size ∧ i = .int .i64 k ∧ n = .int .i64 (numL (s.data.toList.take k)) ∧ Hid (allD (s.data.toList.take k))) (fun _ i => s.size - (intOf i).toNat)
  case atStart => exact ⟨0, Nat.zero_le _, rfl, rfl, Lib.hid (by intro c hc; simp at hc)⟩
  case round =>
    obtain ⟨k, hk, rfl, rfl, D⟩ := hrel
    by_cases hlt : k < s.size
    · have nb := numL_17 s k hk (by omega) D.out
      have bb := byte_bd s[k]
      by_cases d : 48 ≤ (s[k].toNat : Int) ∧ (s[k].toNat : Int) ≤ 57
      · have HS := Lib.hid (show numL (s.data.toList.take (k + 1)) = 10 * numL (s.data.toList.take k) + ((s[k].toNat : Int) - 48) by rw [take_snoc s k hlt, numL_snoc])
        have D2 := Lib.hid (show allD (s.data.toList.take (k + 1)) by rw [take_snoc s k hlt]; exact allD_snoc D.out d.1 d.2)
        obtain ⟨d1, d2⟩ := d
        go_wp2
        go_round
        case rel => exact ⟨k + 1, by omega, by go_num, val_i HS.out.symm, D2⟩
        case measure => simp [intOf]; omega
      · have N := Lib.hid (numV_not s k hlt d)
        have d' : (s[k].toNat : Int) < 48 ∨ 57 < (s[k].toNat : Int) := by omega
        clear d
        go_wp2
        all_goals first | (exfalso; omega) | (go_ret; exact ⟨ret_i N.out.symm, rfl⟩)
    · have N := Lib.hid (numV_all s k hlt D.out)
      go_wp2
      go_ret
      exact ⟨ret_i N.out, rfl⟩
end Ap
end Go.Proofs.YtaghilgfldaaiaaGreatDoor
/-
  append of an observation to a slice that the call owns.
-/
namespace Go.Proofs.YtaghilgfldaaiaaGreatDoor
namespace Ow
open Go.RowKit Lw Go.Proofs.YtaghilgfldaaiaaGreatDoor.Ap Go.Proofs.YtaghilgfldaaiaaGreatDoor.Op Go.Proofs.YtaghilgfldaaiaaGreatDoor.Mp Go.Proofs.YtaghilgfldaaiaaGreatDoor.Mw Go.Proofs.YtaghilgfldaaiaaGreatDoor.At

theorem infoR : (Tryz.prog.info? 108).map (fun i => (i.zero, i.size, i.bytes)) = some (some (.agg #[.string .empty, .string .empty, .int .i64 0, .int .i64 0, .int .i64 0, .int .i64 0, .int .i64 0, .int .u8 0]), 8, 80) := by kernel_rfl
/-- append, as the walk meets it: the element lies in a block of its own. -/
theorem wp_app {ops : Array Oper} {rest : List Oper} {o : Oper} {a : Act} {Q : Exit → Act → World → Prop} (w : World) (hgd : o.guard = none) (s x : Operand)
    (ho : o.op = .call { callee := .builtin .append, args := #[s, x], argTypes := #[22, 22] })
    (B : Nat) (v : Value) (l : List Ob) (q : Ob) (hs : a.eval s = v) (hx : a.eval x = .slice (some ⟨w.heap.size, 0, none⟩) 1 1) (hown : OwnO w B v l) (hl : l.length ≤ 1000000)
    (h : ∀ v' w', OwnO w' B v' (l ++ [q]) → Below B w w' → wpList Tryz.prog ops Q rest (a.put o.dst v') w') : wpList Tryz.prog ops Q (o :: rest) a (w.alloc (.cells (obsC q).toArray 33)) := by
  obtain ⟨i0, hi, hz0, hz1, hz2⟩ := info_parts infoO
  have ho' := hown.1.alloc (.cells (obsC q).toArray 33)
  have nw := news_of (rangeAt_new w (obsC q) 33)
  have b1 : Below B w (w.alloc (.cells (obsC q).toArray 33)) := (Below.refl _ _).alloc hown.2 _
  refine wpList_append_own _ hgd s x 22 ho B 33 i0 _ 8 80 Tryz.underlying22 hi hz0 hz1 hz2 rfl (by decide) v l.length (flatO l) hs ho' ⟨w.heap.size, 0, none⟩ 1 1 (obsC q) hx rfl nw (obsC_one q) (by unfold maxLen; omega) (by omega) (Nat.le_trans hown.2 b1.size) ?_
  intro v' w' h1 h2 _
  have e := flatO_snoc l q
  have hb : Below B w w' := b1.trans ((Below.refl B _).grown h2 (Nat.le_trans hown.2 b1.size) (fun k hk => (hown.1.lt k hk).1))
  refine h v' w' ⟨?_, Nat.le_trans hown.2 hb.size⟩ hb
  rw [e, List.length_append]
  exact h1
theorem wp_appR {ops : Array Oper} {rest : List Oper} {o : Oper} {a : Act} {Q : Exit → Act → World → Prop} (w : World) (hgd : o.guard = none) (s x : Operand)
    (ho : o.op = .call { callee := .builtin .append, args := #[s, x], argTypes := #[107, 107] })
    (B : Nat) (v : Value) (l : List Ob) (q : Ob) (hs : a.eval s = v) (hx : a.eval x = .slice (some ⟨w.heap.size, 0, none⟩) 1 1) (hown : OwnR w B v l) (hl : l.length ≤ 1000000)
    (h : ∀ v' w', OwnR w' B v' (l ++ [q]) → Below B w w' → wpList Tryz.prog ops Q rest (a.put o.dst v') w') : wpList Tryz.prog ops Q (o :: rest) a (w.alloc (.cells (obsC q).toArray 108)) := by
  obtain ⟨i0, hi, hz0, hz1, hz2⟩ := info_parts infoR
  have ho' := hown.1.alloc (.cells (obsC q).toArray 108)
  have nw := news_of (rangeAt_new w (obsC q) 108)
  have b1 : Below B w (w.alloc (.cells (obsC q).toArray 108)) := (Below.refl _ _).alloc hown.2 _
  refine wpList_append_own _ hgd s x 107 ho B 108 i0 _ 8 80 Tryz.underlying107 hi hz0 hz1 hz2 rfl (by decide) v l.length (flatO l) hs ho' ⟨w.heap.size, 0, none⟩ 1 1 (obsC q) hx rfl nw (obsC_one q) (by unfold maxLen; omega) (by omega) (Nat.le_trans hown.2 b1.size) ?_
  intro v' w' h1 h2 _
  have e := flatO_snoc l q
  have hb : Below B w w' := b1.trans ((Below.refl B _).grown h2 (Nat.le_trans hown.2 b1.size) (fun k hk => (hown.1.lt k hk).1))
  refine h v' w' ⟨?_, Nat.le_trans hown.2 hb.size⟩ hb
  rw [e, List.length_append]
  exact h1
end Ow
end Go.Proofs.YtaghilgfldaaiaaGreatDoor
/-
  Plain law of observations: comparing them is a total order, and what Sort returns; no walk here.
-/
namespace Go.Proofs.YtaghilgfldaaiaaGreatDoor
namespace Op
open Go.RowKit Lw Go.Proofs.YtaghilgfldaaiaaGreatDoor.Ap Go.Proofs.YtaghilgfldaaiaaGreatDoor.Mp Go.Proofs.YtaghilgfldaaiaaGreatDoor.At Go.Proofs.YtaghilgfldaaiaaGreatDoor.Ow Go.Proofs.YtaghilgfldaaiaaGreatDoor.Mw

theorem orL_zero {l : List Int} (h : ∀ i (hi : i < l.length), l[i] = 0) : orL l = 0 := by
  induction l with
  | nil => rfl
  | cons x r ih =>
    have h0 : x = 0 := h 0 (by simp)
    unfold orL
    rw [if_neg (by simp [h0])]
    exact ih fun i hi => by have := h (i + 1) (by simp; omega); simpa using this
theorem orL_at {l : List Int} {k : Nat} (hk : k < l.length) (h : ∀ i (hi : i < l.length), i < k → l[i] = 0) (g : l[k] ≠ 0) : orL l = l[k] := by
  induction l generalizing k with
  | nil => simp at hk
  | cons x r ih =>
    unfold orL
    match k, hk, g with
    | 0, _, g => rw [if_pos (by simpa using g)]; rfl
    | k + 1, hk, g =>
      have h0 : x = 0 := h 0 (by simp) (by omega)
      rw [if_neg (by simp [h0])]
      have := ih (k := k) (by simpa using hk) (fun i hi hik => by have := h (i + 1) (by simp; omega) (by omega); simpa using this) (by simpa using g)
      rw [this]; rfl
theorem cmpO_refl (a : Ob) : cmpO a a = 0 := by have := cmp_O.anti a a; omega
end Op
end Go.Proofs.YtaghilgfldaaiaaGreatDoor
/-
  Plain law of merging: which observations are kept; no walk here.
-/
namespace Go.Proofs.YtaghilgfldaaiaaGreatDoor
namespace Vp
open Go.RowKit Lw Go.Proofs.YtaghilgfldaaiaaGreatDoor.Ap Go.Proofs.YtaghilgfldaaiaaGreatDoor.Op Go.Proofs.YtaghilgfldaaiaaGreatDoor.Mp Go.Proofs.YtaghilgfldaaiaaGreatDoor.Mw

theorem betP_irrefl (a : Ob) : ¬ betP a a := by
  unfold betP
  rw [cmpO_refl]
  omega
theorem betP_asymm {a b : Ob} (h : betP a b) : ¬ betP b a := by
  unfold betP at *
  have := cmp_O.anti a b
  omega
theorem betP_total {a b : Ob} (h : a ≠ b) : betP a b ∨ betP b a := by
  unfold betP
  have := cmp_O.anti a b
  have : cmpO a b ≠ 0 := fun e => h (cmpO_zero e)
  omega
theorem betP_not_trans {a b c : Ob} (h : ¬ betP b a) (g : ¬ betP c b) : ¬ betP c a := by
  unfold betP at *
  have e1 := cmp_O.anti a b
  have e2 := cmp_O.anti b c
  have e3 := cmp_O.anti a c
  have := cmp_O.trans a b c
  omega
theorem bestN_zero (l : List Ob) (i : Nat) : bestN l i 0 := fun k h => by omega
theorem bestN_succ {l : List Ob} {i n : Nat} : bestN l i (n + 1) ↔ bestN l i n ∧ ¬ beats l i n := by
  constructor
  · exact fun h => ⟨fun k hk => h k (by omega), h n (by omega)⟩
  · rintro ⟨h, g⟩ k hk
    by_cases e : k = n
    · rw [e]; exact g
    · exact h k (by omega)
theorem keptTo_zero (l : List Ob) : keptTo l 0 = [] := rfl
theorem keptTo_yes {l : List Ob} {n : Nat} (hn : n < l.length) (h : bestP l n) : keptTo l (n + 1) = keptTo l n ++ [l[n]] := by
  unfold keptTo
  rw [List.range_succ, List.filter_append, List.filterMap_append]
  simp [h, hn]
theorem keptTo_no {l : List Ob} {n : Nat} (h : ¬ bestP l n) : keptTo l (n + 1) = keptTo l n := by
  unfold keptTo
  rw [List.range_succ, List.filter_append, List.filterMap_append]
  simp [h]
theorem dropTo_yes {l : List Ob} {n : Nat} (h : bestP l n) : dropTo l (n + 1) = dropTo l n := by
  unfold dropTo
  rw [List.range_succ, List.filter_append]
  simp [h]
theorem dropTo_no {l : List Ob} {n : Nat} (h : ¬ bestP l n) : dropTo l (n + 1) = dropTo l n ++ [n] := by
  unfold dropTo
  rw [List.range_succ, List.filter_append]
  simp [h]
theorem keptTo_len (l : List Ob) : ∀ n, (keptTo l n).length + (dropTo l n).length ≤ n ∧ (n ≤ l.length → (keptTo l n).length + (dropTo l n).length = n)
  | 0 => ⟨Nat.le_refl _, fun _ => rfl⟩
  | n + 1 => by
    have ih := keptTo_len l n
    by_cases h : bestP l n
    · rw [dropTo_yes h]
      by_cases hn : n < l.length
      · rw [keptTo_yes hn h, List.length_append]
        simp only [List.length_cons, List.length_nil]
        omega
      · refine ⟨?_, fun g => by omega⟩
        have : keptTo l (n + 1) = keptTo l n := by
          unfold keptTo
          rw [List.range_succ, List.filter_append, List.filterMap_append]
          simp [h, hn]
        rw [this]
        omega
    · rw [dropTo_no h, keptTo_no h, List.length_append]
      simp only [List.length_cons, List.length_nil]
      omega
theorem keptTo_mem {l : List Ob} {n : Nat} {o : Ob} (h : o ∈ keptTo l n) : ∃ i, ∃ hi : i < l.length, i < n ∧ bestP l i ∧ l[i] = o := by
  unfold keptTo at h
  obtain ⟨i, hi, e⟩ := List.mem_filterMap.1 h
  obtain ⟨h1, h2⟩ := List.mem_filter.1 hi
  obtain ⟨h3, h4⟩ := List.getElem?_eq_some_iff.1 e
  exact ⟨i, h3, List.mem_range.1 h1, of_decide_eq_true h2, h4⟩
theorem dropTo_mem {l : List Ob} {n i : Nat} : i ∈ dropTo l n ↔ i < n ∧ ¬ bestP l i := by
  unfold dropTo
  rw [List.mem_filter, List.mem_range]
  simp
theorem kept_ok {l : List Ob} (h : allC l = 0) (n : Nat) (hn : n ≤ l.length) : allC (keptTo l n) = 0 := by
  obtain ⟨h1, h2⟩ := allC_ok h
  have := keptTo_len l n
  refine allC_zero (by omega) fun o ho => ?_
  obtain ⟨i, hi, _, _, rfl⟩ := keptTo_mem ho
  exact h2 _ (List.getElem_mem hi)
/-! ### The program's way: the best of each key, out of the sorted list -/
theorem bst_other {x : List Ob} {k : Ky} {r : Option Ob} {o : Ob} (h : BstOf x k r) (g : kyOf o ≠ k) : BstOf (x ++ [o]) k r := by
  cases r with
  | none =>
    intro p hp
    rcases List.mem_append.1 hp with hp | hp
    · exact h p hp
    · rw [List.mem_singleton.1 hp]; exact g
  | some m =>
    obtain ⟨h1, h2, h3⟩ := h
    refine ⟨List.mem_append_left _ h1, h2, fun p hp e => ?_⟩
    rcases List.mem_append.1 hp with hp | hp
    · exact h3 p hp e
    · rw [List.mem_singleton.1 hp] at e; exact absurd e g
theorem bst_first {x : List Ob} {o : Ob} (h : BstOf x (kyOf o) none) : BstOf (x ++ [o]) (kyOf o) (some o) := by
  refine ⟨List.mem_append_right _ (List.mem_singleton.2 rfl), rfl, fun p hp e => ?_⟩
  rcases List.mem_append.1 hp with hp | hp
  · exact absurd e (h p hp)
  · rw [List.mem_singleton.1 hp]; exact betP_irrefl o
theorem bst_less {x : List Ob} {o b : Ob} (h : BstOf x (kyOf o) (some b)) (g : o.sg < b.sg) : BstOf (x ++ [o]) (kyOf o) (some o) := by
  obtain ⟨_, _, h3⟩ := h
  refine ⟨List.mem_append_right _ (List.mem_singleton.2 rfl), rfl, fun p hp e => ?_⟩
  rcases List.mem_append.1 hp with hp | hp
  · have := h3 p hp e
    unfold betP at *
    omega
  · rw [List.mem_singleton.1 hp]; exact betP_irrefl o
theorem bst_keep {x : List Ob} {o b : Ob} (h : BstOf x (kyOf o) (some b)) (g : ¬ o.sg < b.sg) (so : ∀ p ∈ x, cmpO p o ≤ 0) : BstOf (x ++ [o]) (kyOf o) (some b) := by
  obtain ⟨h1, h2, h3⟩ := h
  refine ⟨List.mem_append_left _ h1, h2, fun p hp e => ?_⟩
  rcases List.mem_append.1 hp with hp | hp
  · exact h3 p hp e
  · rw [List.mem_singleton.1 hp]
    have := so b h1
    have e := cmp_O.anti b o
    unfold betP
    omega
theorem BstOf.perm {x y : List Ob} {k : Ky} {r : Option Ob} (h : BstOf x k r) (p : x.Perm y) : BstOf y k r := by
  cases r with
  | none => exact fun o ho => h o (p.mem_iff.2 ho)
  | some m =>
    obtain ⟨h1, h2, h3⟩ := h
    exact ⟨p.mem_iff.1 h1, h2, fun o ho e => h3 o (p.mem_iff.2 ho) e⟩
theorem ordL_take {x : List Ob} (h : ordL x) {j : Nat} (hj : j < x.length) : ∀ p ∈ x.take j, cmpO p x[j] ≤ 0 := by
  intro p hp
  obtain ⟨i, hi, e⟩ := List.getElem_of_mem hp
  rw [List.length_take] at hi
  rw [← e, List.getElem_take]
  exact List.pairwise_iff_getElem.1 h i j (by omega) hj (by omega)
def updF (f : Ky → Option Ob) (k : Ky) (r : Option Ob) : Ky → Option Ob := fun k' => if k' = k then r else f k'
theorem bsts_first {x : List Ob} {j : Nat} (hj : j < x.length) {f : Ky → Option Ob} {o : Ob} (ho : x[j] = o) (H : ∀ k, BstOf (x.take j) k (f k)) (hf : f (kyOf o) = none) : ∀ k, BstOf (x.take (j + 1)) k (updF f (kyOf o) (some o) k) := fun k => by
  rw [List.take_succ_eq_append_getElem hj, ho]
  unfold updF
  by_cases e : k = kyOf o
  · rw [if_pos e, e]
    have := H (kyOf o)
    rw [hf] at this
    exact bst_first this
  · rw [if_neg e]
    exact bst_other (H k) (Ne.symm e)
theorem bsts_less {x : List Ob} {j : Nat} (hj : j < x.length) {f : Ky → Option Ob} {o b : Ob} (ho : x[j] = o) (H : ∀ k, BstOf (x.take j) k (f k)) (hf : f (kyOf o) = some b) (g : o.sg < b.sg) : ∀ k, BstOf (x.take (j + 1)) k (updF f (kyOf o) (some o) k) := fun k => by
  rw [List.take_succ_eq_append_getElem hj, ho]
  unfold updF
  by_cases e : k = kyOf o
  · rw [if_pos e, e]
    have := H (kyOf o)
    rw [hf] at this
    exact bst_less this g
  · rw [if_neg e]
    exact bst_other (H k) (Ne.symm e)
theorem bsts_keep {x : List Ob} {j : Nat} (hj : j < x.length) (hx : ordL x) {f : Ky → Option Ob} {o b : Ob} (ho : x[j] = o) (H : ∀ k, BstOf (x.take j) k (f k)) (hf : f (kyOf o) = some b) (g : ¬ o.sg < b.sg) : ∀ k, BstOf (x.take (j + 1)) k (f k) := fun k => by
  have so := ordL_take hx hj
  rw [List.take_succ_eq_append_getElem hj, ho]
  rw [ho] at so
  by_cases e : k = kyOf o
  · rw [e, hf]
    have := H (kyOf o)
    rw [hf] at this
    exact bst_keep this g so
  · exact bst_other (H k) (Ne.symm e)
/-- What the map holds behind i of the list: the best of a key, if it is still to come. -/
def LeftOf (l : List Ob) (i : Nat) (k : Ky) (r : Option Ob) : Prop := (BstOf l k none ∧ r = none) ∨ ∃ o, BstOf l k (some o) ∧ ((o ∈ l.take i ∧ r = none) ∨ (¬ o ∈ l.take i ∧ r = some o))
theorem left_start {l : List Ob} {k : Ky} {r : Option Ob} (h : BstOf l k r) : LeftOf l 0 k r := by
  cases r with
  | none => exact Or.inl ⟨h, rfl⟩
  | some o => exact Or.inr ⟨o, h, Or.inr ⟨by simp, rfl⟩⟩
theorem take_mem {l : List Ob} {i : Nat} (hi : i < l.length) {o : Ob} : o ∈ l.take (i + 1) ↔ o ∈ l.take i ∨ o = l[i] := by
  rw [List.take_succ_eq_append_getElem hi, List.mem_append, List.mem_singleton]
theorem left_other {l : List Ob} {i : Nat} (hi : i < l.length) {k : Ky} {r : Option Ob} (h : LeftOf l i k r) (g : kyOf l[i] ≠ k) : LeftOf l (i + 1) k r := by
  rcases h with h | ⟨o, hm, h⟩
  · exact Or.inl h
  · have : o ≠ l[i] := fun x => g (by rw [← x]; exact hm.2.1)
    refine Or.inr ⟨o, hm, ?_⟩
    rw [take_mem hi]
    rcases h with ⟨h1, h2⟩ | ⟨h1, h2⟩
    · exact Or.inl ⟨Or.inl h1, h2⟩
    · exact Or.inr ⟨fun x => by rcases x with x | x; exact h1 x; exact this x, h2⟩
/-- The i-th is kept just where it is what the map holds. -/
theorem left_best {l : List Ob} {i : Nat} (hi : i < l.length) {r : Option Ob} (h : LeftOf l i (kyOf l[i]) r) : r = some l[i] ↔ bestP l i := by
  rcases h with ⟨hm, _⟩ | ⟨o, ⟨h1, h2, h3⟩, h⟩
  · exact absurd rfl (hm _ (List.getElem_mem hi))
  · constructor
    · intro q
      rcases h with ⟨_, e⟩ | ⟨hn, e⟩
      · rw [q] at e; cases e
      · rw [q] at e
        have eo := Option.some.inj e
        intro k hk hb
        obtain ⟨_, hk', hne, hky, hor⟩ := hb
        rcases hor with hor | ⟨hlt, hor⟩
        · rw [eo] at hor
          exact h3 _ (List.getElem_mem hk') hky.symm hor
        · by_cases hq : l[k] = l[i]
          · apply hn
            rw [← eo, ← hq]
            exact List.mem_take_iff_getElem.2 ⟨k, by omega, rfl⟩
          · rcases betP_total hq with hb | hb
            · rw [eo] at hb
              exact h3 _ (List.getElem_mem hk') hky.symm hb
            · exact hor hb
    · intro hb
      have ho : o = l[i] := by
        refine Classical.byContradiction fun hne => ?_
        obtain ⟨k, hk, ek⟩ := List.getElem_of_mem h1
        have hb1 : betP o l[i] := by
          rcases betP_total hne with hb1 | hb1
          · exact hb1
          · exact absurd hb1 (h3 _ (List.getElem_mem hi) rfl)
        refine hb k hk ⟨hi, hk, fun e => ?_, ?_, Or.inl (by rw [ek]; exact hb1)⟩
        · subst e; exact hne ek.symm
        · rw [ek]; exact h2.symm
      have hn : ¬ o ∈ l.take i := by
        intro hin
        obtain ⟨k, hk, ek⟩ := List.mem_take_iff_getElem.1 hin
        refine hb k (by omega) ⟨hi, by omega, by omega, ?_, Or.inr ⟨by omega, ?_⟩⟩
        · rw [ek, ho]
        · rw [ek, ho]; exact betP_irrefl _
      rcases h with ⟨h, _⟩ | ⟨_, e⟩
      · exact absurd h hn
      · rw [e, ho]
theorem left_gone {l : List Ob} {i : Nat} (hi : i < l.length) {k : Ky} (h : LeftOf l i k (some l[i])) : LeftOf l (i + 1) k none := by
  rcases h with ⟨_, h⟩ | ⟨o, hm, h⟩
  · cases h
  · rcases h with ⟨_, h⟩ | ⟨_, h⟩
    · cases h
    · have e := Option.some.inj h
      exact Or.inr ⟨o, hm, Or.inl ⟨(take_mem hi).2 (Or.inr e.symm), rfl⟩⟩
theorem left_same {l : List Ob} {i : Nat} (hi : i < l.length) {k : Ky} {r : Option Ob} (h : LeftOf l i k r) (g : r ≠ some l[i]) : LeftOf l (i + 1) k r := by
  rcases h with h | ⟨o, hm, h⟩
  · exact Or.inl h
  · refine Or.inr ⟨o, hm, ?_⟩
    rw [take_mem hi]
    rcases h with ⟨h1, h2⟩ | ⟨h1, h2⟩
    · exact Or.inl ⟨Or.inl h1, h2⟩
    · exact Or.inr ⟨fun x => by
        rcases x with x | x
        · exact h1 x
        · rw [x] at h2; exact g h2, h2⟩
theorem lefts_start {l x : List Ob} {f : Ky → Option Ob} (hp : x.Perm l) (H : ∀ k, BstOf x k (f k)) : ∀ k, LeftOf l 0 k (f k) := fun k => left_start ((H k).perm hp)
theorem lefts_kept {l : List Ob} {i : Nat} (hi : i < l.length) {f : Ky → Option Ob} {o : Ob} (ho : l[i] = o) (H : ∀ k, LeftOf l i k (f k)) (hf : f (kyOf o) = some o) : (∀ k, LeftOf l (i + 1) k (updF f (kyOf o) none k)) ∧ keptTo l (i + 1) = keptTo l i ++ [o] ∧ dropTo l (i + 1) = dropTo l i := by
  subst ho
  have b : bestP l i := (left_best hi (H (kyOf l[i]))).1 hf
  refine ⟨fun k => ?_, keptTo_yes hi b, dropTo_yes b⟩
  unfold updF
  by_cases e : k = kyOf l[i]
  · rw [if_pos e]
    subst e
    have := H (kyOf l[i])
    rw [hf] at this
    exact left_gone hi this
  · rw [if_neg e]
    exact left_other hi (H k) (Ne.symm e)
theorem lefts_dropped {l : List Ob} {i : Nat} (hi : i < l.length) {f : Ky → Option Ob} {o : Ob} (ho : l[i] = o) (H : ∀ k, LeftOf l i k (f k)) (hf : f (kyOf o) ≠ some o) : (∀ k, LeftOf l (i + 1) k (f k)) ∧ keptTo l (i + 1) = keptTo l i ∧ dropTo l (i + 1) = dropTo l i ++ [i] := by
  subst ho
  have b : ¬ bestP l i := fun g => hf ((left_best hi (H (kyOf l[i]))).2 g)
  refine ⟨fun k => ?_, keptTo_no b, dropTo_no b⟩
  by_cases e : k = kyOf l[i]
  · subst e
    exact left_same hi (H _) hf
  · exact left_other hi (H k) (Ne.symm e)
end Vp
end Go.Proofs.YtaghilgfldaaiaaGreatDoor
/-
  The map of observations by name, site and time.
-/
namespace Go.Proofs.YtaghilgfldaaiaaGreatDoor
namespace Vw
open Go.RowKit Lw Go.Proofs.YtaghilgfldaaiaaGreatDoor.Ap Go.Proofs.YtaghilgfldaaiaaGreatDoor.Vp Go.Proofs.YtaghilgfldaaiaaGreatDoor.Op Go.Proofs.YtaghilgfldaaiaaGreatDoor.Ow Go.Maps Go.WideShapes

theorem kyV_inj (k k' : Ky) (h : kyV k = kyV k') : k = k' := by
  unfold kyV at h
  cases k; cases k'
  simpa using h
theorem laidO : laidOutB Tryz.prog = true := by kernel_rfl
theorem rowK : (65 : TypeId) < Tryz.prog.types.size := of_decide_eq_true (by kernel_rfl)
theorem lawK : Keyed Tryz.prog 65 := Keyed.of_law (deep_law_laid laidO (m := 3) (by decide) rowK (by kernel_rfl) (by rw [Tryz.underlying65]))
theorem keyTypeK : Tryz.prog.keyType 65 = true := by kernel_rfl
theorem cellsK : Tryz.prog.cellsOf 65 = 3 := by kernel_rfl
theorem cells1 : Tryz.prog.cellsOf 9 = 1 := by kernel_rfl
theorem cells2 : Tryz.prog.cellsOf 2 = 1 := by kernel_rfl
theorem sizeK : ∃ d, Tryz.prog.types.size = d + 1 := ⟨Tryz.prog.types.size - 1, by
  have : 0 < Tryz.prog.types.size := of_decide_eq_true (by kernel_rfl)
  omega⟩
theorem keyOf_K (k : Ky) (h : goodK k) : ∃ l, keyOf Tryz.prog 65 (kyV k) = some l := by
  obtain ⟨h1, h2, h3, h4⟩ := h
  have m1 : k.name.size ≤ maxLen := by unfold maxLen; omega
  have m2 : k.site.size ≤ maxLen := by unfold maxLen; omega
  have w3 : (Lit.int .i64 k.t).wf = true := WalkArith.wf_i64 (by omega)
  obtain ⟨d, hd⟩ := sizeK
  have fm : (kyV k).formed Tryz.prog 65 = true := by
    unfold kyV
    simp [Value.formed, Tryz.underlying65, cellsK]
  have kl : ∃ ls, Tryz.prog.keyLits (Tryz.prog.types.size + 1) 65 (kyV k).cells.toList = some ls := by
    rw [hd]
    unfold kyV
    simp [Program.keyLits, Tryz.underlying65, Tryz.underlying9, Tryz.underlying2, cellsK, cells1, cells2, Value.cells, m1, m2, w3]
  obtain ⟨ls, hl⟩ := kl
  refine ⟨.string (keyBytes ls), ?_⟩
  unfold keyOf
  rw [Tryz.underlying65]
  simp only [keyTypeK, fm, hl]
  rfl
theorem zeroE (w : World) : (zeroValue 33).run Tryz.prog w = .ok (obsV zeroO) w := by kernel_rfl
theorem mapK : MapTy Tryz.prog 63 65 33 kyV obsV goodK zeroO := ⟨lawK, Tryz.underlying63, zeroE, kyV_inj, keyOf_K⟩
end Vw
end Go.Proofs.YtaghilgfldaaiaaGreatDoor
/-
  Two slices that the call owns, one of observations and one of numbers, and a map beside them: append to either.
-/
namespace Go.Proofs.YtaghilgfldaaiaaGreatDoor
namespace Vw
open Go.RowKit Lw Go.Proofs.YtaghilgfldaaiaaGreatDoor.Ap Go.Proofs.YtaghilgfldaaiaaGreatDoor.Vp Go.Proofs.YtaghilgfldaaiaaGreatDoor.Op Go.Proofs.YtaghilgfldaaiaaGreatDoor.Ow

/-- append to the first. -/
theorem wp_keep {ops : Array Oper} {rest : List Oper} {o : Oper} {a : Act} {Q : Exit → Act → World → Prop} (w : World) (hgd : o.guard = none) (s x : Operand)
    (ho : o.op = .call { callee := .builtin .append, args := #[s, x], argTypes := #[22, 22] })
    (B : Nat) (vk vd : Value) (K : List Ob) (D : List Nat) (q : Ob) (hs : a.eval s = vk) (hx : a.eval x = .slice (some ⟨w.heap.size, 0, none⟩) 1 1) (h2 : W2 B vk K vd D w) (hl : K.length ≤ 1000000)
    (h : ∀ v' w', W2 B v' (K ++ [q]) vd D w' → (w.alloc (.cells (obsC q).toArray 33)).grownBy w' vk.ownBlock → (v'.ownBlock = vk.ownBlock ∨ v'.ownBlock = some (w.heap.size + 1)) → Below B w w' → wpList Tryz.prog ops Q rest (a.put o.dst v') w') :
    wpList Tryz.prog ops Q (o :: rest) a (w.alloc (.cells (obsC q).toArray 33)) := by
  obtain ⟨i0, hi, hz0, hz1, hz2⟩ := info_parts infoO
  have ho' := h2.kp.1.alloc (.cells (obsC q).toArray 33)
  have nw := news_of (rangeAt_new w (obsC q) 33)
  have b1 : Below B w (w.alloc (.cells (obsC q).toArray 33)) := (Below.refl _ _).alloc h2.kp.2 _
  have sz : (w.alloc (.cells (obsC q).toArray 33)).heap.size = w.heap.size + 1 := by simp
  refine wpList_append_own_at _ hgd s x 22 ho B 33 i0 _ 8 80 Tryz.underlying22 hi hz0 hz1 hz2 rfl (by decide) vk K.length (flatO K) hs ho' ⟨w.heap.size, 0, none⟩ 1 1 (obsC q) hx rfl nw (obsC_one q) (by unfold maxLen; omega) (by omega) (Nat.le_trans h2.kp.2 b1.size) ?_
  intro v' w' h1 hg _ hat
  rw [sz] at hat
  have e := flatO_snoc K q
  have hb : Below B w w' := b1.trans ((Below.refl B _).grown hg (Nat.le_trans h2.kp.2 b1.size) (fun k hk => (h2.kp.1.lt k hk).1))
  refine h v' w' ⟨⟨?_, Nat.le_trans h2.kp.2 hb.size⟩, ⟨((h2.dp.1.alloc _).kept hg h2.ap2.1), Nat.le_trans h2.dp.2 hb.size⟩, fun g hv hd => ?_⟩ hg hat hb
  · rw [e, List.length_append]
    exact h1
  · rcases hat with hat | hat
    · exact h2.ap g (hat ▸ hv) hd
    · rw [hat] at hv
      have := (h2.dp.1.lt g hd).2
      injection hv with hv
      omega
theorem M3.keep {B mb n : Nat} {f : Ky → Option Ob} {vk vd v' : Value} {K K' : List Ob} {D : List Nat} {w w' : World} {ob : Obj} (h : M3 B mb n f vk K vd D w) (h2 : W2 B v' K' vd D w') (hg : (w.alloc ob).grownBy w' vk.ownBlock) (hat : v'.ownBlock = vk.ownBlock ∨ v'.ownBlock = some (w.heap.size + 1)) : M3 B mb n f v' K' vd D w' := by
  have lt := h.mp.lt
  refine ⟨h2, (h.mp.below ((Below.refl _ _).alloc (Nat.le_refl _) ob)).kept hg (fun e => h.nk e.symm), fun e => ?_, h.nd⟩
  rcases hat with hat | hat
  · exact h.nk (hat ▸ e)
  · rw [hat] at e
    injection e with e
    omega
theorem Own1.intV {w : World} {B : Nat} {v : Value} {D : List Nat} (h : Own1 3 w B v (intL D)) : IntV w v D := by
  rcases h.form with ⟨e, rfl⟩ | ⟨g, cap, rfl, _, _, lt, hc⟩
  · have : D = [] := by
      cases D with
      | nil => rfl
      | cons a l => cases e
    subst this
    exact IntV.nil w
  · refine ⟨some ⟨g, 0, none⟩, cap, by rw [intL_len], Or.inr ⟨g, 0, rfl, lt, fun j hj => ?_⟩⟩
    rw [Nat.zero_add]
    refine hc j _ ?_
    unfold intL
    rw [List.getElem?_map, List.getElem?_eq_getElem hj]
    rfl
end Vw
end Go.Proofs.YtaghilgfldaaiaaGreatDoor
/-
  Plain law of merging: what is kept is merged as it is; each that is dropped has a duplicate that is kept.
-/
namespace Go.Proofs.YtaghilgfldaaiaaGreatDoor
namespace Vp
open Go.RowKit Lw Go.Proofs.YtaghilgfldaaiaaGreatDoor.Ap Go.Proofs.YtaghilgfldaaiaaGreatDoor.Op Go.Proofs.YtaghilgfldaaiaaGreatDoor.Mp Go.Proofs.YtaghilgfldaaiaaGreatDoor.Mw

theorem betP_trans {a b c : Ob} (h : betP a b) (g : betP b c) : betP a c := by
  have n := betP_not_trans (betP_asymm h) (betP_asymm g)
  by_cases e : a = c
  · subst e
    exact absurd g (betP_asymm h)
  · rcases betP_total e with k | k
    · exact k
    · exact absurd k n
/-- The k-th comes before the i-th. -/
def frst (l : List Ob) (i k : Nat) : Prop := ∃ (hi : i < l.length) (hk : k < l.length), betP l[k] l[i] ∨ (l[k] = l[i] ∧ k < i)
theorem beats_frst {l : List Ob} {i k : Nat} : beats l i k ↔ frst l i k ∧ ∃ (hi : i < l.length) (hk : k < l.length), kyOf l[i] = kyOf l[k] := by
  constructor
  · rintro ⟨hi, hk, _, e, h⟩
    refine ⟨⟨hi, hk, ?_⟩, hi, hk, e⟩
    rcases h with h | ⟨h1, h2⟩
    · exact Or.inl h
    · by_cases q : l[k] = l[i]
      · exact Or.inr ⟨q, h1⟩
      · rcases betP_total q with g | g
        · exact Or.inl g
        · exact absurd g h2
  · rintro ⟨⟨hi, hk, h⟩, _, _, e⟩
    refine ⟨hi, hk, ?_, e, ?_⟩
    · rintro rfl
      rcases h with h | h
      · exact betP_irrefl _ h
      · omega
    · rcases h with h | ⟨h1, h2⟩
      · exact Or.inl h
      · exact Or.inr ⟨h2, by rw [h1]; exact betP_irrefl _⟩
theorem frst_trans {l : List Ob} {i j k : Nat} (h : frst l i j) (g : frst l j k) : frst l i k := by
  obtain ⟨hi, hj, h⟩ := h
  obtain ⟨_, hk, g⟩ := g
  refine ⟨hi, hk, ?_⟩
  rcases h with h | ⟨h1, h2⟩ <;> rcases g with g | ⟨g1, g2⟩
  · exact Or.inl (betP_trans g h)
  · rw [← g1] at h; exact Or.inl h
  · rw [h1] at g; exact Or.inl g
  · exact Or.inr ⟨g1.trans h1, by omega⟩
theorem beats_trans {l : List Ob} {i j k : Nat} (h : beats l i j) (g : beats l j k) : beats l i k := by
  obtain ⟨h1, hi, _, h2⟩ := beats_frst.1 h
  obtain ⟨g1, _, hk, g2⟩ := beats_frst.1 g
  exact beats_frst.2 ⟨frst_trans h1 g1, hi, hk, h2.trans g2⟩
theorem beats_irrefl {l : List Ob} {i : Nat} : ¬ beats l i i := fun ⟨_, _, h, _⟩ => h rfl
theorem beats_key {l : List Ob} {i k : Nat} (hi : i < l.length) (hk : k < l.length) (h : beats l i k) : kyOf l[i] = kyOf l[k] ∧ ¬ betP l[i] l[k] := by
  obtain ⟨_, _, _, e, h⟩ := h
  refine ⟨e, ?_⟩
  rcases h with h | ⟨_, h⟩
  · exact betP_asymm h
  · exact h
theorem best_to {l : List Ob} {j : Nat} (hj : j < l.length) : ∀ n, ∃ i, i < l.length ∧ (i = j ∨ beats l j i) ∧ bestN l i n
  | 0 => ⟨j, hj, Or.inl rfl, bestN_zero l j⟩
  | n + 1 => by
    obtain ⟨i, hi, h1, h2⟩ := best_to hj n
    by_cases b : beats l i n
    · have hn : n < l.length := by
        obtain ⟨_, hn, _⟩ := b
        exact hn
      refine ⟨n, hn, Or.inr ?_, bestN_succ.2 ⟨fun k hk g => h2 k hk (beats_trans b g), beats_irrefl⟩⟩
      rcases h1 with rfl | h1
      · exact b
      · exact beats_trans h1 b
    · exact ⟨i, hi, h1, bestN_succ.2 ⟨h2, b⟩⟩
theorem best_of {l : List Ob} {j : Nat} (hj : j < l.length) : ∃ i, ∃ hi : i < l.length, bestP l i ∧ kyOf l[i] = kyOf l[j] ∧ l[i].sg ≤ l[j].sg := by
  obtain ⟨i, hi, h1, h2⟩ := best_to hj l.length
  refine ⟨i, hi, h2, ?_⟩
  rcases h1 with rfl | h1
  · exact ⟨rfl, Int.le_refl _⟩
  · obtain ⟨e, n⟩ := beats_key hj hi h1
    refine ⟨e.symm, ?_⟩
    unfold betP at n
    omega
theorem keptTo_of {l : List Ob} {n i : Nat} (hi : i < l.length) (hn : i < n) (h : bestP l i) : l[i] ∈ keptTo l n := by
  unfold keptTo
  refine List.mem_filterMap.2 ⟨i, List.mem_filter.2 ⟨List.mem_range.2 hn, decide_eq_true h⟩, List.getElem?_eq_getElem hi⟩
theorem best_apart {l : List Ob} {i k : Nat} (hi : i < l.length) (hk : k < l.length) (ne : i < k) (a : bestP l i) (b : bestP l k) : kyOf l[i] ≠ kyOf l[k] := by
  intro e
  by_cases q : l[i] = l[k]
  · exact b i hi (beats_frst.2 ⟨⟨hk, hi, Or.inr ⟨q, ne⟩⟩, hk, hi, e.symm⟩)
  · rcases betP_total q with g | g
    · exact b i hi (beats_frst.2 ⟨⟨hk, hi, Or.inl g⟩, hk, hi, e.symm⟩)
    · exact a k hk (beats_frst.2 ⟨⟨hi, hk, Or.inl g⟩, hi, hk, e⟩)
def diffL (l : List Ob) : Prop := l.Pairwise fun a b => kyOf a ≠ kyOf b
theorem keptTo_diff (l : List Ob) : ∀ n, n ≤ l.length → diffL (keptTo l n)
  | 0, _ => List.Pairwise.nil
  | n + 1, h => by
    have ih := keptTo_diff l n (by omega)
    by_cases b : bestP l n
    · rw [keptTo_yes (by omega) b]
      refine List.pairwise_append.2 ⟨ih, List.pairwise_singleton _ _, fun x hx y hy => ?_⟩
      obtain ⟨i, hi, hin, bi, rfl⟩ := keptTo_mem hx
      rw [List.mem_singleton.1 hy]
      exact best_apart hi (by omega) hin bi b
    · rw [keptTo_no b]
      exact ih
theorem diff_best {l : List Ob} (h : diffL l) (i : Nat) : bestP l i := by
  intro k _ b
  obtain ⟨hi, hk, ne, e, _⟩ := b
  rcases Nat.lt_or_gt_of_ne ne with g | g
  · exact List.pairwise_iff_getElem.1 h k i hk hi g e.symm
  · exact List.pairwise_iff_getElem.1 h i k hi hk g e
theorem diff_kept {l : List Ob} (h : diffL l) : ∀ n, n ≤ l.length → keptTo l n = l.take n ∧ dropTo l n = []
  | 0, _ => ⟨by rw [keptTo_zero]; rfl, rfl⟩
  | n + 1, hn => by
    obtain ⟨a, b⟩ := diff_kept h n (by omega)
    have q := diff_best h n
    rw [keptTo_yes (by omega) q, dropTo_yes q, a, b]
    exact ⟨(List.take_succ_eq_append_getElem (by omega)).symm, rfl⟩
/-- What PsvKept says of what Merge returns. -/
structure KeptIs (l x : List Ob) (p : List Nat) : Prop where
  again : MergeIs x x [] 0
  ok : allC x = 0
  len : x.length + p.length = l.length
  up : ∀ i (h : i + 1 < x.length), cmpO (x[i]'(by omega)) x[i + 1] < 0
  mem : ∀ i (h : i < x.length), ∃ k, ∃ hk : k < l.length, l[k] = x[i]
  apart : ∀ i k (hi : i < x.length) (hk : k < i), kyOf x[i] ≠ kyOf (x[k]'(by omega))
  drop : ∀ i (h : i < p.length), p[i] < l.length
  grow : ∀ i (h : i + 1 < p.length), (p[i]'(by omega)) < p[i + 1]
  twin : ∀ i (h : i < p.length) (g : p[i] < l.length), ∃ k, ∃ hk : k < x.length, kyOf x[k] = kyOf l[p[i]] ∧ x[k].sg ≤ l[p[i]].sg
theorem kept_is {l x : List Ob} {p : List Nat} (ok : allC l = 0) (h : MergeIs l x p 0) : KeptIs l x p := by
  rcases h with ⟨_, hp, ho, rfl, _⟩ | ⟨h, _⟩
  · have okx : allC x = 0 := by
      have a := kept_ok ok l.length (Nat.le_refl _)
      obtain ⟨a1, a2⟩ := allC_ok a
      exact allC_zero (by rw [hp.length_eq]; exact a1) fun o h => a2 o (hp.mem_iff.1 h)
    have d : diffL x := (hp.pairwise_iff (fun h e => h e.symm)).2 (keptTo_diff l _ (Nat.le_refl _))
    obtain ⟨k1, k2⟩ := diff_kept d x.length (Nat.le_refl _)
    rw [List.take_length] at k1
    have dd := List.pairwise_iff_getElem.1 d
    refine ⟨Or.inl ⟨okx, by rw [k1], ho, k2.symm, rfl⟩, okx, ?_, fun i hi => ?_, fun i hi => ?_, fun i k hi hk => ?_, fun i hi => ?_, fun i hi => ?_, fun i hi g => ?_⟩
    · rw [hp.length_eq]
      exact (keptTo_len l l.length).2 (Nat.le_refl _)
    · have a := List.pairwise_iff_getElem.1 ho i (i + 1) (by omega) hi (by omega)
      have b := dd i (i + 1) (by omega) hi (by omega)
      have c : cmpO (x[i]'(by omega)) x[i + 1] ≠ 0 := fun e => b (by rw [cmpO_zero e])
      omega
    · obtain ⟨k, hk, _, _, e⟩ := keptTo_mem (hp.mem_iff.1 (List.getElem_mem hi))
      exact ⟨k, hk, e⟩
    · exact fun e => dd k i (by omega) hi hk e.symm
    · exact (dropTo_mem.1 (List.getElem_mem hi)).1
    · have s : (dropTo l l.length).Pairwise (· < ·) := List.Pairwise.filter _ List.pairwise_lt_range
      exact List.pairwise_iff_getElem.1 s i (i + 1) (by omega) hi (by omega)
    · obtain ⟨k, hk, b, e1, e2⟩ := best_of g
      have m := hp.mem_iff.2 (keptTo_of hk hk b)
      obtain ⟨q, hq, e⟩ := List.getElem_of_mem m
      exact ⟨q, hq, by rw [e]; exact e1, by rw [e]; exact e2⟩
  · exact absurd ok h
end Vp
end Go.Proofs.YtaghilgfldaaiaaGreatDoor
/-
  The walks of comparisons: number, text of the reference; cmp.Compare, cmp.Or.
-/
namespace Go.Proofs.YtaghilgfldaaiaaGreatDoor
namespace Ow
open Go.RowKit Lw Go.Proofs.YtaghilgfldaaiaaGreatDoor.Ap Go.Proofs.YtaghilgfldaaiaaGreatDoor.Op Go.Proofs.YtaghilgfldaaiaaGreatDoor.Mp Go.Proofs.YtaghilgfldaaiaaGreatDoor.Mw Go.Proofs.YtaghilgfldaaiaaGreatDoor.At

theorem cI_m {x y : Int} (h : x < y) : cI x y = -1 := if_pos h
theorem cI_p {x y : Int} (h : ¬ x < y) (g : y < x) : cI x y = 1 := by unfold cI; rw [if_neg h, if_pos g]
theorem cI_z {x y : Int} (h : ¬ x < y) (g : ¬ y < x) : cI x y = 0 := by unfold cI; rw [if_neg h, if_neg g]
set_option maxRecDepth 100000 in
set_option maxHeartbeats 1000000 in
theorem number_any (x y : Int) (w : World) : Calls Tryz.prog 62 #[.int .i64 x, .int .i64 y] w fun e w' => e = .returned (.int .i64 (cI x y)) ∧ w = w' := by
  by_cases h : x < y
  · rw [cI_m h]
    go_enter Tryz.func62, Tryz.ntmps62
    go_wp2_with go_in
    go_ret
    exact ⟨rfl, rfl⟩
  · by_cases g : y < x
    · rw [cI_p h g]
      go_enter Tryz.func62, Tryz.ntmps62
      go_wp2_with go_in
      go_ret
      exact ⟨rfl, rfl⟩
    · rw [cI_z h g]
      go_enter Tryz.func62, Tryz.ntmps62
      go_wp2_with go_in
      go_ret
      exact ⟨rfl, rfl⟩
set_option maxRecDepth 100000 in
set_option maxHeartbeats 1000000 in
theorem cmp64_any (x y : Int) (w : World) : Calls Tryz.prog 114 #[.int .i64 x, .int .i64 y] w fun e w' => e = .returned (.int .i64 (cI x y)) ∧ w = w' := by
  by_cases h : x < y
  · rw [cI_m h]
    go_enter Tryz.func114, Tryz.ntmps114
    go_wp2_with go_in
    go_ret
    exact ⟨rfl, rfl⟩
  · by_cases g : y < x
    · rw [cI_p h g]
      go_enter Tryz.func114, Tryz.ntmps114
      go_wp2_with go_in
      go_ret
      exact ⟨rfl, rfl⟩
    · rw [cI_z h g]
      go_enter Tryz.func114, Tryz.ntmps114
      go_wp2_with go_in
      go_ret
      exact ⟨rfl, rfl⟩
set_option maxRecDepth 100000 in
set_option maxHeartbeats 1000000 in
theorem cmpint_any (x y : Int) (w : World) : Calls Tryz.prog 116 #[.int .i64 x, .int .i64 y] w fun e w' => e = .returned (.int .i64 (cI x y)) ∧ w = w' := by
  by_cases h : x < y
  · rw [cI_m h]
    go_enter Tryz.func116, Tryz.ntmps116
    go_wp2_with go_in
    go_ret
    exact ⟨rfl, rfl⟩
  · by_cases g : y < x
    · rw [cI_p h g]
      go_enter Tryz.func116, Tryz.ntmps116
      go_wp2_with go_in
      go_ret
      exact ⟨rfl, rfl⟩
    · rw [cI_z h g]
      go_enter Tryz.func116, Tryz.ntmps116
      go_wp2_with go_in
      go_ret
      exact ⟨rfl, rfl⟩
set_option maxRecDepth 100000 in
set_option maxHeartbeats 1000000 in
theorem cmpbyte_any (x y : Int) (w : World) : Calls Tryz.prog 117 #[.int .u8 x, .int .u8 y] w fun e w' => e = .returned (.int .i64 (cI x y)) ∧ w = w' := by
  by_cases h : x < y
  · rw [cI_m h]
    go_enter Tryz.func117, Tryz.ntmps117
    go_wp2_with go_in
    go_ret
    exact ⟨rfl, rfl⟩
  · by_cases g : y < x
    · rw [cI_p h g]
      go_enter Tryz.func117, Tryz.ntmps117
      go_wp2_with go_in
      go_ret
      exact ⟨rfl, rfl⟩
    · rw [cI_z h g]
      go_enter Tryz.func117, Tryz.ntmps117
      go_wp2_with go_in
      go_ret
      exact ⟨rfl, rfl⟩
set_option maxRecDepth 100000 in
set_option maxHeartbeats 1000000 in
theorem cmpstr_any (x y : ByteArray) (w : World) : Calls Tryz.prog 115 #[.string x, .string y] w fun e w' => e = .returned (.int .i64 (cS x y)) ∧ w = w' := by
  by_cases h : x.data.toList < y.data.toList
  · rw [cS_m h]
    have f1 := bl_t h
    clear h
    go_enter Tryz.func115, Tryz.ntmps115
    go_wp2_with go_in
    go_ret
    exact ⟨rfl, rfl⟩
  · by_cases g : y.data.toList < x.data.toList
    · rw [cS_p h g]
      have f1 := bl_f h
      have f2 := be_f g
      clear h g
      go_enter Tryz.func115, Tryz.ntmps115
      go_wp2_with go_in
      go_ret
      exact ⟨rfl, rfl⟩
    · rw [cS_z h g]
      have f1 := bl_f h
      have f2 := be_t h g
      clear h g
      go_enter Tryz.func115, Tryz.ntmps115
      go_wp2_with go_in
      go_ret
      exact ⟨rfl, rfl⟩
set_option maxRecDepth 100000 in
set_option maxHeartbeats 4000000 in
theorem or_any (b cap : Nat) (l : List Int) (w : World) (hl : ∀ i (h : i < l.length), w.cell? ⟨b, i, none⟩ = some (.int .i64 (l[i]'h))) (hm : l.length ≤ 1000) :
    Calls Tryz.prog 113 #[.slice (some ⟨b, 0, none⟩) l.length cap] w fun e w' => e = .returned (.int .i64 (orL l)) ∧ w = w' := by
  have OA := Lib.hid (fun k (hk : k < l.length) (h : ∀ i (hi : i < l.length), i < k → l[i] = 0) (g : l[k] ≠ 0) => orL_at hk h g)
  have OZ := Lib.hid (fun (h : ∀ i (hi : i < l.length), l[i] = 0) => orL_zero h)
  have HL := Lib.hid hl
  generalize orL l = K at *
  obtain ⟨n, hnl⟩ : ∃ n, l.length = n := ⟨_, rfl⟩
  rw [hnl] at hm ⊢
  have NL := Lib.hid hnl
  clear hl hnl
  go_enter Tryz.func113, Tryz.ntmps113
  go_wp2_with fail
  go_loop [8] (fun i => ∃ k : Nat, k ≤ n ∧ i = .int .i64 k ∧ Hid (∀ j (h : j < l.length), j < k → l[j] = 0)) (fun i => n - (intOf i).toNat)
  case atStart => exact ⟨0, Nat.zero_le _, rfl, Lib.hid (fun j _ h => by omega)⟩
  case round =>
    obtain ⟨k, hk, rfl, D⟩ := hrel
    by_cases hlt : k < n
    · have hkl : k < l.length := by rw [NL.out]; exact hlt
      have c0 := HL.out k hkl
      have i1 : (k : Int) < (n : Int) := by omega
      by_cases hz : l[k] = 0
      · have DK := Lib.hid (show ∀ j (h : j < l.length), j < k + 1 → l[j] = 0 from fun j h hj => by
          by_cases e : j = k
          · subst e; exact hz
          · exact D.out j h (by omega))
        rw [hz] at c0
        clear D OA OZ hz
        go_wp2_with fail
        go_round
        case rel => exact ⟨k + 1, by omega, by go_num, DK⟩
        case measure => simp [intOf]; omega
      · have E := Lib.hid (OA.out k hkl D.out hz)
        generalize l[k]'hkl = v at *
        have hz2 : (v != 0) = true := by rw [bne, beq_eq_false_iff_ne.2 hz]; rfl
        clear D OA OZ
        go_wp2_with fail
        go_ret
        exact ⟨by rw [E.out]; rfl, rfl⟩
    · obtain rfl : k = n := by omega
      have E := Lib.hid (OZ.out (fun i hi => D.out i hi (by have := NL.out; omega)))
      clear OA OZ D
      go_wp2_with fail
      go_ret
      exact ⟨by rw [E.out]; rfl, rfl⟩
end Ow
end Go.Proofs.YtaghilgfldaaiaaGreatDoor
/-
  The walks of compare of obs, and of Compare of the reference.
-/
namespace Go.Proofs.YtaghilgfldaaiaaGreatDoor
namespace Ow
open Go.RowKit Lw Go.Proofs.YtaghilgfldaaiaaGreatDoor.Ap Go.Proofs.YtaghilgfldaaiaaGreatDoor.Op Go.Proofs.YtaghilgfldaaiaaGreatDoor.Mp Go.Proofs.YtaghilgfldaaiaaGreatDoor.Mw Go.Proofs.YtaghilgfldaaiaaGreatDoor.At Go.Sort

/-- The numbers of a comparison, as cells. -/
abbrev cmpC (x y : Ob) : List Value := [.int .i64 (cI x.t y.t), .int .i64 (cS x.site y.site), .int .i64 (cS x.name y.name), .int .i64 (cI x.ra y.ra), .int .i64 (cI x.dec y.dec), .int .i64 (cI x.sg y.sg), .int .i64 (cI x.mag y.mag), .int .i64 (cI x.band y.band)]
theorem cmpC_cell {b : Nat} {x y : Ob} {w : World} (h : w.rangeAt b 0 (cmpC x y)) : ∀ i (hi : i < (cmpL x y).length), w.cell? ⟨b, i, none⟩ = some (.int .i64 ((cmpL x y)[i]'hi)) := fun i hi => by
  have e : (cmpC x y)[i]? = some (.int .i64 ((cmpL x y)[i]'hi)) := by
    have : cmpC x y = (cmpL x y).map (Value.int .i64) := rfl
    rw [this, List.getElem?_map, List.getElem?_eq_getElem hi]; rfl
  have := h i _ e
  rwa [Nat.zero_add] at this
theorem row3 (w : World) (a b : Obj) (cs : List Value) (t : TypeId) : (((w.alloc a).alloc b).alloc (.cells cs.toArray t)).drew.rangeAt (w.heap.size + 1 + 1) 0 cs := by
  have h := rangeAt_new ((w.alloc a).alloc b) cs t
  have e : ((w.alloc a).alloc b).heap.size = w.heap.size + 1 + 1 := by simp
  rw [e] at h
  exact rangeAt_below h (Below.refl _ _).drew (by simp)
theorem or8 (b : Nat) (x y : Ob) (w : World) (h : w.rangeAt b 0 (cmpC x y)) : Calls Tryz.prog 113 #[.slice (some ⟨b, 0, none⟩) 8 8] w fun e w' => e = .returned (.int .i64 (cmpO x y)) ∧ w = w' := or_any b 8 (cmpL x y) w (cmpC_cell h) (by show 8 ≤ 1000; omega)
set_option maxRecDepth 100000 in
set_option maxHeartbeats 40000000 in
theorem compare_any (x y : Ob) (w : World) : Calls Tryz.prog 67 #[obsV x, obsV y] w fun e w' => e = .returned (.int .i64 (cmpO x y)) ∧ ∃ q os', w' = grow (w.drewN q) os' := by
  have L := Lib.hid (CX.new w x y 108)
  obtain ⟨n0, s0, t0, r0, d0, g0, m0, b0⟩ := x
  obtain ⟨n1, s1, t1, r1, d1, g1, m1, b1⟩ := y
  have OR := Lib.hid (fun b w' h => or8 b ⟨n0, s0, t0, r0, d0, g0, m0, b0⟩ ⟨n1, s1, t1, r1, d1, g1, m1, b1⟩ w' h)
  generalize cmpO ⟨n0, s0, t0, r0, d0, g0, m0, b0⟩ ⟨n1, s1, t1, r1, d1, g1, m1, b1⟩ = K at *
  go_enter Tryz.func67, Tryz.ntmps67
  go_wp2_with fail
  refine wp_region_held_drew (S := CX w w.heap.size ⟨n0, s0, t0, r0, d0, g0, m0, b0⟩ ⟨n1, s1, t1, r1, d1, g1, m1, b1⟩) (by kernel_rfl) L.out.drew (fun hHeld => ?_)
  clear L
  refine wpAnyH_take (i := 0) (oi := ?oi0x1) (v := ?v0x1) ?hi0x1 (by kernel_rfl) (by kernel_rfl) (by kernel_rfl) ?hq0x1 ?hy0x1 hHeld ?rest0x1
  case hi0x1 => ((try simp only [List.getElem?_toArray, List.getElem?_cons_succ, List.getElem?_cons_zero]); (try rfl))
  case hq0x1 => exact fun _ _ _ h => h
  case hy0x1 => exact Or.inl ⟨by rfl, by intro w hSw; clear hSw; go_simp; try with_reducible rfl⟩
  try simp only [Act.put, List.setIfInBounds_toArray, List.set_cons_zero, List.set_cons_succ]
  refine wpAnyH_take (i := 1) (oi := ?oi1x2) (v := ?v1x2) ?hi1x2 (by kernel_rfl) (by kernel_rfl) (by kernel_rfl) ?hq1x2 ?hy1x2 hHeld ?rest1x2
  case hi1x2 => ((try simp only [List.getElem?_toArray, List.getElem?_cons_succ, List.getElem?_cons_zero]); (try rfl))
  case hq1x2 => exact fun _ _ _ h => h
  case hy1x2 => exact Or.inl ⟨by rfl, by intro w hSw; have q := (CX.rx hSw) 2 _ rfl; clear hSw; simp only [Nat.zero_add] at q; go_simp; try with_reducible rfl⟩
  try simp only [Act.put, List.setIfInBounds_toArray, List.set_cons_zero, List.set_cons_succ]
  refine wpAnyH_take (i := 2) (oi := ?oi2x3) (v := ?v2x3) ?hi2x3 (by kernel_rfl) (by kernel_rfl) (by kernel_rfl) ?hq2x3 ?hy2x3 hHeld ?rest2x3
  case hi2x3 => ((try simp only [List.getElem?_toArray, List.getElem?_cons_succ, List.getElem?_cons_zero]); (try rfl))
  case hq2x3 => exact fun _ _ _ h => h
  case hy2x3 => exact Or.inl ⟨by rfl, by intro w hSw; clear hSw; go_simp; try with_reducible rfl⟩
  try simp only [Act.put, List.setIfInBounds_toArray, List.set_cons_zero, List.set_cons_succ]
  refine wpAnyH_take (i := 3) (oi := ?oi3x4) (v := ?v3x4) ?hi3x4 (by kernel_rfl) (by kernel_rfl) (by kernel_rfl) ?hq3x4 ?hy3x4 hHeld ?rest3x4
  case hi3x4 => ((try simp only [List.getElem?_toArray, List.getElem?_cons_succ, List.getElem?_cons_zero]); (try rfl))
  case hq3x4 => exact fun _ _ _ h => h
  case hy3x4 => exact Or.inl ⟨by rfl, by intro w hSw; have q := (CX.ry hSw) 2 _ rfl; clear hSw; simp only [Nat.zero_add] at q; go_simp; try with_reducible rfl⟩
  try simp only [Act.put, List.setIfInBounds_toArray, List.set_cons_zero, List.set_cons_succ]
  refine wpAnyH_take (i := 5) (oi := ?oi5x5) (v := ?v5x5) ?hi5x5 (by kernel_rfl) (by kernel_rfl) (by kernel_rfl) ?hq5x5 ?hy5x5 hHeld ?rest5x5
  case hi5x5 => ((try simp only [List.getElem?_toArray, List.getElem?_cons_succ, List.getElem?_cons_zero]); (try rfl))
  case hq5x5 => exact fun _ _ _ h => h
  case hy5x5 => exact Or.inl ⟨by rfl, by intro w hSw; clear hSw; go_simp; try with_reducible rfl⟩
  try simp only [Act.put, List.setIfInBounds_toArray, List.set_cons_zero, List.set_cons_succ]
  refine wpAnyH_take (i := 6) (oi := ?oi6x6) (v := ?v6x6) ?hi6x6 (by kernel_rfl) (by kernel_rfl) (by kernel_rfl) ?hq6x6 ?hy6x6 hHeld ?rest6x6
  case hi6x6 => ((try simp only [List.getElem?_toArray, List.getElem?_cons_succ, List.getElem?_cons_zero]); (try rfl))
  case hq6x6 => exact fun _ _ _ h => h
  case hy6x6 => exact Or.inl ⟨by rfl, by intro w hSw; have q := (CX.rx hSw) 1 _ rfl; clear hSw; simp only [Nat.zero_add] at q; go_simp; try with_reducible rfl⟩
  try simp only [Act.put, List.setIfInBounds_toArray, List.set_cons_zero, List.set_cons_succ]
  refine wpAnyH_take (i := 7) (oi := ?oi7x7) (v := ?v7x7) ?hi7x7 (by kernel_rfl) (by kernel_rfl) (by kernel_rfl) ?hq7x7 ?hy7x7 hHeld ?rest7x7
  case hi7x7 => ((try simp only [List.getElem?_toArray, List.getElem?_cons_succ, List.getElem?_cons_zero]); (try rfl))
  case hq7x7 => exact fun _ _ _ h => h
  case hy7x7 => exact Or.inl ⟨by rfl, by intro w hSw; clear hSw; go_simp; try with_reducible rfl⟩
  try simp only [Act.put, List.setIfInBounds_toArray, List.set_cons_zero, List.set_cons_succ]
  refine wpAnyH_take (i := 8) (oi := ?oi8x8) (v := ?v8x8) ?hi8x8 (by kernel_rfl) (by kernel_rfl) (by kernel_rfl) ?hq8x8 ?hy8x8 hHeld ?rest8x8
  case hi8x8 => ((try simp only [List.getElem?_toArray, List.getElem?_cons_succ, List.getElem?_cons_zero]); (try rfl))
  case hq8x8 => exact fun _ _ _ h => h
  case hy8x8 => exact Or.inl ⟨by rfl, by intro w hSw; have q := (CX.ry hSw) 1 _ rfl; clear hSw; simp only [Nat.zero_add] at q; go_simp; try with_reducible rfl⟩
  try simp only [Act.put, List.setIfInBounds_toArray, List.set_cons_zero, List.set_cons_succ]
  refine wpAnyH_take (i := 10) (oi := ?oi10x9) (v := ?v10x9) ?hi10x9 (by kernel_rfl) (by kernel_rfl) (by kernel_rfl) ?hq10x9 ?hy10x9 hHeld ?rest10x9
  case hi10x9 => ((try simp only [List.getElem?_toArray, List.getElem?_cons_succ, List.getElem?_cons_zero]); (try rfl))
  case hq10x9 => exact fun _ _ _ h => h
  case hy10x9 => exact Or.inl ⟨by rfl, by intro w hSw; clear hSw; go_simp; try with_reducible rfl⟩
  try simp only [Act.put, List.setIfInBounds_toArray, List.set_cons_zero, List.set_cons_succ]
  refine wpAnyH_take (i := 11) (oi := ?oi11x10) (v := ?v11x10) ?hi11x10 (by kernel_rfl) (by kernel_rfl) (by kernel_rfl) ?hq11x10 ?hy11x10 hHeld ?rest11x10
  case hi11x10 => ((try simp only [List.getElem?_toArray, List.getElem?_cons_succ, List.getElem?_cons_zero]); (try rfl))
  case hq11x10 => exact fun _ _ _ h => h
  case hy11x10 => exact Or.inl ⟨by rfl, by intro w hSw; have q := (CX.rx hSw) 0 _ rfl; clear hSw; simp only [Nat.zero_add] at q; go_simp; try with_reducible rfl⟩
  try simp only [Act.put, List.setIfInBounds_toArray, List.set_cons_zero, List.set_cons_succ]
  refine wpAnyH_take (i := 12) (oi := ?oi12x11) (v := ?v12x11) ?hi12x11 (by kernel_rfl) (by kernel_rfl) (by kernel_rfl) ?hq12x11 ?hy12x11 hHeld ?rest12x11
  case hi12x11 => ((try simp only [List.getElem?_toArray, List.getElem?_cons_succ, List.getElem?_cons_zero]); (try rfl))
  case hq12x11 => exact fun _ _ _ h => h
  case hy12x11 => exact Or.inl ⟨by rfl, by intro w hSw; clear hSw; go_simp; try with_reducible rfl⟩
  try simp only [Act.put, List.setIfInBounds_toArray, List.set_cons_zero, List.set_cons_succ]
  refine wpAnyH_take (i := 13) (oi := ?oi13x12) (v := ?v13x12) ?hi13x12 (by kernel_rfl) (by kernel_rfl) (by kernel_rfl) ?hq13x12 ?hy13x12 hHeld ?rest13x12
  case hi13x12 => ((try simp only [List.getElem?_toArray, List.getElem?_cons_succ, List.getElem?_cons_zero]); (try rfl))
  case hq13x12 => exact fun _ _ _ h => h
  case hy13x12 => exact Or.inl ⟨by rfl, by intro w hSw; have q := (CX.ry hSw) 0 _ rfl; clear hSw; simp only [Nat.zero_add] at q; go_simp; try with_reducible rfl⟩
  try simp only [Act.put, List.setIfInBounds_toArray, List.set_cons_zero, List.set_cons_succ]
  refine wpAnyH_take (i := 15) (oi := ?oi15x13) (v := ?v15x13) ?hi15x13 (by kernel_rfl) (by kernel_rfl) (by kernel_rfl) ?hq15x13 ?hy15x13 hHeld ?rest15x13
  case hi15x13 => ((try simp only [List.getElem?_toArray, List.getElem?_cons_succ, List.getElem?_cons_zero]); (try rfl))
  case hq15x13 => exact fun _ _ _ h => h
  case hy15x13 => exact Or.inl ⟨by rfl, by intro w hSw; clear hSw; go_simp; try with_reducible rfl⟩
  try simp only [Act.put, List.setIfInBounds_toArray, List.set_cons_zero, List.set_cons_succ]
  refine wpAnyH_take (i := 16) (oi := ?oi16x14) (v := ?v16x14) ?hi16x14 (by kernel_rfl) (by kernel_rfl) (by kernel_rfl) ?hq16x14 ?hy16x14 hHeld ?rest16x14
  case hi16x14 => ((try simp only [List.getElem?_toArray, List.getElem?_cons_succ, List.getElem?_cons_zero]); (try rfl))
  case hq16x14 => exact fun _ _ _ h => h
  case hy16x14 => exact Or.inl ⟨by rfl, by intro w hSw; have q := (CX.rx hSw) 3 _ rfl; clear hSw; simp only [Nat.zero_add] at q; go_simp; try with_reducible rfl⟩
  try simp only [Act.put, List.setIfInBounds_toArray, List.set_cons_zero, List.set_cons_succ]
  refine wpAnyH_take (i := 17) (oi := ?oi17x15) (v := ?v17x15) ?hi17x15 (by kernel_rfl) (by kernel_rfl) (by kernel_rfl) ?hq17x15 ?hy17x15 hHeld ?rest17x15
  case hi17x15 => ((try simp only [List.getElem?_toArray, List.getElem?_cons_succ, List.getElem?_cons_zero]); (try rfl))
  case hq17x15 => exact fun _ _ _ h => h
  case hy17x15 => exact Or.inl ⟨by rfl, by intro w hSw; clear hSw; go_simp; try with_reducible rfl⟩
  try simp only [Act.put, List.setIfInBounds_toArray, List.set_cons_zero, List.set_cons_succ]
  refine wpAnyH_take (i := 18) (oi := ?oi18x16) (v := ?v18x16) ?hi18x16 (by kernel_rfl) (by kernel_rfl) (by kernel_rfl) ?hq18x16 ?hy18x16 hHeld ?rest18x16
  case hi18x16 => ((try simp only [List.getElem?_toArray, List.getElem?_cons_succ, List.getElem?_cons_zero]); (try rfl))
  case hq18x16 => exact fun _ _ _ h => h
  case hy18x16 => exact Or.inl ⟨by rfl, by intro w hSw; have q := (CX.ry hSw) 3 _ rfl; clear hSw; simp only [Nat.zero_add] at q; go_simp; try with_reducible rfl⟩
  try simp only [Act.put, List.setIfInBounds_toArray, List.set_cons_zero, List.set_cons_succ]
  refine wpAnyH_take (i := 20) (oi := ?oi20x17) (v := ?v20x17) ?hi20x17 (by kernel_rfl) (by kernel_rfl) (by kernel_rfl) ?hq20x17 ?hy20x17 hHeld ?rest20x17
  case hi20x17 => ((try simp only [List.getElem?_toArray, List.getElem?_cons_succ, List.getElem?_cons_zero]); (try rfl))
  case hq20x17 => exact fun _ _ _ h => h
  case hy20x17 => exact Or.inl ⟨by rfl, by intro w hSw; clear hSw; go_simp; try with_reducible rfl⟩
  try simp only [Act.put, List.setIfInBounds_toArray, List.set_cons_zero, List.set_cons_succ]
  refine wpAnyH_take (i := 21) (oi := ?oi21x18) (v := ?v21x18) ?hi21x18 (by kernel_rfl) (by kernel_rfl) (by kernel_rfl) ?hq21x18 ?hy21x18 hHeld ?rest21x18
  case hi21x18 => ((try simp only [List.getElem?_toArray, List.getElem?_cons_succ, List.getElem?_cons_zero]); (try rfl))
  case hq21x18 => exact fun _ _ _ h => h
  case hy21x18 => exact Or.inl ⟨by rfl, by intro w hSw; have q := (CX.rx hSw) 4 _ rfl; clear hSw; simp only [Nat.zero_add] at q; go_simp; try with_reducible rfl⟩
  try simp only [Act.put, List.setIfInBounds_toArray, List.set_cons_zero, List.set_cons_succ]
  refine wpAnyH_take (i := 22) (oi := ?oi22x19) (v := ?v22x19) ?hi22x19 (by kernel_rfl) (by kernel_rfl) (by kernel_rfl) ?hq22x19 ?hy22x19 hHeld ?rest22x19
  case hi22x19 => ((try simp only [List.getElem?_toArray, List.getElem?_cons_succ, List.getElem?_cons_zero]); (try rfl))
  case hq22x19 => exact fun _ _ _ h => h
  case hy22x19 => exact Or.inl ⟨by rfl, by intro w hSw; clear hSw; go_simp; try with_reducible rfl⟩
  try simp only [Act.put, List.setIfInBounds_toArray, List.set_cons_zero, List.set_cons_succ]
  refine wpAnyH_take (i := 23) (oi := ?oi23x20) (v := ?v23x20) ?hi23x20 (by kernel_rfl) (by kernel_rfl) (by kernel_rfl) ?hq23x20 ?hy23x20 hHeld ?rest23x20
  case hi23x20 => ((try simp only [List.getElem?_toArray, List.getElem?_cons_succ, List.getElem?_cons_zero]); (try rfl))
  case hq23x20 => exact fun _ _ _ h => h
  case hy23x20 => exact Or.inl ⟨by rfl, by intro w hSw; have q := (CX.ry hSw) 4 _ rfl; clear hSw; simp only [Nat.zero_add] at q; go_simp; try with_reducible rfl⟩
  try simp only [Act.put, List.setIfInBounds_toArray, List.set_cons_zero, List.set_cons_succ]
  refine wpAnyH_take (i := 25) (oi := ?oi25x21) (v := ?v25x21) ?hi25x21 (by kernel_rfl) (by kernel_rfl) (by kernel_rfl) ?hq25x21 ?hy25x21 hHeld ?rest25x21
  case hi25x21 => ((try simp only [List.getElem?_toArray, List.getElem?_cons_succ, List.getElem?_cons_zero]); (try rfl))
  case hq25x21 => exact fun _ _ _ h => h
  case hy25x21 => exact Or.inl ⟨by rfl, by intro w hSw; clear hSw; go_simp; try with_reducible rfl⟩
  try simp only [Act.put, List.setIfInBounds_toArray, List.set_cons_zero, List.set_cons_succ]
  refine wpAnyH_take (i := 26) (oi := ?oi26x22) (v := ?v26x22) ?hi26x22 (by kernel_rfl) (by kernel_rfl) (by kernel_rfl) ?hq26x22 ?hy26x22 hHeld ?rest26x22
  case hi26x22 => ((try simp only [List.getElem?_toArray, List.getElem?_cons_succ, List.getElem?_cons_zero]); (try rfl))
  case hq26x22 => exact fun _ _ _ h => h
  case hy26x22 => exact Or.inl ⟨by rfl, by intro w hSw; have q := (CX.rx hSw) 5 _ rfl; clear hSw; simp only [Nat.zero_add] at q; go_simp; try with_reducible rfl⟩
  try simp only [Act.put, List.setIfInBounds_toArray, List.set_cons_zero, List.set_cons_succ]
  refine wpAnyH_take (i := 27) (oi := ?oi27x23) (v := ?v27x23) ?hi27x23 (by kernel_rfl) (by kernel_rfl) (by kernel_rfl) ?hq27x23 ?hy27x23 hHeld ?rest27x23
  case hi27x23 => ((try simp only [List.getElem?_toArray, List.getElem?_cons_succ, List.getElem?_cons_zero]); (try rfl))
  case hq27x23 => exact fun _ _ _ h => h
  case hy27x23 => exact Or.inl ⟨by rfl, by intro w hSw; clear hSw; go_simp; try with_reducible rfl⟩
  try simp only [Act.put, List.setIfInBounds_toArray, List.set_cons_zero, List.set_cons_succ]
  refine wpAnyH_take (i := 28) (oi := ?oi28x24) (v := ?v28x24) ?hi28x24 (by kernel_rfl) (by kernel_rfl) (by kernel_rfl) ?hq28x24 ?hy28x24 hHeld ?rest28x24
  case hi28x24 => ((try simp only [List.getElem?_toArray, List.getElem?_cons_succ, List.getElem?_cons_zero]); (try rfl))
  case hq28x24 => exact fun _ _ _ h => h
  case hy28x24 => exact Or.inl ⟨by rfl, by intro w hSw; have q := (CX.ry hSw) 5 _ rfl; clear hSw; simp only [Nat.zero_add] at q; go_simp; try with_reducible rfl⟩
  try simp only [Act.put, List.setIfInBounds_toArray, List.set_cons_zero, List.set_cons_succ]
  refine wpAnyH_take (i := 30) (oi := ?oi30x25) (v := ?v30x25) ?hi30x25 (by kernel_rfl) (by kernel_rfl) (by kernel_rfl) ?hq30x25 ?hy30x25 hHeld ?rest30x25
  case hi30x25 => ((try simp only [List.getElem?_toArray, List.getElem?_cons_succ, List.getElem?_cons_zero]); (try rfl))
  case hq30x25 => exact fun _ _ _ h => h
  case hy30x25 => exact Or.inl ⟨by rfl, by intro w hSw; clear hSw; go_simp; try with_reducible rfl⟩
  try simp only [Act.put, List.setIfInBounds_toArray, List.set_cons_zero, List.set_cons_succ]
  refine wpAnyH_take (i := 31) (oi := ?oi31x26) (v := ?v31x26) ?hi31x26 (by kernel_rfl) (by kernel_rfl) (by kernel_rfl) ?hq31x26 ?hy31x26 hHeld ?rest31x26
  case hi31x26 => ((try simp only [List.getElem?_toArray, List.getElem?_cons_succ, List.getElem?_cons_zero]); (try rfl))
  case hq31x26 => exact fun _ _ _ h => h
  case hy31x26 => exact Or.inl ⟨by rfl, by intro w hSw; have q := (CX.rx hSw) 6 _ rfl; clear hSw; simp only [Nat.zero_add] at q; go_simp; try with_reducible rfl⟩
  try simp only [Act.put, List.setIfInBounds_toArray, List.set_cons_zero, List.set_cons_succ]
  refine wpAnyH_take (i := 32) (oi := ?oi32x27) (v := ?v32x27) ?hi32x27 (by kernel_rfl) (by kernel_rfl) (by kernel_rfl) ?hq32x27 ?hy32x27 hHeld ?rest32x27
  case hi32x27 => ((try simp only [List.getElem?_toArray, List.getElem?_cons_succ, List.getElem?_cons_zero]); (try rfl))
  case hq32x27 => exact fun _ _ _ h => h
  case hy32x27 => exact Or.inl ⟨by rfl, by intro w hSw; clear hSw; go_simp; try with_reducible rfl⟩
  try simp only [Act.put, List.setIfInBounds_toArray, List.set_cons_zero, List.set_cons_succ]
  refine wpAnyH_take (i := 33) (oi := ?oi33x28) (v := ?v33x28) ?hi33x28 (by kernel_rfl) (by kernel_rfl) (by kernel_rfl) ?hq33x28 ?hy33x28 hHeld ?rest33x28
  case hi33x28 => ((try simp only [List.getElem?_toArray, List.getElem?_cons_succ, List.getElem?_cons_zero]); (try rfl))
  case hq33x28 => exact fun _ _ _ h => h
  case hy33x28 => exact Or.inl ⟨by rfl, by intro w hSw; have q := (CX.ry hSw) 6 _ rfl; clear hSw; simp only [Nat.zero_add] at q; go_simp; try with_reducible rfl⟩
  try simp only [Act.put, List.setIfInBounds_toArray, List.set_cons_zero, List.set_cons_succ]
  refine wpAnyH_take (i := 35) (oi := ?oi35x29) (v := ?v35x29) ?hi35x29 (by kernel_rfl) (by kernel_rfl) (by kernel_rfl) ?hq35x29 ?hy35x29 hHeld ?rest35x29
  case hi35x29 => ((try simp only [List.getElem?_toArray, List.getElem?_cons_succ, List.getElem?_cons_zero]); (try rfl))
  case hq35x29 => exact fun _ _ _ h => h
  case hy35x29 => exact Or.inl ⟨by rfl, by intro w hSw; clear hSw; go_simp; try with_reducible rfl⟩
  try simp only [Act.put, List.setIfInBounds_toArray, List.set_cons_zero, List.set_cons_succ]
  refine wpAnyH_take (i := 36) (oi := ?oi36x30) (v := ?v36x30) ?hi36x30 (by kernel_rfl) (by kernel_rfl) (by kernel_rfl) ?hq36x30 ?hy36x30 hHeld ?rest36x30
  case hi36x30 => ((try simp only [List.getElem?_toArray, List.getElem?_cons_succ, List.getElem?_cons_zero]); (try rfl))
  case hq36x30 => exact fun _ _ _ h => h
  case hy36x30 => exact Or.inl ⟨by rfl, by intro w hSw; have q := (CX.rx hSw) 7 _ rfl; clear hSw; simp only [Nat.zero_add] at q; go_simp; try with_reducible rfl⟩
  try simp only [Act.put, List.setIfInBounds_toArray, List.set_cons_zero, List.set_cons_succ]
  refine wpAnyH_take (i := 37) (oi := ?oi37x31) (v := ?v37x31) ?hi37x31 (by kernel_rfl) (by kernel_rfl) (by kernel_rfl) ?hq37x31 ?hy37x31 hHeld ?rest37x31
  case hi37x31 => ((try simp only [List.getElem?_toArray, List.getElem?_cons_succ, List.getElem?_cons_zero]); (try rfl))
  case hq37x31 => exact fun _ _ _ h => h
  case hy37x31 => exact Or.inl ⟨by rfl, by intro w hSw; clear hSw; go_simp; try with_reducible rfl⟩
  try simp only [Act.put, List.setIfInBounds_toArray, List.set_cons_zero, List.set_cons_succ]
  refine wpAnyH_take (i := 38) (oi := ?oi38x32) (v := ?v38x32) ?hi38x32 (by kernel_rfl) (by kernel_rfl) (by kernel_rfl) ?hq38x32 ?hy38x32 hHeld ?rest38x32
  case hi38x32 => ((try simp only [List.getElem?_toArray, List.getElem?_cons_succ, List.getElem?_cons_zero]); (try rfl))
  case hq38x32 => exact fun _ _ _ h => h
  case hy38x32 => exact Or.inl ⟨by rfl, by intro w hSw; have q := (CX.ry hSw) 7 _ rfl; clear hSw; simp only [Nat.zero_add] at q; go_simp; try with_reducible rfl⟩
  try simp only [Act.put, List.setIfInBounds_toArray, List.set_cons_zero, List.set_cons_succ]
  refine wpAnyH_ready (rs := [4]) (by kernel_rfl) (by simp) ?_
  refine AllReadyH.cons rfl (fun K' hK => ?_) AllReadyH.nil
  have H1 := Lib.hid hHeld
  clear hHeld
  go_simp
  refine (cmp64_any _ _ _).mono ?_
  rintro e w9 ⟨rfl, rfl⟩
  refine hK.out _ _ H1.out (fun hHeld => ?_)
  clear hK H1
  try simp only [Act.put, List.setIfInBounds_toArray, List.set_cons_zero, List.set_cons_succ]
  refine wpAnyH_ready (rs := [9]) (by kernel_rfl) (by simp) ?_
  refine AllReadyH.cons rfl (fun K' hK => ?_) AllReadyH.nil
  have H1 := Lib.hid hHeld
  clear hHeld
  go_simp
  refine (cmpstr_any _ _ _).mono ?_
  rintro e w9 ⟨rfl, rfl⟩
  refine hK.out _ _ H1.out (fun hHeld => ?_)
  clear hK H1
  try simp only [Act.put, List.setIfInBounds_toArray, List.set_cons_zero, List.set_cons_succ]
  refine wpAnyH_ready (rs := [14]) (by kernel_rfl) (by simp) ?_
  refine AllReadyH.cons rfl (fun K' hK => ?_) AllReadyH.nil
  have H1 := Lib.hid hHeld
  clear hHeld
  go_simp
  refine (cmpstr_any _ _ _).mono ?_
  rintro e w9 ⟨rfl, rfl⟩
  refine hK.out _ _ H1.out (fun hHeld => ?_)
  clear hK H1
  try simp only [Act.put, List.setIfInBounds_toArray, List.set_cons_zero, List.set_cons_succ]
  refine wpAnyH_ready (rs := [19]) (by kernel_rfl) (by simp) ?_
  refine AllReadyH.cons rfl (fun K' hK => ?_) AllReadyH.nil
  have H1 := Lib.hid hHeld
  clear hHeld
  go_simp
  refine (cmp64_any _ _ _).mono ?_
  rintro e w9 ⟨rfl, rfl⟩
  refine hK.out _ _ H1.out (fun hHeld => ?_)
  clear hK H1
  try simp only [Act.put, List.setIfInBounds_toArray, List.set_cons_zero, List.set_cons_succ]
  refine wpAnyH_ready (rs := [24]) (by kernel_rfl) (by simp) ?_
  refine AllReadyH.cons rfl (fun K' hK => ?_) AllReadyH.nil
  have H1 := Lib.hid hHeld
  clear hHeld
  go_simp
  refine (cmp64_any _ _ _).mono ?_
  rintro e w9 ⟨rfl, rfl⟩
  refine hK.out _ _ H1.out (fun hHeld => ?_)
  clear hK H1
  try simp only [Act.put, List.setIfInBounds_toArray, List.set_cons_zero, List.set_cons_succ]
  refine wpAnyH_ready (rs := [29]) (by kernel_rfl) (by simp) ?_
  refine AllReadyH.cons rfl (fun K' hK => ?_) AllReadyH.nil
  have H1 := Lib.hid hHeld
  clear hHeld
  go_simp
  refine (cmp64_any _ _ _).mono ?_
  rintro e w9 ⟨rfl, rfl⟩
  refine hK.out _ _ H1.out (fun hHeld => ?_)
  clear hK H1
  try simp only [Act.put, List.setIfInBounds_toArray, List.set_cons_zero, List.set_cons_succ]
  refine wpAnyH_ready (rs := [34]) (by kernel_rfl) (by simp) ?_
  refine AllReadyH.cons rfl (fun K' hK => ?_) AllReadyH.nil
  have H1 := Lib.hid hHeld
  clear hHeld
  go_simp
  refine (cmpint_any _ _ _).mono ?_
  rintro e w9 ⟨rfl, rfl⟩
  refine hK.out _ _ H1.out (fun hHeld => ?_)
  clear hK H1
  try simp only [Act.put, List.setIfInBounds_toArray, List.set_cons_zero, List.set_cons_succ]
  refine wpAnyH_ready (rs := [39]) (by kernel_rfl) (by simp) ?_
  refine AllReadyH.cons rfl (fun K' hK => ?_) AllReadyH.nil
  have H1 := Lib.hid hHeld
  clear hHeld
  go_simp
  refine (cmpbyte_any _ _ _).mono ?_
  rintro e w9 ⟨rfl, rfl⟩
  refine hK.out _ _ H1.out (fun hHeld => ?_)
  clear hK H1
  try simp only [Act.put, List.setIfInBounds_toArray, List.set_cons_zero, List.set_cons_succ]
  refine wpAnyH_ready (rs := [40]) (by kernel_rfl) (by simp) ?_
  refine AllReadyH.cons rfl (fun K' hK => ?_) AllReadyH.nil
  have H1 := Lib.hid hHeld
  clear hHeld
  go_simp
  refine hK.out _ _ (H1.out.alloc _) (fun hHeld => ?_)
  clear hK H1
  try simp only [Act.put, List.setIfInBounds_toArray, List.set_cons_zero, List.set_cons_succ]
  refine wpAnyH_ready (rs := [41]) (by kernel_rfl) (by simp) ?_
  refine AllReadyH.cons rfl (fun K' hK => ?_) AllReadyH.nil
  have H1 := Lib.hid hHeld
  clear hHeld
  go_simp
  refine (OR.out _ _ ?ro).mono ?_
  case ro => exact row3 _ _ _ (cmpC ⟨n0, s0, t0, r0, d0, g0, m0, b0⟩ ⟨n1, s1, t1, r1, d1, g1, m1, b1⟩) _
  rintro e w9 ⟨rfl, rfl⟩
  refine hK.out _ _ H1.out (fun hHeld => ?_)
  clear hK H1 OR
  try simp only [Act.put, List.setIfInBounds_toArray, List.set_cons_zero, List.set_cons_succ]
  refine wpAnyH_take (i := 42) (oi := ?oi42x33) (v := ?v42x33) ?hi42x33 (by kernel_rfl) (by kernel_rfl) (by kernel_rfl) ?hq42x33 ?hy42x33 hHeld ?rest42x33
  case hi42x33 => ((try simp only [List.getElem?_toArray, List.getElem?_cons_succ, List.getElem?_cons_zero]); (try rfl))
  case hq42x33 => exact fun _ _ _ h => h
  case hy42x33 => exact Or.inl ⟨by rfl, by intro w hSw; clear hSw; go_simp; try with_reducible rfl⟩
  try simp only [Act.put, List.setIfInBounds_toArray, List.set_cons_zero, List.set_cons_succ]
  refine wpAnyH_done (by kernel_rfl) ?_ _
  have XF := Lib.hid hHeld.at_
  clear hHeld
  go_wp2_with fail
  go_ret
  exact ⟨rfl, XF.out⟩
end Ow
end Go.Proofs.YtaghilgfldaaiaaGreatDoor
