/-
  Lemmas and walks, texts joined: VRDig, VOwn, VMapG, VMap, VTwo, Shelf4, OSrt, OExact, OForm, OAlive, OLaid, ORoundL, ORdPlan, OForm2, OBackPl, OBackPl2, OAllPl2, ONCut, OStepPl, OPaAll, OSort, VEql, VMg, OInsPl.
-/
import Derived.OwnWalk
import Derived.Maps.OwnSet
import Derived.Maps.AppendAt
import Derived.DeepKeys4
import Derived.Below
import Derived.Shelf.SlLaysF0
import Derived.Shelf.SlSortCmp.WholeK
import Derived.Shelf.SlSortCmp.NoneTotal
import Derived.ChangeKeysEq
import Derived.DeepKeys
import Derived.Carry
import Derived.Test.YtaghilgfldaaiaaGreatDoorVa08
import Derived.Test.YtaghilgfldaaiaaGreatDoorVa05
import Derived.Test.YtaghilgfldaaiaaGreatDoorVa01
import Derived.Test.YtaghilgfldaaiaaGreatDoorVa04
import Derived.Test.YtaghilgfldaaiaaGreatDoorVa07
import Derived.Test.YtaghilgfldaaiaaGreatDoorProg
import Derived.Test.YtaghilgfldaaiaaGreatDoorVa03
import Derived.Test.YtaghilgfldaaiaaGreatDoorCards
import Derived.Test.YtaghilgfldaaiaaGreatDoorVa02
set_option linter.unusedSimpArgs false
set_option linter.unusedVariables false
/-
  The walk of digits of the reference: a number of up to eleven digits, or -1.
-/
namespace Go.Proofs.YtaghilgfldaaiaaGreatDoor
namespace Vw
open Go.RowKit Lw Go.Proofs.YtaghilgfldaaiaaGreatDoor.Ap Go.Proofs.YtaghilgfldaaiaaGreatDoor.Vp Go.Proofs.YtaghilgfldaaiaaGreatDoor.Op Go.Proofs.YtaghilgfldaaiaaGreatDoor.Ow Go.Proofs.YtaghilgfldaaiaaGreatDoor.Mp Go.Proofs.YtaghilgfldaaiaaGreatDoor.Mw Go.Proofs.YtaghilgfldaaiaaGreatDoor.At

/-- The number that a string of one to eleven digits is, or -1. -/
def digV (l : List UInt8) : Int := if 1 ≤ l.length ∧ l.length ≤ 11 ∧ Gp.allD l then Gp.numL l else -1
theorem digV_yes {l : List UInt8} {n : Int} {a b : Nat} (h : numR l a b = some n) (h1 : 1 ≤ a) (h2 : b ≤ 11) : digV l = n := by
  unfold numR at h
  split at h
  · rename_i g
    unfold digV
    rw [if_pos ⟨by omega, by omega, g.2.2⟩]
    exact Option.some.inj h
  · cases h
set_option maxRecDepth 100000 in
set_option maxHeartbeats 4000000 in
theorem rdigits27_any (s : ByteArray) (w : World) (hs : s.size ≤ maxLen) :
    Calls Tryz.prog 83 #[.string s] w fun e w' => e = .returned (.int .i64 (digV s.data.toList)) ∧ w = w' := by
  have zl : s.data.toList.length = s.size := rfl
  unfold maxLen at hs
  by_cases h1 : 1 ≤ s.size
  · have i1 : ¬ (s.size : Int) < 1 := by omega
    by_cases h2 : s.size ≤ 11
    · have i2 : ¬ (11 : Int) < (s.size : Int) := by omega
      have NX := Lib.hid (fun (k : Nat) (h : Gp.allD (s.data.toList.take k)) => num_bd h 11 (by rw [List.length_take]; omega) (by omega))
      have FIN := Lib.hid (fun (h : Gp.allD (s.data.toList.take s.size)) => show digV s.data.toList = Gp.numL (s.data.toList.take s.size) from by
        rw [List.take_of_length_le (by omega)] at h ⊢
        unfold digV
        rw [if_pos ⟨by omega, by omega, h⟩])
      have NO := Lib.hid (fun (h : ¬ Gp.allD s.data.toList) => show digV s.data.toList = -1 from by
        unfold digV
        rw [if_neg (fun g => h g.2.2)])
      go_enter Tryz.func83, Tryz.ntmps83
      go_wp2
      go_loop [3, 4] (fun n i => ∃ k : Nat, k ≤ s.size ∧ i = .int .i64 k ∧ n = .int .i64 (Gp.numL (s.data.toList.take k)) ∧ Hid (Gp.allD (s.data.toList.take k))) (fun _ i => s.size - (intOf i).toNat)
      case atStart => exact ⟨0, Nat.zero_le _, rfl, rfl, Lib.hid (by intro c hc; simp at hc)⟩
      case round =>
        obtain ⟨k, hk, rfl, rfl, D⟩ := hrel
        obtain ⟨n0, n1⟩ := NX.out k D.out
        by_cases hlt : k < s.size
        · have bb := byte_bd s[k]
          have hm : (s[k]'hlt) ∈ s.data.toList := by
            have : (s[k]'hlt) = s.data.toList[k]'(by omega) := rfl
            rw [this]
            exact List.getElem_mem _
          by_cases c1 : (s[k].toNat : Int) < 48
          · have N := Lib.hid (NO.out (fun h => by have := (h _ hm).1; omega))
            clear FIN NO hm
            generalize Gp.numL (s.data.toList.take k) = NN at *
            go_wp2
            go_ret
            exact ⟨ret_i N.out.symm, rfl⟩
          · by_cases c2 : (57 : Int) < (s[k].toNat : Int)
            · have N := Lib.hid (NO.out (fun h => by have := (h _ hm).2; omega))
              clear FIN NO hm
              generalize Gp.numL (s.data.toList.take k) = NN at *
              go_wp2
              go_ret
              exact ⟨ret_i N.out.symm, rfl⟩
            · have e1 : Gp.numL (s.data.toList.take (k + 1)) = 10 * Gp.numL (s.data.toList.take k) + ((s[k].toNat : Int) - 48) := by rw [Gp.take_snoc s k hlt, Gp.numL_snoc]
              have D2 := Lib.hid (show Gp.allD (s.data.toList.take (k + 1)) by rw [Gp.take_snoc s k hlt]; exact Gp.allD_snoc D.out (by omega) (by omega))
              obtain ⟨m0, m1⟩ := NX.out (k + 1) D2.out
              rw [e1] at m0 m1
              have E1 := Lib.hid e1
              clear e1 FIN NO hm
              generalize Gp.numL (s.data.toList.take k) = N at *
              go_wp2
              go_round
              case rel => exact ⟨k + 1, by omega, by go_num, by rw [E1.out], D2⟩
              case measure => simp [intOf]; omega
        · obtain rfl : k = s.size := by omega
          have F := Lib.hid (FIN.out D.out)
          clear FIN NO NX
          generalize Gp.numL (s.data.toList.take s.size) = NN at *
          go_wp2
          go_ret
          exact ⟨ret_i F.out.symm, rfl⟩
    · have i2 : (11 : Int) < (s.size : Int) := by omega
      have N := Lib.hid (show digV s.data.toList = -1 from by unfold digV; rw [if_neg (fun g => h2 (by omega))])
      go_enter Tryz.func83, Tryz.ntmps83
      go_wp2
      go_ret
      exact ⟨ret_i N.out.symm, rfl⟩
  · have i1 : (s.size : Int) < 1 := by omega
    have N := Lib.hid (show digV s.data.toList = -1 from by unfold digV; rw [if_neg (fun g => h1 (by omega))])
    go_enter Tryz.func83, Tryz.ntmps83
    go_wp2
    go_ret
    exact ⟨ret_i N.out.symm, rfl⟩
end Vw
end Go.Proofs.YtaghilgfldaaiaaGreatDoor
/-
  A slice of the call's own, whose elements are one cell each: append.
-/
namespace Go.Proofs.YtaghilgfldaaiaaGreatDoor
namespace Vw
open Go.RowKit Lw Go.Proofs.YtaghilgfldaaiaaGreatDoor.Op Go.Proofs.YtaghilgfldaaiaaGreatDoor.Ow

def Own1 (t : TypeId) (w : World) (B : Nat) (v : Value) (vs : List Value) : Prop := w.ownsRow B t 1 v vs.length vs ∧ B ≤ w.heap.size
theorem Own1.nil (t : TypeId) (w : World) (B : Nat) (h : B ≤ w.heap.size) : Own1 t w B (.slice none 0 0) [] := ⟨World.ownsRow_nil _ _ _ _, h⟩
theorem own1_lt {w : World} {g : Nat} {o : Obj} (hh : w.heap[g]? = some o) : g < w.heap.size := by
  rcases Nat.lt_or_ge g w.heap.size with h | h
  · exact h
  · rw [Array.getElem?_eq_none h] at hh; cases hh
theorem ownsRow_below1 {w w' : World} {B size n : Nat} {t : TypeId} {v : Value} {xs : List Value} (h : w.ownsRow B t size v n xs) (hb : Below w.heap.size w w') : w'.ownsRow B t size v n xs := by
  obtain ⟨h1, h2⟩ := h
  refine ⟨h1, ?_⟩
  rcases h2 with h2 | ⟨g, cap, cur, hv, hg, hh, r⟩
  · exact Or.inl h2
  · exact Or.inr ⟨g, cap, cur, hv, hg, by rw [hb.block g (own1_lt hh)]; exact hh, r⟩
theorem Own1.below {t : TypeId} {w w' : World} {B : Nat} {v : Value} {l : List Value} (h : Own1 t w B v l) (hb : Below w.heap.size w w') : Own1 t w' B v l := ⟨ownsRow_below1 h.1 hb, Nat.le_trans h.2 hb.size⟩
theorem Own1.form {t : TypeId} {w : World} {B : Nat} {v : Value} {l : List Value} (h : Own1 t w B v l) : (l = [] ∧ v = .slice none 0 0) ∨ ∃ g cap, v = .slice (some ⟨g, 0, none⟩) l.length cap ∧ l.length ≤ cap ∧ B ≤ g ∧ g < w.heap.size ∧ ∀ (j : Nat) x, l[j]? = some x → w.cell? ⟨g, j, none⟩ = some x := by
  have hc := fun (g : Nat) (hg : v.ownBlock = some g) => h.1.cells hg
  rcases h.1.2 with ⟨hv, hn⟩ | ⟨g, cap, cur, hv, hb, hh, r⟩
  · exact Or.inl ⟨List.length_eq_zero_iff.1 hn, hv⟩
  · refine Or.inr ⟨g, cap, hv, r.1, hb, own1_lt hh, fun j x hx => ?_⟩
    have e := hc g (by rw [hv]; rfl) j x hx
    rw [Addr.add_mid, Nat.zero_add] at e
    exact e
theorem Own1.formN {t : TypeId} {w : World} {B n : Nat} {v : Value} {l : List Value} (h : Own1 t w B v l) (hn : l.length = n) (h0 : 0 < n) : ∃ g cap, v = .slice (some ⟨g, 0, none⟩) n cap ∧ n ≤ cap ∧ B ≤ g ∧ g < w.heap.size ∧ ∀ (j : Nat) x, l[j]? = some x → w.cell? ⟨g, j, none⟩ = some x := by
  rcases h.form with ⟨e, _⟩ | ⟨g, cap, h1, h2, h3⟩
  · rw [e] at hn
    exact absurd hn (by rw [List.length_nil]; omega)
  · rw [hn] at h1 h2
    exact ⟨g, cap, h1, h2, h3⟩
theorem wp_app1 {P : Program} {S t : TypeId} {z : Value} {bytes : Nat} (hu : P.underlying S = some (.slice t)) (hin : (P.info? t).map (fun i => (i.zero, i.size, i.bytes)) = some (some z, 1, bytes)) (hz : z.cells.size = 1) (hby : bytes ≤ 100)
    {ops : Array Oper} {rest : List Oper} {o : Oper} {a : Act} {Q : Exit → Act → World → Prop} (w : World) (hgd : o.guard = none) (s x : Operand)
    (ho : o.op = .call { callee := .builtin .append, args := #[s, x], argTypes := #[S, S] })
    (B : Nat) (v : Value) (l : List Value) (C : Array Value) (m c : Nat) (hs : a.eval s = v) (hx : a.eval x = .slice (some ⟨w.heap.size, 0, none⟩) m c) (hm : C.size = m) (hC : ∀ u ∈ C.toList, u.oneCell' = true) (hown : Own1 t w B v l) (hl : l.length ≤ 1000000) (hm2 : m ≤ 1000)
    (h : ∀ v' w', Own1 t w' B v' (l ++ C.toList) → Below B w w' → wpList P ops Q rest (a.put o.dst v') w') : wpList P ops Q (o :: rest) a (w.alloc (.cells C t)) := by
  obtain ⟨i0, hi, hz0, hz1, hz2⟩ := info_parts hin
  have ho' := hown.1.alloc (.cells C t)
  have nw : ∀ j u, C.toList[j]? = some u → (w.alloc (.cells C t)).cell? ((⟨w.heap.size, 0, none⟩ : Addr).add j) = some u := fun j u hj => by
    rw [Addr.add_mid]
    exact rangeAt_new w C.toList t j u hj
  have b1 : Below B w (w.alloc (.cells C t)) := (Below.refl _ _).alloc hown.2 _
  have lc : C.toList.length = m := by rw [Array.length_toList, hm]
  refine wpList_append_own _ hgd s x S ho B t i0 _ 1 bytes hu hi hz0 hz1 hz2 hz (by decide) v l.length l hs ho' ⟨w.heap.size, 0, none⟩ m c C.toList hx (by rw [lc, Nat.mul_one]) nw hC (by unfold maxLen; omega) (Nat.le_trans (Nat.mul_le_mul_left _ hby) (by omega)) (Nat.le_trans hown.2 b1.size) ?_
  intro v' w' h1 h2 _
  have hb : Below B w w' := b1.trans ((Below.refl B _).grown h2 (Nat.le_trans hown.2 b1.size) (fun k hk => (hown.1.lt k hk).1))
  refine h v' w' ⟨?_, Nat.le_trans hown.2 hb.size⟩ hb
  rw [List.length_append, lc]
  exact h1
theorem infoS : (Tryz.prog.info? 9).map (fun i => (i.zero, i.size, i.bytes)) = some (some (.string .empty), 1, 16) := by kernel_rfl
/-- Parts between separators, as the reference's split goes: behind i bytes, the part from f on. -/
def partsTo (s : ByteArray) (c : UInt8) : Nat → List ByteArray × Nat
  | 0 => ([], 0)
  | i + 1 => if s.get! i = c then ((partsTo s c i).1 ++ [s.extract (partsTo s c i).2 i], i + 1) else partsTo s c i
def partsR (s : ByteArray) (c : UInt8) : List ByteArray := (partsTo s c s.size).1 ++ [s.extract (partsTo s c s.size).2 s.size]
theorem strC_snoc (l : List ByteArray) (x : ByteArray) : strC l ++ [.string x] = strC (l ++ [x]) := by unfold strC; simp
theorem parts_yes {s : ByteArray} {c : UInt8} {k : Nat} (h : k < s.size) (e : s[k]'h = c) : partsTo s c (k + 1) = ((partsTo s c k).1 ++ [s.extract (partsTo s c k).2 k], k + 1) := by
  have g : s.get! k = c := by rw [← e]; simp [ByteArray.get!, getElem!_pos, h]; rfl
  rw [partsTo, if_pos g]
theorem parts_no {s : ByteArray} {c : UInt8} {k : Nat} (h : k < s.size) (e : ¬ s[k]'h = c) : partsTo s c (k + 1) = partsTo s c k := by
  have g : s.get! k = s[k]'h := by simp [ByteArray.get!, getElem!_pos, h]; rfl
  rw [partsTo, if_neg (by rw [g]; exact e)]
theorem parts_le (s : ByteArray) (c : UInt8) : ∀ i, (partsTo s c i).2 ≤ i ∧ (partsTo s c i).1.length ≤ i
  | 0 => ⟨Nat.le_refl _, Nat.le_refl _⟩
  | i + 1 => by
    have := parts_le s c i
    unfold partsTo
    split
    · exact ⟨Nat.le_refl _, by rw [List.length_append]; simp only [List.length_cons, List.length_nil]; omega⟩
    · omega
def SplitPost (s : ByteArray) (c : UInt8) (w : World) (e : Ending) (w' : World) : Prop := ∃ g cap, e = .returned (.slice (some ⟨g, 0, none⟩) (partsR s c).length cap) ∧ w.heap.size ≤ g ∧ g < w'.heap.size ∧ (∀ (j : Nat) x, (strC (partsR s c))[j]? = some x → w'.cell? ⟨g, j, none⟩ = some x) ∧ Below w.heap.size w w'
set_option maxRecDepth 100000 in
set_option maxHeartbeats 8000000 in
theorem rsplit_any (s : ByteArray) (c : UInt8) (w : World) (hs : s.size ≤ 1000000 - 1) :
    Calls Tryz.prog 138 #[.string s, .int .u8 (c.toNat : Int)] w (SplitPost s c w) := by
  have cb := Gp.byte_bd c
  go_enter Tryz.func138, Tryz.ntmps138
  go_wp2
  go_loopw [5, 6, 7] (fun v f i wr => ∃ (k F : Nat) (V : Value), k ≤ s.size + 1 ∧ i = .int .i64 k ∧ f = .int .i64 F ∧ V = v ∧ Hid ((k ≤ s.size ∧ (partsTo s c k).2 = F ∧ Own1 9 wr w.heap.size V (strC (partsTo s c k).1)) ∨ (k = s.size + 1 ∧ Own1 9 wr w.heap.size V (strC (partsR s c)))) ∧ Hid (Below w.heap.size w wr)) (fun _ _ i _ => s.size + 1 - (intOf i).toNat)
  case atStart => exact ⟨0, 0, _, Nat.zero_le _, rfl, rfl, rfl, Lib.hid (Or.inl ⟨Nat.zero_le _, rfl, Own1.nil _ _ _ (Nat.le_refl _)⟩), Lib.hid (Below.refl _ _)⟩
  case round =>
    obtain ⟨k, F, v, hk, rfl, rfl, rfl, H, HB⟩ := hrel
    by_cases hle : k ≤ s.size
    · obtain ⟨hF, OW⟩ : (partsTo s c k).2 = F ∧ Own1 9 wr w.heap.size v (strC (partsTo s c k).1) := by
        rcases H.out with ⟨_, a, b⟩ | ⟨h, _⟩
        · exact ⟨a, b⟩
        · omega
      clear H
      have HO := Lib.hid OW
      clear OW
      obtain ⟨f1, f2⟩ := parts_le s c k
      have PY := Lib.hid (fun (h : k < s.size) (e : s[k]'h = c) => parts_yes h e)
      have PN := Lib.hid (fun (h : k < s.size) (e : ¬ s[k]'h = c) => parts_no h e)
      have PR := Lib.hid (fun (h : k = s.size) => show partsR s c = (partsTo s c k).1 ++ [s.extract (partsTo s c k).2 k] from by unfold partsR; rw [h])
      obtain ⟨L, hL⟩ : ∃ L, (partsTo s c k).1 = L := ⟨_, rfl⟩
      rw [hL] at f2 HO PY PR
      rw [hF] at f1 PY PR
      have HLF := Lib.hid (show partsTo s c k = (L, F) by rw [← hL, ← hF])
      clear hL hF
      obtain ⟨X, hX⟩ : ∃ X, s.extract F k = X := ⟨_, rfl⟩
      have LL := Lib.hid (show (strC L).length ≤ 1000000 by rw [strC_len]; omega)
      by_cases hlt : k < s.size
      · have k1 : ¬ (k : Int) = (s.size : Int) := by omega
        have k2 : ((k : Int) == (s.size : Int)) = false := beq_eq_false_iff_ne.2 k1
        have bb := Gp.byte_bd s[k]
        by_cases e : s[k]'hlt = c
        · have E := Lib.hid (PY.out hlt e)
          have e1 : ((s[k].toNat : Int) == (c.toNat : Int)) = true := by rw [e]; simp
          have e2 : (s[k].toNat : Int) = (c.toNat : Int) := by rw [e]
          rw [hX] at E
          clear PY PN PR e
          go_wp2_with (at_builtin; refine wp_app1 (bytes := 16) Tryz.underlying42 infoS rfl (by decide) wr rfl (.tmp 25) (.tmp 30) rfl w.heap.size _ (strC L) #[.string X] 1 1 rfl rfl rfl (by simp [Value.oneCell']) HO.out LL.out (by decide) ?_; intro v' w' OW2 hb2)
          go_roundw
          case rel => exact ⟨k + 1, k + 1, _, by omega, by go_num, by go_num, rfl, Lib.hid (Or.inl ⟨by omega, by rw [E.out], by rw [E.out, ← strC_snoc]; exact OW2⟩), Lib.hid (HB.out.trans hb2)⟩
          case measure => first | (simp [intOf]; done) | (simp [intOf]; omega)
        · have E := Lib.hid ((PN.out hlt e).trans HLF.out)
          have e1 : ((s[k].toNat : Int) == (c.toNat : Int)) = false := beq_eq_false_iff_ne.2 (fun h => e (UInt8.toNat_inj.1 (by omega)))
          have e2 : ¬ (s[k].toNat : Int) = (c.toNat : Int) := fun h => e (UInt8.toNat_inj.1 (by omega))
          clear PY PN PR e
          go_wp2_with fail
          go_roundw
          case rel => exact ⟨k + 1, F, _, by omega, by go_num, rfl, rfl, Lib.hid (Or.inl ⟨by omega, by rw [E.out], by rw [E.out]; exact HO.out⟩), HB⟩
          case measure => first | (simp [intOf]; done) | (simp [intOf]; omega)
      · obtain rfl : k = s.size := by omega
        have E := Lib.hid (PR.out rfl)
        rw [hX] at E
        clear PY PN PR
        go_wp2_with (at_builtin; refine wp_app1 (bytes := 16) Tryz.underlying42 infoS rfl (by decide) wr rfl (.tmp 25) (.tmp 30) rfl w.heap.size _ (strC L) #[.string X] 1 1 rfl rfl rfl (by simp [Value.oneCell']) HO.out LL.out (by decide) ?_; intro v' w' OW2 hb2)
        go_roundw
        case rel => exact ⟨s.size + 1, s.size + 1, _, by omega, by go_num, by go_num, rfl, Lib.hid (Or.inr ⟨rfl, by rw [E.out, ← strC_snoc]; exact OW2⟩), Lib.hid (HB.out.trans hb2)⟩
        case measure => first | (simp [intOf]; done) | (simp [intOf]; omega)
    · obtain rfl : k = s.size + 1 := by omega
      have OW : Own1 9 wr w.heap.size v (strC (partsR s c)) := by
        rcases H.out with ⟨h, _⟩ | ⟨_, h⟩
        · omega
        · exact h
      obtain ⟨g, cap, rfl, _, g0, g1, g2⟩ := OW.formN (strC_len _) (by unfold partsR; rw [List.length_append]; simp only [List.length_cons, List.length_nil]; omega)
      have G2 := Lib.hid g2
      clear H OW g2 hle
      have i1 : ¬ ((s.size + 1 : Nat) : Int) ≤ (s.size : Int) := by omega
      go_wp2_with fail
      go_ret
      exact ⟨g, cap, rfl, g0, g1, G2.out, HB.out⟩
end Vw
end Go.Proofs.YtaghilgfldaaiaaGreatDoor
/-
  A map that the call has made, read as a function.
-/
namespace Go.Proofs.YtaghilgfldaaiaaGreatDoor
namespace Vw
open Go.RowKit Lw Go.Maps Go.WideShapes

/-- How an element reads: as it is. -/
def obEl (v : Value) : Option (DataW Value × List MemPlace) := some (.held v, [])
def updK {κ β : Type} [DecidableEq κ] (f : κ → Option β) (k : κ) (r : Option β) : κ → Option β := fun k' => if k' = k then r else f k'
theorem updK_same {κ β : Type} [DecidableEq κ] (f : κ → Option β) (k : κ) (r : Option β) : updK f k r k = r := by unfold updK; rw [if_pos rfl]
theorem updK_other {κ β : Type} [DecidableEq κ] {f : κ → Option β} {k k' : κ} {r : Option β} (h : k' ≠ k) : updK f k r k' = f k' := by unfold updK; rw [if_neg h]
/-- What the types of a map give. -/
structure MapTy (P : Program) (T K E : TypeId) {κ β : Type} (kv : κ → Value) (vv : β → Value) (good : κ → Prop) (zb : β) : Prop where
  law : Keyed P K
  ty : P.underlying T = some (.map K E)
  zero : ∀ w, (zeroValue E).run P w = .ok (vv zb) w
  inj : ∀ k k', kv k = kv k' → k = k'
  key : ∀ k, good k → ∃ l, keyOf P K (kv k) = some l
/-- Block b is a map of at most n entries, that is the function f. -/
structure OMg (P : Program) (K : TypeId) {κ β : Type} (kv : κ → Value) (vv : β → Value) (good : κ → Prop) (w : World) (b n : Nat) (f : κ → Option β) : Prop where
  ex : ∃ D : DataW Value, w.ownsMap P K obEl b n D ∧ ∀ k, good k → ∀ l, keyOf P K (kv k) = some l → Maps.has D l = (f k).isSome ∧ ∀ o, f k = some o → ∀ z, D.atKey l z = .held (vv o)
section
variable {P : Program} {T K E : TypeId} {κ β : Type} {kv : κ → Value} {vv : β → Value} {good : κ → Prop} {zb : β} {w : World} {b n : Nat} {f : κ → Option β}
theorem OMg.made (w : World) : OMg P K kv vv good (w.alloc (.map #[] 0)) w.heap.size 0 (fun _ => none) :=
  ⟨_, World.ownsMap_made w _ _ _, fun k _ l _ => ⟨rfl, fun o h => by cases h⟩⟩
theorem OMg.lt (h : OMg P K kv vv good w b n f) : b < w.heap.size := by
  obtain ⟨D, h, _⟩ := h
  exact h.lt
theorem OMg.kept {w' : World} {row : Option Nat} (h : OMg P K kv vv good w b n f) (hg : w.grownBy w' row) (hne : some b ≠ row) : OMg P K kv vv good w' b n f := by
  obtain ⟨D, h, g⟩ := h
  exact ⟨D, h.kept hg hne, g⟩
theorem OMg.mono (h : OMg P K kv vv good w b n f) {n' : Nat} (hn : n ≤ n') : OMg P K kv vv good w b n' f := by
  obtain ⟨D, h, g⟩ := h
  exact ⟨D, h.mono hn, g⟩
theorem OMg.below {w' : World} (h : OMg P K kv vv good w b n f) (hb : Below w.heap.size w w') : OMg P K kv vv good w' b n f := by
  have lt := h.lt
  obtain ⟨D, ⟨es, clock, hh, r⟩, g⟩ := h
  exact ⟨D, ⟨es, clock, by rw [hb.block b lt]; exact hh, r⟩, g⟩
theorem OMg.setCell (h : OMg P K kv vv good w b n f) {a : Addr} (ha : b ≠ a.block) (u : Value) : OMg P K kv vv good (w.setCell a u) b n f := by
  obtain ⟨D, h, g⟩ := h
  exact ⟨D, h.setCell ha u, g⟩
theorem OMg.look (h : OMg P K kv vv good w b n f) (M : MapTy P T K E kv vv good zb) {k : κ} (hk : good k) : (Instr.lookup T (.map (some b)) (kv k) true).run P w = .ok (.tuple #[vv ((f k).getD zb), .bool (f k).isSome]) w := by
  obtain ⟨l, hl⟩ := M.key k hk
  obtain ⟨D, h, g⟩ := h
  obtain ⟨g1, g2⟩ := g k hk l hl
  obtain ⟨v, ps, hrun, hv⟩ := h.look_ok M.law M.ty (M.zero w) (zd := .held (vv zb)) rfl hl
  unfold obEl at hv
  have hv2 : DataW.held v = D.atKey l (.held (vv zb)) := congrArg Prod.fst (Option.some.inj hv)
  rw [hrun, g1]
  cases hf : f k with
  | none =>
    rw [hf] at g1
    rw [Maps.atKey_of_not_has g1] at hv2
    injection hv2 with hv2
    rw [hv2]; rfl
  | some o =>
    rw [g2 o hf] at hv2
    injection hv2 with hv2
    rw [hv2]; rfl
theorem lit_ne (M : MapTy P T K E kv vv good zb) {k k' : κ} {l l' : Lit} (h : k' ≠ k) (hl : keyOf P K (kv k) = some l) (hl' : keyOf P K (kv k') = some l') : l' ≠ l := fun e => h (M.inj _ _ (M.law.inj (by rw [e] at hl'; exact hl') hl))
variable [DecidableEq κ]
theorem OMg.store (h : OMg P K kv vv good w b n f) (M : MapTy P T K E kv vv good zb) {k : κ} (hk : good k) (o : β) (hn : n < 1000000) :
    ∃ w', (Instr.mapUpdate T (.map (some b)) (kv k) (vv o)).run P w = .ok () w' ∧ OMg P K kv vv good w' b (n + 1) (updK f k (some o)) ∧ w.mapTurned w' b := by
  obtain ⟨l, hl⟩ := M.key k hk
  obtain ⟨D, h, g⟩ := h
  have im := h.isMap
  obtain ⟨w', h1, h2, h3⟩ := h.store M.law M.ty (by unfold maxLen; omega) hl (val := vv o) (d := .held (vv o)) (ps := []) rfl
  refine ⟨w', h1, ⟨_, h2, fun k' hk' l' hl' => ?_⟩, h3⟩
  by_cases e : k' = k
  · subst e
    have el : l' = l := Option.some.inj (hl'.symm.trans hl)
    subst el
    rw [updK_same]
    refine ⟨Maps.has_put_same im (M.law.key hl) _, fun o' ho' z => ?_⟩
    rw [← Option.some.inj ho']
    exact Maps.atKey_put_same im (M.law.key hl) _ z
  · obtain ⟨g1, g2⟩ := g k' hk' l' hl'
    rw [updK_other e, Maps.has_put_other (lit_ne M e hl hl')]
    exact ⟨g1, fun o' ho' z => by rw [Maps.atKey_put_other (lit_ne M e hl hl')]; exact g2 o' ho' z⟩
theorem OMg.drop (h : OMg P K kv vv good w b n f) (M : MapTy P T K E kv vv good zb) {k : κ} (hk : good k) (ty : TypeId) :
    ∃ w', (Builtin.delete_ #[T, K] ty #[.map (some b), kv k]).run P w = .ok (.tuple #[]) w' ∧ OMg P K kv vv good w' b n (updK f k none) ∧ w.mapTurned w' b := by
  obtain ⟨l, hl⟩ := M.key k hk
  obtain ⟨D, h, g⟩ := h
  obtain ⟨w', h1, h2, h3⟩ := h.drop M.law M.ty hl ty
  refine ⟨w', h1, ⟨_, h2, fun k' hk' l' hl' => ?_⟩, h3⟩
  by_cases e : k' = k
  · subst e
    have el : l' = l := Option.some.inj (hl'.symm.trans hl)
    subst el
    rw [updK_same]
    exact ⟨Maps.has_del_same, fun o' ho' => by cases ho'⟩
  · obtain ⟨g1, g2⟩ := g k' hk' l' hl'
    rw [updK_other e, Maps.has_del_other (lit_ne M e hl hl')]
    exact ⟨g1, fun o' ho' z => by rw [Maps.atKey_del_other (lit_ne M e hl hl')]; exact g2 o' ho' z⟩
end
theorem turned_below {w w' : World} {b B : Nat} (h : w.mapTurned w' b) (hb : B ≤ b) (hs : B ≤ w.heap.size) : Below B w w' := (Below.refl B w).grown h.grown hs (fun k e => by cases e; exact hb)
section
variable {P : Program} {T K E : TypeId} {κ β : Type} {kv : κ → Value} {vv : β → Value} {good : κ → Prop} {zb : β} {b n : Nat} {f : κ → Option β} (w : World) {ops : Array Oper} {rest : List Oper} {o : Oper} {a : Act} {Q : Exit → Act → World → Prop}
theorem wp_mlook (hg : o.guard = none) (m x : Operand) (hop : o.op = Op.lookup T m x true) (M : MapTy P T K E kv vv good zb) (hm : a.eval m = .map (some b)) (hown : OMg P K kv vv good w b n f) (k : κ) (hx : a.eval x = kv k) (hk : good k) (r : Option β) (hr : f k = r)
    (hK : wpList P ops Q rest (a.put o.dst (.tuple #[vv (r.getD zb), .bool r.isSome])) w) : wpList P ops Q (o :: rest) a w := by
  refine wpList_plain hg fun K' hK' => ?_
  have hrun := hown.look M hk
  rw [hr] at hrun
  unfold Oper.wp
  simp [execOp, hop, hm, hx, hrun, Result.andThen]
  exact hK' _ _ hK
theorem wp_mlook_no (hg : o.guard = none) (m x : Operand) (hop : o.op = Op.lookup T m x true) (M : MapTy P T K E kv vv good zb) (hm : a.eval m = .map (some b)) (hown : OMg P K kv vv good w b n f) (k : κ) (hx : a.eval x = kv k) (hk : good k) (hr : f k = none)
    (hK : wpList P ops Q rest (a.put o.dst (.tuple #[vv zb, .bool false])) w) : wpList P ops Q (o :: rest) a w := wp_mlook w hg m x hop M hm hown k hx hk none hr hK
theorem wp_mlook_yes (hg : o.guard = none) (m x : Operand) (hop : o.op = Op.lookup T m x true) (M : MapTy P T K E kv vv good zb) (hm : a.eval m = .map (some b)) (hown : OMg P K kv vv good w b n f) (k : κ) (hx : a.eval x = kv k) (hk : good k) (r : β) (hr : f k = some r)
    (hK : wpList P ops Q rest (a.put o.dst (.tuple #[vv r, .bool true])) w) : wpList P ops Q (o :: rest) a w := wp_mlook w hg m x hop M hm hown k hx hk (some r) hr hK
variable [DecidableEq κ]
theorem wp_mstore (hg : o.guard = none) (m x v : Operand) (hop : o.op = Op.mapUpdate T m x v) (M : MapTy P T K E kv vv good zb) (hm : a.eval m = .map (some b)) (hown : OMg P K kv vv good w b n f) (k : κ) (hx : a.eval x = kv k) (hk : good k) (r : β) (hv : a.eval v = vv r) (hn : n < 1000000)
    (hK : ∀ w', OMg P K kv vv good w' b (n + 1) (updK f k (some r)) → w.mapTurned w' b → wpList P ops Q rest (a.put o.dst undef) w') : wpList P ops Q (o :: rest) a w := by
  refine wpList_plain hg fun K' hK' => ?_
  obtain ⟨w', hrun, r1, r2⟩ := hown.store M hk r hn
  unfold Oper.wp
  simp [execOp, hop, hm, hx, hv, hrun, Result.andThen]
  exact hK' _ _ (hK w' r1 r2)
theorem wp_mdrop (hg : o.guard = none) (m x : Operand) (hop : o.op = Op.call { callee := Callee.builtin Builtin.delete, args := #[m, x], argTypes := #[T, K] }) (M : MapTy P T K E kv vv good zb) (hm : a.eval m = .map (some b)) (hown : OMg P K kv vv good w b n f) (k : κ) (hx : a.eval x = kv k) (hk : good k)
    (hK : ∀ w', OMg P K kv vv good w' b n (updK f k none) → w.mapTurned w' b → wpList P ops Q rest (a.put o.dst (.tuple #[])) w') : wpList P ops Q (o :: rest) a w := by
  refine wpList_plain hg fun K' hK' => ?_
  obtain ⟨w', hrun, r1, r2⟩ := hown.drop M hk o.type
  unfold Oper.wp
  simp [execOp, hop, resolve, invoke, builtin, hm, hx, hrun, Result.andThen]
  exact hK' _ _ (hK w' r1 r2)
end
end Vw
end Go.Proofs.YtaghilgfldaaiaaGreatDoor
/-
  The map of observations by name, site and time.
-/
namespace Go.Proofs.YtaghilgfldaaiaaGreatDoor
namespace Vw
open Go.RowKit Lw Go.Proofs.YtaghilgfldaaiaaGreatDoor.Ap Go.Proofs.YtaghilgfldaaiaaGreatDoor.Vp Go.Proofs.YtaghilgfldaaiaaGreatDoor.Op Go.Proofs.YtaghilgfldaaiaaGreatDoor.Ow Go.Maps Go.WideShapes

def kyV (k : Ky) : Value := .agg #[.string k.name, .string k.site, .int .i64 k.t]
def goodK (k : Ky) : Prop := k.name.size ≤ 1000 ∧ k.site.size ≤ 1000 ∧ -9223372036854775808 ≤ k.t ∧ k.t ≤ 9223372036854775807
theorem kyV_inj (k k' : Ky) (h : kyV k = kyV k') : k = k' := by
  unfold kyV at h
  cases k; cases k'
  simpa using h
theorem laidO : laidOutB Tryz.prog = true := by kernel_rfl
theorem rowK : (65 : TypeId) < Tryz.prog.types.size := of_decide_eq_true (by kernel_rfl)
theorem lawK : Keyed Tryz.prog 65 := Keyed.of_law (deep_law_laid laidO (m := 3) (by decide) rowK (by kernel_rfl) (by rw [Tryz.underlying65]))
theorem keyTypeK : Tryz.prog.keyType 65 = true := by kernel_rfl
theorem cellsK : Tryz.prog.cellsOf 65 = 3 := by kernel_rfl
theorem cells1 : Tryz.prog.cellsOf 9 = 1 := by kernel_rfl
theorem cells2 : Tryz.prog.cellsOf 2 = 1 := by kernel_rfl
theorem sizeK : ∃ d, Tryz.prog.types.size = d + 1 := ⟨Tryz.prog.types.size - 1, by
  have : 0 < Tryz.prog.types.size := of_decide_eq_true (by kernel_rfl)
  omega⟩
theorem keyOf_K (k : Ky) (h : goodK k) : ∃ l, keyOf Tryz.prog 65 (kyV k) = some l := by
  obtain ⟨h1, h2, h3, h4⟩ := h
  have m1 : k.name.size ≤ maxLen := by unfold maxLen; omega
  have m2 : k.site.size ≤ maxLen := by unfold maxLen; omega
  have w3 : (Lit.int .i64 k.t).wf = true := WalkArith.wf_i64 (by omega)
  obtain ⟨d, hd⟩ := sizeK
  have fm : (kyV k).formed Tryz.prog 65 = true := by
    unfold kyV
    simp [Value.formed, Tryz.underlying65, cellsK]
  have kl : ∃ ls, Tryz.prog.keyLits (Tryz.prog.types.size + 1) 65 (kyV k).cells.toList = some ls := by
    rw [hd]
    unfold kyV
    simp [Program.keyLits, Tryz.underlying65, Tryz.underlying9, Tryz.underlying2, cellsK, cells1, cells2, Value.cells, m1, m2, w3]
  obtain ⟨ls, hl⟩ := kl
  refine ⟨.string (keyBytes ls), ?_⟩
  unfold keyOf
  rw [Tryz.underlying65]
  simp only [keyTypeK, fm, hl]
  rfl
theorem zeroE (w : World) : (zeroValue 33).run Tryz.prog w = .ok (obsV zeroO) w := by kernel_rfl
theorem mapK : MapTy Tryz.prog 63 65 33 kyV obsV goodK zeroO := ⟨lawK, Tryz.underlying63, zeroE, kyV_inj, keyOf_K⟩
abbrev OM (w : World) (b n : Nat) (f : Ky → Option Ob) : Prop := OMg Tryz.prog 65 kyV obsV goodK w b n f
end Vw
end Go.Proofs.YtaghilgfldaaiaaGreatDoor
/-
  Two slices that the call owns, one of observations and one of numbers, and a map beside them: append to either.
-/
namespace Go.Proofs.YtaghilgfldaaiaaGreatDoor
namespace Vw
open Go.RowKit Lw Go.Proofs.YtaghilgfldaaiaaGreatDoor.Ap Go.Proofs.YtaghilgfldaaiaaGreatDoor.Vp Go.Proofs.YtaghilgfldaaiaaGreatDoor.Op Go.Proofs.YtaghilgfldaaiaaGreatDoor.Ow

theorem infoI : (Tryz.prog.info? 3).map (fun i => (i.zero, i.size, i.bytes)) = some (some (.int .i64 0), 1, 8) := by kernel_rfl
def intL (l : List Nat) : List Value := l.map fun (n : Nat) => Value.int .i64 (n : Int)
theorem intL_snoc (l : List Nat) (n : Nat) : intL (l ++ [n]) = intL l ++ [.int .i64 (n : Int)] := by simp [intL]
theorem intL_len (l : List Nat) : (intL l).length = l.length := by simp [intL]
/-- Two slices that lie apart. -/
structure W2 (B : Nat) (vk : Value) (K : List Ob) (vd : Value) (D : List Nat) (w : World) : Prop where
  kp : OwnO w B vk K
  dp : Own1 3 w B vd (intL D)
  ap : ∀ g, vk.ownBlock = some g → vd.ownBlock ≠ some g
theorem W2.nil (B : Nat) (w : World) (h : B ≤ w.heap.size) : W2 B (.slice none 0 0) [] (.slice none 0 0) [] w := ⟨OwnO.nil w B h, Own1.nil _ w B h, fun g e => by cases e⟩
theorem W2.below {B : Nat} {vk vd : Value} {K : List Ob} {D : List Nat} {w w' : World} (h : W2 B vk K vd D w) (hb : Below w.heap.size w w') : W2 B vk K vd D w' := ⟨h.kp.below hb, h.dp.below hb, h.ap⟩
theorem W2.kept {B : Nat} {vk vd : Value} {K : List Ob} {D : List Nat} {w w' : World} {row : Option Nat} (h : W2 B vk K vd D w) (hg : w.grownBy w' row) (h1 : vk.ownBlock = none ∨ vk.ownBlock ≠ row) (h2 : vd.ownBlock = none ∨ vd.ownBlock ≠ row) : W2 B vk K vd D w' :=
  ⟨⟨h.kp.1.kept hg h1, Nat.le_trans h.kp.2 hg.size⟩, ⟨h.dp.1.kept hg h2, Nat.le_trans h.dp.2 hg.size⟩, h.ap⟩
theorem W2.ap2 {B : Nat} {vk vd : Value} {K : List Ob} {D : List Nat} {w : World} (h : W2 B vk K vd D w) : (vd.ownBlock = none ∨ vd.ownBlock ≠ vk.ownBlock) ∧ (vk.ownBlock = none ∨ vk.ownBlock ≠ vd.ownBlock) := by
  cases hd : vd.ownBlock with
  | none => exact ⟨Or.inl rfl, by cases hk : vk.ownBlock <;> simp⟩
  | some g =>
    have n : vk.ownBlock ≠ some g := fun e => h.ap g e hd
    exact ⟨Or.inr (Ne.symm n), Or.inr n⟩
/-- append to the first. -/
theorem wp_keep {ops : Array Oper} {rest : List Oper} {o : Oper} {a : Act} {Q : Exit → Act → World → Prop} (w : World) (hgd : o.guard = none) (s x : Operand)
    (ho : o.op = .call { callee := .builtin .append, args := #[s, x], argTypes := #[22, 22] })
    (B : Nat) (vk vd : Value) (K : List Ob) (D : List Nat) (q : Ob) (hs : a.eval s = vk) (hx : a.eval x = .slice (some ⟨w.heap.size, 0, none⟩) 1 1) (h2 : W2 B vk K vd D w) (hl : K.length ≤ 1000000)
    (h : ∀ v' w', W2 B v' (K ++ [q]) vd D w' → (w.alloc (.cells (obsC q).toArray 33)).grownBy w' vk.ownBlock → (v'.ownBlock = vk.ownBlock ∨ v'.ownBlock = some (w.heap.size + 1)) → Below B w w' → wpList Tryz.prog ops Q rest (a.put o.dst v') w') :
    wpList Tryz.prog ops Q (o :: rest) a (w.alloc (.cells (obsC q).toArray 33)) := by
  obtain ⟨i0, hi, hz0, hz1, hz2⟩ := info_parts infoO
  have ho' := h2.kp.1.alloc (.cells (obsC q).toArray 33)
  have nw := news_of (rangeAt_new w (obsC q) 33)
  have b1 : Below B w (w.alloc (.cells (obsC q).toArray 33)) := (Below.refl _ _).alloc h2.kp.2 _
  have sz : (w.alloc (.cells (obsC q).toArray 33)).heap.size = w.heap.size + 1 := by simp
  refine wpList_append_own_at _ hgd s x 22 ho B 33 i0 _ 8 80 Tryz.underlying22 hi hz0 hz1 hz2 rfl (by decide) vk K.length (flatO K) hs ho' ⟨w.heap.size, 0, none⟩ 1 1 (obsC q) hx rfl nw (obsC_one q) (by unfold maxLen; omega) (by omega) (Nat.le_trans h2.kp.2 b1.size) ?_
  intro v' w' h1 hg _ hat
  rw [sz] at hat
  have e := flatO_snoc K q
  have hb : Below B w w' := b1.trans ((Below.refl B _).grown hg (Nat.le_trans h2.kp.2 b1.size) (fun k hk => (h2.kp.1.lt k hk).1))
  refine h v' w' ⟨⟨?_, Nat.le_trans h2.kp.2 hb.size⟩, ⟨((h2.dp.1.alloc _).kept hg h2.ap2.1), Nat.le_trans h2.dp.2 hb.size⟩, fun g hv hd => ?_⟩ hg hat hb
  · rw [e, List.length_append]
    exact h1
  · rcases hat with hat | hat
    · exact h2.ap g (hat ▸ hv) hd
    · rw [hat] at hv
      have := (h2.dp.1.lt g hd).2
      injection hv with hv
      omega
/-- append to the second. -/
theorem wp_drop {ops : Array Oper} {rest : List Oper} {o : Oper} {a : Act} {Q : Exit → Act → World → Prop} (w : World) (hgd : o.guard = none) (s x : Operand)
    (ho : o.op = .call { callee := .builtin .append, args := #[s, x], argTypes := #[24, 24] })
    (B : Nat) (vk vd : Value) (K : List Ob) (D : List Nat) (n : Nat) (hs : a.eval s = vd) (hx : a.eval x = .slice (some ⟨w.heap.size, 0, none⟩) 1 1) (h2 : W2 B vk K vd D w) (hl : D.length ≤ 1000000)
    (h : ∀ v' w', W2 B vk K v' (D ++ [n]) w' → (w.alloc (.cells #[.int .i64 (n : Int)] 3)).grownBy w' vd.ownBlock → (v'.ownBlock = vd.ownBlock ∨ v'.ownBlock = some (w.heap.size + 1)) → Below B w w' → wpList Tryz.prog ops Q rest (a.put o.dst v') w') :
    wpList Tryz.prog ops Q (o :: rest) a (w.alloc (.cells #[.int .i64 (n : Int)] 3)) := by
  obtain ⟨i0, hi, hz0, hz1, hz2⟩ := info_parts infoI
  have ho' := h2.dp.1.alloc (.cells #[.int .i64 (n : Int)] 3)
  have b1 : Below B w (w.alloc (.cells #[.int .i64 (n : Int)] 3)) := (Below.refl _ _).alloc h2.dp.2 _
  have sz : (w.alloc (.cells #[.int .i64 (n : Int)] 3)).heap.size = w.heap.size + 1 := by simp
  have hll : (intL D).length ≤ 1000000 := by rw [intL_len]; exact hl
  refine wpList_append_own_at _ hgd s x 24 ho B 3 i0 _ 1 8 Tryz.underlying24 hi hz0 hz1 hz2 rfl (by decide) vd (intL D).length (intL D) hs ho' ⟨w.heap.size, 0, none⟩ 1 1 [.int .i64 (n : Int)] hx rfl (cell_one_new _ _ _) (by simp [Value.oneCell']) (by unfold maxLen; omega) (by omega) (Nat.le_trans h2.dp.2 b1.size) ?_
  intro v' w' h1 hg _ hat
  rw [sz] at hat
  have e := intL_snoc D n
  have hb : Below B w w' := b1.trans ((Below.refl B _).grown hg (Nat.le_trans h2.dp.2 b1.size) (fun k hk => (h2.dp.1.lt k hk).1))
  refine h v' w' ⟨⟨((h2.kp.1.alloc _).kept hg h2.ap2.2), Nat.le_trans h2.kp.2 hb.size⟩, ⟨?_, Nat.le_trans h2.dp.2 hb.size⟩, fun g hv hd => ?_⟩ hg hat hb
  · rw [e, List.length_append]
    exact h1
  · rcases hat with hat | hat
    · exact h2.ap g hv (hat ▸ hd)
    · rw [hat] at hd
      have := (h2.kp.1.lt g hv).2
      injection hd with hd
      omega
/-- .. and a map beside them. -/
structure M3 (B mb n : Nat) (f : Ky → Option Ob) (vk : Value) (K : List Ob) (vd : Value) (D : List Nat) (w : World) : Prop where
  two : W2 B vk K vd D w
  mp : OM w mb n f
  nk : vk.ownBlock ≠ some mb
  nd : vd.ownBlock ≠ some mb
theorem M3.below {B mb n : Nat} {f : Ky → Option Ob} {vk vd : Value} {K : List Ob} {D : List Nat} {w w' : World} (h : M3 B mb n f vk K vd D w) (hb : Below w.heap.size w w') : M3 B mb n f vk K vd D w' := ⟨h.two.below hb, h.mp.below hb, h.nk, h.nd⟩
theorem M3.turned {B mb n n' : Nat} {f f' : Ky → Option Ob} {vk vd : Value} {K : List Ob} {D : List Nat} {w w' : World} (h : M3 B mb n f vk K vd D w) (ht : w.mapTurned w' mb) (hm : OM w' mb n' f') : M3 B mb n' f' vk K vd D w' :=
  ⟨h.two.kept ht.grown (Or.inr h.nk) (Or.inr h.nd), hm, h.nk, h.nd⟩
theorem M3.keep {B mb n : Nat} {f : Ky → Option Ob} {vk vd v' : Value} {K K' : List Ob} {D : List Nat} {w w' : World} {ob : Obj} (h : M3 B mb n f vk K vd D w) (h2 : W2 B v' K' vd D w') (hg : (w.alloc ob).grownBy w' vk.ownBlock) (hat : v'.ownBlock = vk.ownBlock ∨ v'.ownBlock = some (w.heap.size + 1)) : M3 B mb n f v' K' vd D w' := by
  have lt := h.mp.lt
  refine ⟨h2, (h.mp.below ((Below.refl _ _).alloc (Nat.le_refl _) ob)).kept hg (fun e => h.nk e.symm), fun e => ?_, h.nd⟩
  rcases hat with hat | hat
  · exact h.nk (hat ▸ e)
  · rw [hat] at e
    injection e with e
    omega
theorem M3.drop {B mb n : Nat} {f : Ky → Option Ob} {vk vd v' : Value} {K : List Ob} {D D' : List Nat} {w w' : World} {ob : Obj} (h : M3 B mb n f vk K vd D w) (h2 : W2 B vk K v' D' w') (hg : (w.alloc ob).grownBy w' vd.ownBlock) (hat : v'.ownBlock = vd.ownBlock ∨ v'.ownBlock = some (w.heap.size + 1)) : M3 B mb n f vk K v' D' w' := by
  have lt := h.mp.lt
  refine ⟨h2, (h.mp.below ((Below.refl _ _).alloc (Nat.le_refl _) ob)).kept hg (fun e => h.nd e.symm), h.nk, fun e => ?_⟩
  rcases hat with hat | hat
  · exact h.nd (hat ▸ e)
  · rw [hat] at e
    injection e with e
    omega
/-- A slice of numbers that is handed back. -/
def IntV (w : World) (v : Value) (D : List Nat) : Prop := ∃ x cap, v = .slice x D.length cap ∧ InA w x D
theorem IntV.nil (w : World) : IntV w (.slice none 0 0) [] := ⟨none, 0, rfl, Or.inl rfl⟩
theorem IntV.below {w w' : World} {v : Value} {D : List Nat} (h : IntV w v D) (hb : Below w.heap.size w w') : IntV w' v D := by
  obtain ⟨x, cap, e, h⟩ := h
  exact ⟨x, cap, e, h.below hb⟩
theorem Own1.intV {w : World} {B : Nat} {v : Value} {D : List Nat} (h : Own1 3 w B v (intL D)) : IntV w v D := by
  rcases h.form with ⟨e, rfl⟩ | ⟨g, cap, rfl, _, _, lt, hc⟩
  · have : D = [] := by
      cases D with
      | nil => rfl
      | cons a l => cases e
    subst this
    exact IntV.nil w
  · refine ⟨some ⟨g, 0, none⟩, cap, by rw [intL_len], Or.inr ⟨g, 0, rfl, lt, fun j hj => ?_⟩⟩
    rw [Nat.zero_add]
    refine hc j _ ?_
    unfold intL
    rw [List.getElem?_map, List.getElem?_eq_getElem hj]
    rfl
end Vw
end Go.Proofs.YtaghilgfldaaiaaGreatDoor
/-
  The library contract of a sort, laid at this program.
-/
namespace Go.Proofs
open Go.Shelf
def Tryz.sortRec_ren : Go.Shelf.Ren := ⟨fun | 6 => 66 | 15 => 112 | 14 => 111 | 28 => 166 | 29 => 167 | 20 => 158 | 21 => 159 | 22 => 160 | 23 => 161 | 24 => 162 | 25 => 163 | 26 => 164 | 27 => 165 | 46 => 196 | 47 => 197 | 48 => 198 | 49 => 199 | 50 => 200 | 57 => 216 | n => n, fun | 22 => 107 | 24 => 108 | 25 => 110 | 3 => 3 | 39 => 150 | 0 => 0 | 53 => 179 | 55 => 181 | 4 => 4 | 46 => 173 | 45 => 172 | 50 => 123 | 5 => 5 | 9 => 9 | 66 => 197 | 70 => 201 | 76 => 219 | 77 => 220 | n => n, fun n => n⟩
theorem Tryz.sortRec : Go.Proofs.SlLaysF0.n6 Tryz.prog Tryz.sortRec_ren := {
  mixed := by kernel_rfl
  f6 := ⟨Tryz.f66.name, by decide, Tryz.func66.trans (congrArg some (by kernel_rfl))⟩
  f14 := ⟨Tryz.f111.name, by decide, Tryz.func111.trans (congrArg some (by kernel_rfl))⟩
  f15 := Tryz.func112.trans (congrArg some (by kernel_rfl))
  f20 := ⟨Tryz.f158.name, by decide, Tryz.func158.trans (congrArg some (by kernel_rfl))⟩
  f21 := ⟨Tryz.f159.name, by decide, Tryz.func159.trans (congrArg some (by kernel_rfl))⟩
  f22 := ⟨Tryz.f160.name, by decide, Tryz.func160.trans (congrArg some (by kernel_rfl))⟩
  f23 := ⟨Tryz.f161.name, by decide, Tryz.func161.trans (congrArg some (by kernel_rfl))⟩
  f24 := ⟨Tryz.f162.name, by decide, Tryz.func162.trans (congrArg some (by kernel_rfl))⟩
  f25 := ⟨Tryz.f163.name, by decide, Tryz.func163.trans (congrArg some (by kernel_rfl))⟩
  f26 := ⟨Tryz.f164.name, by decide, Tryz.func164.trans (congrArg some (by kernel_rfl))⟩
  f27 := ⟨Tryz.f165.name, by decide, Tryz.func165.trans (congrArg some (by kernel_rfl))⟩
  f28 := Tryz.func166.trans (congrArg some (by kernel_rfl))
  f29 := Tryz.func167.trans (congrArg some (by kernel_rfl))
  f46 := ⟨Tryz.f196.name, by decide, Tryz.func196.trans (congrArg some (by kernel_rfl))⟩
  f47 := Tryz.func197.trans (congrArg some (by kernel_rfl))
  f48 := Tryz.func198.trans (congrArg some (by kernel_rfl))
  f49 := ⟨Tryz.f199.name, by decide, Tryz.func199.trans (congrArg some (by kernel_rfl))⟩
  f50 := ⟨Tryz.f200.name, by decide, Tryz.func200.trans (congrArg some (by kernel_rfl))⟩
  f57 := ⟨Tryz.f216.name, by decide, Tryz.func216.trans (congrArg some (by kernel_rfl))⟩
  t0 := Tryz.underlying0
  a0 := Tryz.isAgg0
  z0 := Tryz.sizeOf0
  v0 := Tryz.zeroValue0
  t3 := Tryz.underlying3
  a3 := Tryz.isAgg3
  z3 := Tryz.sizeOf3
  v3 := Tryz.zeroValue3
  t4 := Tryz.underlying4
  a4 := Tryz.isAgg4
  z4 := Tryz.sizeOf4
  v4 := Tryz.zeroValue4
  t5 := Tryz.underlying5
  a5 := Tryz.isAgg5
  z5 := Tryz.sizeOf5
  v5 := Tryz.zeroValue5
  t9 := Tryz.underlying9
  a9 := Tryz.isAgg9
  z9 := Tryz.sizeOf9
  v9 := Tryz.zeroValue9
  t22 := Tryz.underlying107
  a22 := Tryz.isAgg107
  z22 := Tryz.sizeOf107
  v22 := Tryz.zeroValue107
  t25 := Tryz.underlying110
  a25 := Tryz.isAgg110
  z25 := Tryz.sizeOf110
  v25 := Tryz.zeroValue110
  t39 := Tryz.underlying150
  a39 := Tryz.isAgg150
  z39 := Tryz.sizeOf150
  v39 := Tryz.zeroValue150
  t45 := Tryz.underlying172
  a45 := Tryz.isAgg172
  z45 := Tryz.sizeOf172
  v45 := Tryz.zeroValue172
  t46 := Tryz.underlying173
  a46 := Tryz.isAgg173
  z46 := Tryz.sizeOf173
  v46 := Tryz.zeroValue173
  t50 := Tryz.underlying123
  a50 := Tryz.isAgg123
  z50 := Tryz.sizeOf123
  v50 := Tryz.zeroValue123
  t53 := Tryz.underlying179
  a53 := Tryz.isAgg179
  z53 := Tryz.sizeOf179
  v53 := Tryz.zeroValue179
  t55 := Tryz.underlying181
  a55 := Tryz.isAgg181
  z55 := Tryz.sizeOf181
  v55 := Tryz.zeroValue181
  t66 := Tryz.underlying197
  a66 := Tryz.isAgg197
  z66 := Tryz.sizeOf197
  v66 := Tryz.zeroValue197
  t70 := Tryz.underlying201
  a70 := Tryz.isAgg201
  z70 := Tryz.sizeOf201
  v70 := Tryz.zeroValue201
  t76 := Tryz.underlying219
  a76 := Tryz.isAgg219
  z76 := Tryz.sizeOf219
  v76 := Tryz.zeroValue219
  t77 := Tryz.underlying220
  a77 := Tryz.isAgg220
  z77 := Tryz.sizeOf220
  v77 := Tryz.zeroValue220 }
end Go.Proofs
/-
  slices.SortFunc at records of observations.
-/
namespace Go.Proofs.YtaghilgfldaaiaaGreatDoor
namespace Ow
open Go.RowKit Lw Go.Proofs.YtaghilgfldaaiaaGreatDoor.Ap Go.Proofs.YtaghilgfldaaiaaGreatDoor.Op Go.Proofs.YtaghilgfldaaiaaGreatDoor.Mp Go.Proofs.YtaghilgfldaaiaaGreatDoor.Mw Go.Proofs.YtaghilgfldaaiaaGreatDoor.At Go.Sort Go.Lib

instance : Inhabited Ob := ⟨zeroO⟩
theorem lt_cmp (x y : Ob) : ltOf cmpO x y = decide (cmpO x y < 0) := rfl
theorem swo_O : SWO (ltOf cmpO) where
  irrefl x := by rw [lt_cmp, cmpO_refl]; rfl
  trans x y z h1 h2 := by
    rw [lt_cmp] at *
    have h1 := of_decide_eq_true h1
    have h2 := of_decide_eq_true h2
    exact decide_eq_true (cmp_O.lt_le h1 (by omega))
  ntrans x y z h1 h2 := by
    rw [lt_cmp] at *
    have h1 := of_decide_eq_false h1
    have h2 := of_decide_eq_false h2
    have e1 := cmp_O.anti x y
    have e2 := cmp_O.anti y z
    have e3 := cmp_O.anti x z
    have := cmp_O.trans z y x (by omega) (by omega)
    exact decide_eq_false (by omega)
/-- The cells of a row that the call owns. -/
theorem holds_own {w : World} {B g cap : Nat} {l : List Ob} (h : OwnR w B (.slice (some ⟨g, 0, none⟩) l.length cap) l) (hn : l ≠ []) : HoldsK obsC 8 w g 0 l.toArray := by
  obtain ⟨⟨h1, h2⟩, _⟩ := h
  have hlt := h1
  rcases h2 with ⟨hv, hn0⟩ | ⟨g', cap', cur, hv, hb, hh, hc1, hc2, hs, ht⟩
  · exact absurd (List.length_eq_zero_iff.1 hn0) hn
  · have eg : g = g' := by
      have := congrArg (fun v => match v with | Value.slice (some a) _ _ => a.block | _ => 0) hv
      exact this
    subst eg
    intro t ht'
    rw [size_flatK] at ht'
    have z : l.toArray.size = l.length := by simp
    rw [z] at ht'
    have hi : t / 8 < l.length := by omega
    have e1 : (flatK obsC 8 l.toArray)[t]! = (obsC l[t / 8])[t % 8]! := by
      rw [get_flatK _ _ _ _ (by rw [z]; exact ht')]
      congr 2
      rw [getElem!_pos l.toArray (t / 8) (by rw [z]; exact hi)]
      simp
    have hj : t % 8 < (obsC l[t / 8]).length := by show t % 8 < 8; omega
    have e2 : (obsC l[t / 8])[t % 8]? = some ((obsC l[t / 8])[t % 8]!) := by
      rw [getElem!_pos (obsC l[t / 8]) (t % 8) hj]; exact List.getElem?_eq_getElem hj
    have e3 := flatO_get hi e2
    rw [show t / 8 * 8 + t % 8 = t by omega] at e3
    have e4 : cur[t]? = some ((obsC l[t / 8])[t % 8]!) := by
      rw [← ht] at e3
      rw [List.getElem?_take_of_lt (by omega)] at e3
      rwa [Array.getElem?_toList] at e3
    rw [e1, Nat.zero_add]
    refine ⟨?_, ?_⟩
    · unfold World.cell?
      rw [hh]
      simpa using e4
    · exact Lib.frozen_of_heap hh t
theorem obs_holds {w : World} {g : Nat} {d : Array Ob} (h : HoldsK obsC 8 w g 0 d) : ObsAt w g 0 d.toList := fun i hi j v hv => by
  have hi' : i < d.size := by simpa using hi
  have hj : j < 8 := by
    have := (List.getElem?_eq_some_iff.1 hv).1
    exact this
  have := (h.cell hi' hj).1
  rw [this]
  have e : d[i]! = d.toList[i] := by rw [getElem!_pos d i hi']; simp
  rw [e]
  have hj2 : j < (obsC d.toList[i]).length := hj
  rw [getElem!_pos (obsC d.toList[i]) j hj2]
  rw [List.getElem?_eq_getElem hj2] at hv
  exact hv
theorem below_sorted (w : World) (B g n : Nat) (d : Array Ob) (os : Array Obj) (hg : B ≤ g) (hB : B ≤ w.heap.size) : Below B w (sortWorldK obsC 8 w g 0 n d os) := by
  refine ⟨rfl, rfl, rfl, ?_, fun k hk => ?_⟩
  · show w.heap.size ≤ ((putRowK obsC 8 (Go.Sort.ahead w n) g 0 d).heap ++ os).size
    rw [Array.size_append]
    have : (putRowK obsC 8 (Go.Sort.ahead w n) g 0 d).heap.size = w.heap.size := by unfold putRowK; rw [size_putRow]; rfl
    omega
  · show ((putRowK obsC 8 (Go.Sort.ahead w n) g 0 d).heap ++ os)[k]? = w.heap[k]?
    have z : (putRowK obsC 8 (Go.Sort.ahead w n) g 0 d).heap.size = w.heap.size := by unfold putRowK; rw [size_putRow]; rfl
    rw [Array.getElem?_append_left (by omega)]
    unfold putRowK putRow mapBlock
    simp only [Array.getElem?_modify]
    rw [if_neg (by omega)]
    rfl
/-- SortFunc at a row of the call's own. -/
theorem sort_rec (B g cap : Nat) (l : List Ob) (w : World) (h : OwnR w B (.slice (some ⟨g, 0, none⟩) l.length cap) l) (hn : l ≠ []) (hg : B ≤ g) (lt : g < w.heap.size) (hl : l.length ≤ 1000000) :
    Calls Tryz.prog 66 #[.slice (some ⟨g, 0, none⟩) l.length cap, .func (.func 67) #[] #[]] w fun e w' => e = .returned (.tuple #[]) ∧ ∃ x, x.Perm l ∧ ordL x ∧ ObsAt w' g 0 x ∧ g < w'.heap.size ∧ Below B w w' := by
  have eg : ∀ args w, (callFunc 67 args).run Tryz.prog w = .ok (.enter 67 args) w := enters_of Tryz.func67 (by kernel_rfl) rfl
  have H := holds_own h hn
  have hc := AnyQ.slices_SortFunc Tryz.sortRec 8 Tryz.isAgg108 Tryz.sizeOf108 obsC (fun _ => rfl) (fun x => obsC_one x) cmpO swo_O 67 #[] g 0 cap l.toArray w eg (fun m os dk hs x y => compare_any x y _) H lt (by simp; omega)
  have z : l.toArray.size = l.length := by simp
  rw [z] at hc
  refine hc.mono ?_
  rintro e w' ⟨rfl, d', n, os, hp, hs, rfl⟩
  obtain ⟨p1, _, p2⟩ := hp
  have e1 : d'.extract 0 l.length = d' := by rw [← z, ← p1]; exact Array.extract_size
  have e2 : l.toArray.extract 0 l.length = l.toArray := by rw [← z]; exact Array.extract_size
  rw [e1, e2] at p2
  have hd := holdsK_sortWorldK obsC 8 w g 0 n l.toArray d' os lt H p1
  refine ⟨rfl, d'.toList, by simpa using p2, ?_, obs_holds hd, lt_sortWorldK obsC 8 w g 0 n d' os lt, below_sorted w B g n d' os hg h.2⟩
  unfold ordL
  rw [List.pairwise_iff_getElem]
  intro i j hi hj hij
  have hi' : i < d'.size := by simpa using hi
  have hj' : j < d'.size := by simpa using hj
  have := hs i j (Nat.zero_le _) hij (by rw [p1, z] at hj'; exact hj')
  rw [getElem!_pos d' j hj', getElem!_pos d' i hi', lt_cmp] at this
  have := of_decide_eq_false this
  have e3 := cmp_O.anti d'[i] d'[j]
  show cmpO d'.toList[i] d'.toList[j] ≤ 0
  simp only [Array.getElem_toList]
  omega
end Ow
end Go.Proofs.YtaghilgfldaaiaaGreatDoor
/-
  Plain law of observations: exact observations are read back as they are; the chapter's example; no walk here.
-/
namespace Go.Proofs.YtaghilgfldaaiaaGreatDoor
namespace Op
open Go.RowKit Lw Go.Proofs.YtaghilgfldaaiaaGreatDoor.Ap Go.Proofs.YtaghilgfldaaiaaGreatDoor.Mp Go.Proofs.YtaghilgfldaaiaaGreatDoor.At Go.Proofs.YtaghilgfldaaiaaGreatDoor.Ow Go.Proofs.YtaghilgfldaaiaaGreatDoor.Mw

/-! ### The example -/
end Op
end Go.Proofs.YtaghilgfldaaiaaGreatDoor
/-
  Plain law of observations: what is read from a line is exact: its day has a text of six digits that is read as the same time; no walk here.
-/
namespace Go.Proofs.YtaghilgfldaaiaaGreatDoor
namespace Op
open Go.RowKit Lw Go.Proofs.YtaghilgfldaaiaaGreatDoor.Ap Go.Proofs.YtaghilgfldaaiaaGreatDoor.Mp Go.Proofs.YtaghilgfldaaiaaGreatDoor.At Go.Proofs.YtaghilgfldaaiaaGreatDoor.Ow Go.Proofs.YtaghilgfldaaiaaGreatDoor.Mw

end Op
end Go.Proofs.YtaghilgfldaaiaaGreatDoor
/-
  The walks of given and alive of the law package of observations.
-/
namespace Go.Proofs.YtaghilgfldaaiaaGreatDoor
namespace Ow
open Go.RowKit Lw Go.Proofs.YtaghilgfldaaiaaGreatDoor.Ap Go.Proofs.YtaghilgfldaaiaaGreatDoor.Op Go.Proofs.YtaghilgfldaaiaaGreatDoor.Mp Go.Proofs.YtaghilgfldaaiaaGreatDoor.Mw Go.Proofs.YtaghilgfldaaiaaGreatDoor.At

end Ow
end Go.Proofs.YtaghilgfldaaiaaGreatDoor
/-
  What the rows of the laws of observations say of memory: the table of powers, and the error of strconv.
-/
namespace Go.Proofs.YtaghilgfldaaiaaGreatDoor
namespace Ow
open Go.RowKit Lw

theorem laidMet_tail {P : Program} {W : World} {x : String × DataW Unit} {rest : List (String × DataW Unit)} (h : laidMet P (x :: rest) W) : laidMet P rest W := by
  obtain ⟨n, d⟩ := x
  obtain ⟨ps, ⟨g', t', cs, fuel, p, q, hg', ht', hvar, hd, hr, hp⟩, hn, ha⟩ := h
  subst hp
  exact ⟨q, hr, (List.nodup_append.1 hn).2.1, fun b off hm => ha b off (List.mem_append_right _ hm)⟩
set_option maxRecDepth 100000 in
theorem err_one {enc : TypeId × Value → Unit} {W : World} {base : Nat} {sp : Nat → Bool} {fuel : Nat} {t : TypeId} {tys : Array (String × TypeId)} {v : Value} {y : DataW Unit × List MemPlace} (ht : Tryz.prog.underlying t = some (.interface tys)) (h : DataW.trod enc Tryz.prog W base sp false fuel t [v] = some y) : v = .nilIface ∨ ∃ te pe, v = .iface te pe := by
  cases fuel with
  | zero => simp [DataW.trod] at h
  | succ n =>
    cases v with
    | nilIface => exact Or.inl rfl
    | iface te pe => exact Or.inr ⟨te, pe, rfl⟩
    | _ => simp [DataW.trod, ht] at h
set_option maxRecDepth 100000 in
theorem err_cell {enc : TypeId × Value → Unit} {W : World} {base : Nat} {sp : Nat → Bool} {fuel : Nat} {t : TypeId} {tys : Array (String × TypeId)} {cs : List Value} {y : DataW Unit × List MemPlace} (ht : Tryz.prog.underlying t = some (.interface tys)) (h : DataW.trod enc Tryz.prog W base sp false fuel t cs = some y) :
    ∃ v, cs = [v] ∧ (v = .nilIface ∨ ∃ te pe, v = .iface te pe) := by
  cases fuel with
  | zero => simp [DataW.trod] at h
  | succ n =>
    match cs, h with
    | [], h => simp [DataW.trod, ht] at h
    | [v], h =>
      exact ⟨v, rfl, err_one ht h⟩
    | _ :: _ :: _, h => simp [DataW.trod, ht] at h
theorem es_of {W : World} (hL : laidMet Tryz.prog Rows.psvMergesRow.laid W) : ES W := by
  obtain ⟨ps, ⟨g', t', cs, fuel, p, q, hg', ht', hvar, hd, _, _⟩, _⟩ := laidMet_tail (laidMet_tail (laidMet_tail (laidMet_tail (laidMet_tail hL))))
  have hg : Tryz.prog.globalNamed "strconv.ErrSyntax" = some 6 := by kernel_rfl
  have hty : (Tryz.prog.globals[(6 : Nat)]?).map (·.type) = some 97 := by kernel_rfl
  obtain rfl := Option.some.inj (hg.symm.trans hg')
  obtain rfl := Option.some.inj (hty.symm.trans ht')
  obtain ⟨tys, hu⟩ : ∃ tys, Tryz.prog.underlying 97 = some (.interface tys) := ⟨_, Tryz.underlying97⟩
  obtain ⟨v, hc, hv⟩ := err_cell hu hd
  have c := World.var?_cell hg hvar 0
  have e0 : cs[0]? = some v := by
    rw [← Array.getElem?_toList, hc]; rfl
  rw [e0] at c
  refine ⟨?_, v, c, hv⟩
  rcases Nat.lt_or_ge 6 W.heap.size with h | h
  · exact h
  · exfalso
    unfold World.cell? at c
    rw [Array.getElem?_eq_none h] at c
    cases c
theorem tab_of {W : World} (hL : laidMet Tryz.prog Rows.psvMergesRow.laid W) : Gt.Tab W :=
  Lib.tabIs_of_head (t := 209) (e := 181) (n := 20) Gt.gPow (by kernel_rfl) (by kernel_rfl) (by kernel_rfl) (by kernel_rfl) (by kernel_rfl) (laidMet_tail (laidMet_tail hL))
end Ow
end Go.Proofs.YtaghilgfldaaiaaGreatDoor
/-
  The walk of the law ObsRound.
-/
namespace Go.Proofs.YtaghilgfldaaiaaGreatDoor
namespace Ow
open Go.RowKit Lw Go.Proofs.YtaghilgfldaaiaaGreatDoor.Ap Go.Proofs.YtaghilgfldaaiaaGreatDoor.Op Go.Proofs.YtaghilgfldaaiaaGreatDoor.Mp Go.Proofs.YtaghilgfldaaiaaGreatDoor.Mw Go.Proofs.YtaghilgfldaaiaaGreatDoor.At

end Ow
end Go.Proofs.YtaghilgfldaaiaaGreatDoor
/-
  Plain law of observations: the plan of the law ObsRound.
-/
namespace Go.Proofs.YtaghilgfldaaiaaGreatDoor
namespace Ow
open Go.RowKit Lw Go.Proofs.YtaghilgfldaaiaaGreatDoor.Ap Go.Proofs.YtaghilgfldaaiaaGreatDoor.Op Go.Proofs.YtaghilgfldaaiaaGreatDoor.Mp Go.Proofs.YtaghilgfldaaiaaGreatDoor.Mw Go.Proofs.YtaghilgfldaaiaaGreatDoor.At

end Ow
end Go.Proofs.YtaghilgfldaaiaaGreatDoor
/-
  Plain law of observations: texts of angles that are read have texts; no walk here.
-/
namespace Go.Proofs.YtaghilgfldaaiaaGreatDoor
namespace Op
open Go.RowKit Lw Go.Proofs.YtaghilgfldaaiaaGreatDoor.Ap Go.Proofs.YtaghilgfldaaiaaGreatDoor.Mp Go.Proofs.YtaghilgfldaaiaaGreatDoor.At Go.Proofs.YtaghilgfldaaiaaGreatDoor.Ow Go.Proofs.YtaghilgfldaaiaaGreatDoor.Mw

/-- A clock, taken apart. -/
structure Clk (s : ByteArray) (h m c : Nat) (T : List UInt8) : Prop where
  hh : h < 100
  mm : m ≤ 59
  cc : c ≤ 59
  d : Ap.allD T
  l : T.length ≤ 6
  eq : s.data.toList = decL h 2 ++ ([32] ++ (decL m 2 ++ ([32] ++ (decL c 2 ++ (if T = [] then [] else 46 :: T)))))
  sc : Gp.secs s = h * 3600 + m * 60 + c
  tw : Gp.two s 0 = h
  rest : Gp.restOf s = ⟨T.toArray⟩
theorem pre_ne46 (h m c : Nat) : ∀ z ∈ decL h 2 ++ ([32] ++ (decL m 2 ++ ([32] ++ decL c 2))), z ≠ 46 := mem3 (allD_ne46 (decL_num _ _).2) (by decide) (allD_ne46 (decL_num _ _).2) (by decide) (allD_ne46 (decL_num _ _).2)
theorem decs_none {l : List UInt8} (h : ∀ c ∈ l, c ≠ 46) : decs ⟨l.toArray⟩ = 0 := by
  unfold decs ptS
  rw [toL_mk, size_mk]
  have : ptL l = l.length := ptL_uniq (Nat.le_refl _) (fun j g hj => fun e => h _ (List.getElem_mem g) (UInt8.toNat_inj.1 (Int.ofNat.inj e))) (fun g => absurd g (Nat.lt_irrefl _))
  rw [this]; omega
theorem Clk.decs {s : ByteArray} {h m c : Nat} {T : List UInt8} (k : Clk s h m c T) : decs s = T.length := by
  rw [← mk_toL s, k.eq]
  by_cases hT : T = []
  · rw [if_pos hT, hT, List.append_nil, decs_none (pre_ne46 h m c)]; rfl
  · rw [if_neg hT]
    have : decL h 2 ++ ([32] ++ (decL m 2 ++ ([32] ++ (decL c 2 ++ 46 :: T)))) = (decL h 2 ++ ([32] ++ (decL m 2 ++ ([32] ++ decL c 2)))) ++ 46 :: T := by simp
    rw [this, decs_app (pre_ne46 h m c)]
end Op
end Go.Proofs.YtaghilgfldaaiaaGreatDoor
/-
  Plain law of observations: the plan of the law ObsBack: what is read from a line has a line; no walk here.
-/
namespace Go.Proofs.YtaghilgfldaaiaaGreatDoor
namespace Op
open Go.RowKit Lw Go.Proofs.YtaghilgfldaaiaaGreatDoor.Ap Go.Proofs.YtaghilgfldaaiaaGreatDoor.Mp Go.Proofs.YtaghilgfldaaiaaGreatDoor.At Go.Proofs.YtaghilgfldaaiaaGreatDoor.Ow Go.Proofs.YtaghilgfldaaiaaGreatDoor.Mw

/-! ### Columns as lists -/
abbrev sl (s : ByteArray) (i j : Nat) : List UInt8 := (s.extract i j).data.toList
theorem bt_ext (s : ByteArray) (i j k : Nat) (hk : i + k < j) (hj : j ≤ s.size) : bt (s.extract i j) k = bt s (i + k) := by
  rw [bt_of _ k (by rw [ByteArray.size_extract]; omega), bt_of s (i + k) (by omega)]
  congr 2
  simp [ByteArray.getElem_eq_getElem_data]
theorem Clk.size {s : ByteArray} {h m c : Nat} {T : List UInt8} (k : Clk s h m c T) : s.size = 8 + (if T = [] then 0 else T.length + 1) := by
  rw [size_L, k.eq]
  by_cases hT : T = []
  · rw [if_pos hT, if_pos hT]; simp [decL_len]
  · rw [if_neg hT, if_neg hT]; simp [decL_len]; omega
end Op
end Go.Proofs.YtaghilgfldaaiaaGreatDoor
/-
  Plain law of observations: the plan of the law ObsBack, joined; no walk here.
-/
namespace Go.Proofs.YtaghilgfldaaiaaGreatDoor
namespace Op
open Go.RowKit Lw Go.Proofs.YtaghilgfldaaiaaGreatDoor.Ap Go.Proofs.YtaghilgfldaaiaaGreatDoor.Mp Go.Proofs.YtaghilgfldaaiaaGreatDoor.At Go.Proofs.YtaghilgfldaaiaaGreatDoor.Ow Go.Proofs.YtaghilgfldaaiaaGreatDoor.Mw

end Op
end Go.Proofs.YtaghilgfldaaiaaGreatDoor
/-
  Plain law of observations: a line that is read has no line feed; no walk here.
-/
namespace Go.Proofs.YtaghilgfldaaiaaGreatDoor
namespace Op
open Go.RowKit Lw Go.Proofs.YtaghilgfldaaiaaGreatDoor.Ap Go.Proofs.YtaghilgfldaaiaaGreatDoor.Mp Go.Proofs.YtaghilgfldaaiaaGreatDoor.At Go.Proofs.YtaghilgfldaaiaaGreatDoor.Ow Go.Proofs.YtaghilgfldaaiaaGreatDoor.Mw

/-- No line feed. -/
def noL (l : List UInt8) : Prop := ∀ c ∈ l, c ≠ 10
instance (l : List UInt8) : Decidable (noL l) := by unfold noL; infer_instance
end Op
end Go.Proofs.YtaghilgfldaaiaaGreatDoor
/-
  strings.Cut at one byte.
-/
namespace Go.Proofs.YtaghilgfldaaiaaGreatDoor
namespace Ow
open Go.RowKit Lw Go.Proofs.YtaghilgfldaaiaaGreatDoor.Ap Go.Proofs.YtaghilgfldaaiaaGreatDoor.Mp Go.Proofs.YtaghilgfldaaiaaGreatDoor.At

end Ow
end Go.Proofs.YtaghilgfldaaiaaGreatDoor
/-
  Plain law of files of observations: one step of reading; no walk here.
-/
namespace Go.Proofs.YtaghilgfldaaiaaGreatDoor
namespace Op
open Go.RowKit Lw Go.Proofs.YtaghilgfldaaiaaGreatDoor.Ap Go.Proofs.YtaghilgfldaaiaaGreatDoor.Mp Go.Proofs.YtaghilgfldaaiaaGreatDoor.At Go.Proofs.YtaghilgfldaaiaaGreatDoor.Ow Go.Proofs.YtaghilgfldaaiaaGreatDoor.Mw

end Op
end Go.Proofs.YtaghilgfldaaiaaGreatDoor
/-
  The walk of ParseAll of obs.
-/
namespace Go.Proofs.YtaghilgfldaaiaaGreatDoor
namespace Ow
open Go.RowKit Lw Go.Proofs.YtaghilgfldaaiaaGreatDoor.Ap Go.Proofs.YtaghilgfldaaiaaGreatDoor.Op Go.Proofs.YtaghilgfldaaiaaGreatDoor.Mp Go.Proofs.YtaghilgfldaaiaaGreatDoor.Mw Go.Proofs.YtaghilgfldaaiaaGreatDoor.At

end Ow
end Go.Proofs.YtaghilgfldaaiaaGreatDoor
/-
  The walk of Sort of obs.
-/
namespace Go.Proofs.YtaghilgfldaaiaaGreatDoor
namespace Ow
open Go.RowKit Lw Go.Proofs.YtaghilgfldaaiaaGreatDoor.Ap Go.Proofs.YtaghilgfldaaiaaGreatDoor.Op Go.Proofs.YtaghilgfldaaiaaGreatDoor.Mp Go.Proofs.YtaghilgfldaaiaaGreatDoor.Mw Go.Proofs.YtaghilgfldaaiaaGreatDoor.At

theorem sort_own (B : Nat) (v : Value) (l : List Ob) (w : World) (h : OwnR w B v l) (hl : l.length ≤ 1000000) :
    Calls Tryz.prog 66 #[v, .func (.func 67) #[] #[]] w fun e w' => e = .returned (.tuple #[]) ∧ ∃ x, x.Perm l ∧ ordL x ∧ SlV w' v x ∧ Below B w w' := by
  rcases owns_form h.1 with ⟨rfl, rfl⟩ | ⟨g, cap, rfl, hg, lt, _⟩
  · refine (AnyF.slices_SortFunc_none Tryz.sortRec none 0 _ w).mono ?_
    rintro e w' ⟨rfl, rfl⟩
    exact ⟨rfl, [], List.Perm.refl _, List.Pairwise.nil, SlV.nil _, Below.refl _ _⟩
  · by_cases hn : l = []
    · subst hn
      refine (AnyF.slices_SortFunc_none Tryz.sortRec (some ⟨g, 0, none⟩) cap _ w).mono ?_
      rintro e w' ⟨rfl, rfl⟩
      exact ⟨rfl, [], List.Perm.refl _, List.Pairwise.nil, ⟨_, cap, rfl, Or.inl rfl⟩, Below.refl _ _⟩
    · refine (sort_rec B g cap l w h hn hg lt hl).mono ?_
      rintro e w' ⟨rfl, x, hp, ho, hx, lt', hb⟩
      exact ⟨rfl, x, hp, ho, ⟨some ⟨g, 0, none⟩, cap, by rw [hp.length_eq], Or.inr ⟨g, 0, rfl, lt', hx⟩⟩, hb⟩
def SortPost (l : List Ob) (w : World) (e : Ending) (w' : World) : Prop := ∃ (v : Value) (x : List Ob) (c : Int), e = .returned (.tuple #[v, .int .i64 c]) ∧ SortIs l x c ∧ SlV w' v x ∧ Below w.heap.size w w'
theorem take_snocO {l : List Ob} {k : Nat} (h : k < l.length) : l.take (k + 1) = l.take k ++ [l[k]] := List.take_succ_eq_append_getElem h
theorem infoR8 : (Tryz.prog.info? 108).map (·.size) = some 8 := by kernel_rfl
set_option maxRecDepth 100000 in
set_option maxHeartbeats 16000000 in
theorem sort_any (x : Option Addr) (cap : Nat) (l : List Ob) (w : World) (hE : ES w) (hl : SlA w x l) (hm : l.length ≤ 1000000) (hb : OBs l) :
    Calls Tryz.prog 32 #[.slice x l.length cap] w (SortPost l w) := by
  have HL := Lib.hid (fun w' (h : Below w.heap.size w w') => hl.below h)
  have CA := Lib.hid (checkall_any x cap l w hE hl hm hb)
  obtain ⟨n, hnl⟩ : ∃ n, l.length = n := ⟨_, rfl⟩
  by_cases hz : allC l = 0
  · have n5 : n ≤ 500 := by have := (allC_ok hz).1; omega
    have FIN : Hid (∀ x, x.Perm l → ordL x → SortIs l x 0) := Lib.hid (fun x h g => Or.inl ⟨hz, h, g, rfl⟩)
    rw [hz] at CA
    rw [hnl] at CA ⊢
    have NL := Lib.hid hnl
    clear hl hE hb hnl hz hm
    go_enter Tryz.func32, Tryz.ntmps32
    go_wp2_with fail
    refine CA.out.mono ?_
    rintro e w1 ⟨rfl, hb1⟩
    have B1 := Lib.hid hb1
    clear hb1 CA
    go_wp2_with fail
    go_loopw [5, 18] (fun v i wr => ∃ k : Nat, k ≤ n ∧ i = .int .i64 k ∧ Hid (OwnR wr w.heap.size v (l.take k)) ∧ Hid (Below w.heap.size w wr)) (fun _ i _ => n - (intOf i).toNat)
    case atStart => exact ⟨0, Nat.zero_le _, rfl, Lib.hid (OwnR.nil w1 _ B1.out.size), B1⟩
    case round =>
      obtain ⟨k, hk, rfl, O, B⟩ := hrel
      clear B1
      by_cases hlt : k < n
      · have hkl : k < l.length := by rw [NL.out]; exact hlt
        obtain ⟨b, off, rfl, lt, row⟩ := (HL.out _ B.out).get hkl
        have R := Lib.hid (row k hkl)
        have TK := Lib.hid (take_snocO hkl)
        have i1 : (k : Int) < (n : Int) := by omega
        have zl : (l.take k).length ≤ 1000000 := by rw [List.length_take]; omega
        clear row lt FIN
        generalize l[k]'hkl = o at *
        have bx := (Below.refl wr.heap.size wr).alloc (Nat.le_refl _) (.cells (obsC o).toArray 33)
        have X0 := Lib.hid (Box.new wr o)
        have B1 := Lib.hid (below_then B.out bx)
        have O1 := Lib.hid (O.out.below bx)
        clear B bx O
        go_wp2_with (first | (refine wpList_store_new rfl _ (.tmp 7) (.tmp 21) rfl _ _ rfl rfl info8 rfl ?_ ?_; simp [Value.oneCell']) | (refine wpList_load_mid rfl _ (.tmp 20) rfl b (off + k * 8) rfl (obsC o) _ R.out Tryz.underlying33 rfl info8 ?_) | (refine wpList_load_mid rfl _ (.tmp 7) rfl wr.heap.size 0 rfl (obsC o) _ X0.out.row Tryz.underlying33 rfl info8 ?_) | (at_builtin; refine wp_appR _ rfl (.tmp 22) (.tmp 24) rfl w.heap.size _ (l.take k) o rfl (by first | rfl | simp [Act.eval]) O1.out zl ?_; intro v' w3 hO3 hb3))
        have B3 := Lib.hid (B1.out.trans hb3)
        have O3 := Lib.hid (show OwnR w3 w.heap.size v' (l.take (k + 1)) by rw [TK.out]; exact hO3)
        clear hO3 hb3 B1 O1 X0 R TK
        go_wp2_with fail
        go_roundw
        case rel => exact ⟨k + 1, by omega, by go_num, O3, B3⟩
        case measure => simp [intOf]; omega
      · obtain rfl : k = n := by omega
        have tk : l.take k = l := by rw [← NL.out, List.take_length]
        have O1 := O.out
        rw [tk] at O1
        have ST := Lib.hid (sort_own w.heap.size _ l wr O1 (by have := NL.out; omega))
        clear HL O tk O1
        go_wp2_with fail
        refine ST.out.mono ?_
        rintro e w4 ⟨rfl, y, hp, ho, hv, hb4⟩
        have F := Lib.hid (FIN.out y hp ho)
        have zy : y.length = k := by rw [hp.length_eq]; exact NL.out
        obtain ⟨ya, yc, rfl, hy⟩ := hv
        have B4 := Lib.hid (B.out.trans hb4)
        have YL := Lib.hid (fun w' (h : Below w4.heap.size w4 w') => hy.below h)
        clear hp ho hy hb4 B ST FIN
        rw [zy]
        have ZY := Lib.hid zy
        have NI := Lib.hid (OwnO.nil w4 w4.heap.size (Nat.le_refl _))
        clear zy
        go_wp2_with fail
        go_loopw [8, 31] (fun v i wr => ∃ j : Nat, j ≤ k ∧ i = .int .i64 j ∧ Hid (OwnO wr w4.heap.size v (y.take j)) ∧ Hid (Below w4.heap.size w4 wr)) (fun _ i _ => k - (intOf i).toNat)
        case atStart => exact ⟨0, Nat.zero_le _, rfl, NI, Lib.hid (Below.refl _ _)⟩
        case round =>
          obtain ⟨j, hj, rfl, O, B⟩ := hrel
          by_cases hlt2 : j < k
          · have hjl : j < y.length := by rw [ZY.out]; exact hlt2
            obtain ⟨b, off, rfl, lt, row⟩ := (YL.out _ B.out).get hjl
            have R := Lib.hid (row j hjl)
            have TK := Lib.hid (take_snocO hjl)
            have i1 : (j : Int) < (k : Int) := by omega
            have zl : (y.take j).length ≤ 1000000 := by rw [List.length_take]; omega
            clear row lt F
            generalize y[j]'hjl = o at *
            have bx := (Below.refl wr.heap.size wr).alloc (Nat.le_refl _) (.cells (obsC o).toArray 108)
            have X0 := Lib.hid (show (wr.alloc (.cells (obsC o).toArray 108)).rangeAt wr.heap.size 0 (obsC o) from rangeAt_new wr _ _)
            have B1 := Lib.hid (below_then B.out bx)
            have O1 := Lib.hid (O.out.below bx)
            clear B bx O
            go_wp2_with (first | (refine wpList_store_new rfl _ (.tmp 10) (.tmp 34) rfl _ _ rfl rfl infoR8 rfl ?_ ?_; simp [Value.oneCell']) | (refine wpList_load_mid rfl _ (.tmp 33) rfl b (off + j * 8) rfl (obsC o) _ R.out Tryz.underlying108 rfl infoR8 ?_) | (refine wpList_load_mid rfl _ (.tmp 10) rfl wr.heap.size 0 rfl (obsC o) _ X0.out Tryz.underlying108 rfl infoR8 ?_) | (at_builtin; refine wp_app _ rfl (.tmp 35) (.tmp 37) rfl w4.heap.size _ (y.take j) o rfl (by first | rfl | simp [Act.eval]) O1.out zl ?_; intro v' w3 hO3 hb3))
            have B3 := Lib.hid (B1.out.trans hb3)
            have O3 := Lib.hid (show OwnO w3 w4.heap.size v' (y.take (j + 1)) by rw [TK.out]; exact hO3)
            clear hO3 hb3 B1 O1 X0 R TK
            go_wp2_with fail
            go_roundw
            case rel => exact ⟨j + 1, by omega, by go_num, O3, B3⟩
            case measure => simp [intOf]; omega
          · obtain rfl : j = k := by omega
            have tk : y.take j = y := by rw [← ZY.out, List.take_length]
            have O1 := O.out.1
            rw [tk] at O1
            have SV := Lib.hid (slV_of O1)
            have B5 := Lib.hid (below_then B4.out B.out)
            clear YL O O1 tk B B4
            go_wp2_with fail
            go_ret2
            exact ⟨_, y, 0, rfl, F.out, SV.out, B5.out⟩
  · have FIN := Lib.hid (show SortIs l [] (allC l) from Or.inr ⟨hz, rfl, rfl⟩)
    have hnz : (allC l != 0) = true := by rw [bne, beq_eq_false_iff_ne.2 hz]; rfl
    clear hl hE hb hnl hm HL hz
    generalize allC l = K at *
    go_enter Tryz.func32, Tryz.ntmps32
    go_wp2_with fail
    refine CA.out.mono ?_
    rintro e w1 ⟨rfl, hb1⟩
    have B1 := Lib.hid hb1
    clear hb1 CA
    go_wp2_with fail
    go_ret2
    exact ⟨_, [], K, rfl, FIN.out, SlV.nil _, B1.out⟩
end Ow
end Go.Proofs.YtaghilgfldaaiaaGreatDoor
/-
  Observations as values: whether they are equal.
-/
namespace Go.Proofs.YtaghilgfldaaiaaGreatDoor
namespace Vw
open Go.RowKit Lw Go.Proofs.YtaghilgfldaaiaaGreatDoor.Op

theorem obs_ext {a b : Ob} (h1 : a.name = b.name) (h2 : a.site = b.site) (h3 : a.t = b.t) (h4 : a.ra = b.ra) (h5 : a.dec = b.dec) (h6 : a.sg = b.sg) (h7 : a.mag = b.mag) (h8 : a.band = b.band) : a = b := by
  cases a; cases b
  simp only at h1 h2 h3 h4 h5 h6 h7 h8
  rw [h1, h2, h3, h4, h5, h6, h7, h8]
instance : DecidableEq Ob := fun a b =>
  if h : a.name = b.name ∧ a.site = b.site ∧ a.t = b.t ∧ a.ra = b.ra ∧ a.dec = b.dec ∧ a.sg = b.sg ∧ a.mag = b.mag ∧ a.band = b.band then isTrue (obs_ext h.1 h.2.1 h.2.2.1 h.2.2.2.1 h.2.2.2.2.1 h.2.2.2.2.2.1 h.2.2.2.2.2.2.1 h.2.2.2.2.2.2.2)
  else isFalse (fun e => h (by subst e; exact ⟨rfl, rfl, rfl, rfl, rfl, rfl, rfl, rfl⟩))
theorem eq_step {P : Program} (w : World) (d : Nat) (xs ys : Array Value) (f : Field) (fs : List Field) (hn : f.name ≠ "_") (hp : P.plainKey f.type = true) (x y : Value) (hx : xs[f.offset]? = some x) (hy : ys[f.offset]? = some y) (r : Bool)
    (hr : (Op.equalIn d f.type x y).run P w = .ok r w) (r' : Bool) (h : (Op.eqFields d xs ys fs).run P w = .ok r' w) : (Op.eqFields d xs ys (f :: fs)).run P w = .ok (r && r') w := by
  simp only [Op.eqFields, hn, ne_eq, not_false_eq_true, if_true, Sem.run_bind, run_part_plain w hp hx, run_part_plain w hp hy, hr, Result.andThen_ok]
  cases r
  · simp
  · simpa using h
def eqB (a b : Ob) : Bool := (a.name.toList == b.name.toList) && ((a.site.toList == b.site.toList) && ((a.t == b.t) && ((a.ra == b.ra) && ((a.dec == b.dec) && ((a.sg == b.sg) && ((a.mag == b.mag) && ((a.band == b.band) && true)))))))
theorem eqB_eq (a b : Ob) : eqB a b = decide (a = b) := by
  unfold eqB
  by_cases h : a = b
  · subst h
    simp
  · rw [decide_eq_false h]
    apply Bool.eq_false_iff.2
    intro e
    simp only [Bool.and_eq_true, beq_iff_eq] at e
    obtain ⟨e1, e2, e3, e4, e5, e6, e7, e8, _⟩ := e
    exact h (obs_ext (by rw [ByteArray.toList_eq, ByteArray.toList_eq] at e1; exact ByteArray.ext (Array.ext' e1)) (by rw [ByteArray.toList_eq, ByteArray.toList_eq] at e2; exact ByteArray.ext (Array.ext' e2)) e3 e4 e5 e6 e7 e8)
theorem fields_of {P : Program} {t : TypeId} {fs : Array Field} (h : P.underlying t = some (.struct fs)) : P.fieldsOf t = fs := by simp [Program.fieldsOf, h]
set_option maxRecDepth 100000 in
theorem obs_eql (a b : Ob) (w : World) : (Op.equalIn 10000 33 (obsV a) (obsV b)).run Tryz.prog w = .ok (decide (a = b)) w := by
  have hfs := fields_of Tryz.underlying33
  have e := run_equalIn_struct (P := Tryz.prog) w 9999 33 #[.string a.name, .string a.site, .int .i64 a.t, .int .i64 a.ra, .int .i64 a.dec, .int .i64 a.sg, .int .i64 a.mag, .int .u8 a.band] #[.string b.name, .string b.site, .int .i64 b.t, .int .i64 b.ra, .int .i64 b.dec, .int .i64 b.sg, .int .i64 b.mag, .int .u8 b.band] (by rw [hfs]; exact Tryz.underlying33) (by kernel_rfl)
  rw [e, hfs, ← eqB_eq]
  refine eq_step w 9999 _ _ _ _ (by decide) (by kernel_rfl) _ _ rfl rfl _ (run_equalIn_string w 9998 _ _ _ Tryz.underlying9) _ ?_
  refine eq_step w 9999 _ _ _ _ (by decide) (by kernel_rfl) _ _ rfl rfl _ (run_equalIn_string w 9998 _ _ _ Tryz.underlying9) _ ?_
  refine eq_step w 9999 _ _ _ _ (by decide) (by kernel_rfl) _ _ rfl rfl _ (run_equalIn_int w 9998 _ .i64 .i64 _ _ Tryz.underlying2) _ ?_
  refine eq_step w 9999 _ _ _ _ (by decide) (by kernel_rfl) _ _ rfl rfl _ (run_equalIn_int w 9998 _ .i64 .i64 _ _ Tryz.underlying2) _ ?_
  refine eq_step w 9999 _ _ _ _ (by decide) (by kernel_rfl) _ _ rfl rfl _ (run_equalIn_int w 9998 _ .i64 .i64 _ _ Tryz.underlying2) _ ?_
  refine eq_step w 9999 _ _ _ _ (by decide) (by kernel_rfl) _ _ rfl rfl _ (run_equalIn_int w 9998 _ .i64 .i64 _ _ Tryz.underlying2) _ ?_
  refine eq_step w 9999 _ _ _ _ (by decide) (by kernel_rfl) _ _ rfl rfl _ (run_equalIn_int w 9998 _ .i64 .i64 _ _ Tryz.underlying3) _ ?_
  refine eq_step w 9999 _ _ _ _ (by decide) (by kernel_rfl) _ _ rfl rfl _ (run_equalIn_int w 9998 _ .u8 .u8 _ _ Tryz.underlying5) _ ?_
  simp [Op.eqFields]
end Vw
end Go.Proofs.YtaghilgfldaaiaaGreatDoor
/-
  The walk of Merge of psv.
-/
namespace Go.Proofs.YtaghilgfldaaiaaGreatDoor
namespace Vw
open Go.RowKit Lw Go.Proofs.YtaghilgfldaaiaaGreatDoor.Ap Go.Proofs.YtaghilgfldaaiaaGreatDoor.Vp Go.Proofs.YtaghilgfldaaiaaGreatDoor.Op Go.Proofs.YtaghilgfldaaiaaGreatDoor.Ow Go.Proofs.YtaghilgfldaaiaaGreatDoor.Mp Go.Proofs.YtaghilgfldaaiaaGreatDoor.Mw Go.Proofs.YtaghilgfldaaiaaGreatDoor.At Go.Maps

abbrev kyC (k : Ky) : List Value := [.string k.name, .string k.site, .int .i64 k.t]
theorem infoKy : (Tryz.prog.info? 65).map (·.size) = some 3 := by kernel_rfl
theorem good_key {o : Ob} (ok : okO o) (hb : OB o) : goodK (kyOf o) := by
  obtain ⟨ot, on, os, ow, _⟩ := ok
  have z0 : o.name.size ≤ 7 := by
    rcases on with ⟨h, _⟩ | ⟨_, h, _⟩
    · omega
    · exact h
  exact ⟨by show o.name.size ≤ 1000; omega, by show o.site.size ≤ 1000; omega, hb.t0, hb.t1⟩
def MergePost (l : List Ob) (w : World) (e : Ending) (w' : World) : Prop := ∃ (v d : Value) (kept : List Ob) (dropped : List Nat) (c : Int), e = .returned (.tuple #[v, d, .int .i64 c]) ∧ MergeIs l kept dropped c ∧ SlV w' v kept ∧ IntV w' d dropped ∧ Below w.heap.size w w'
theorem turned_only {w w' : World} {b : Nat} (h : w.mapTurned w' b) (hb : b < w.heap.size) : Only b w w' := ⟨h.grown.size, fun k hk hne => h.grown.block k hk (fun e => hne (Option.some.inj e)), turned_below h (Nat.le_refl _) (Nat.le_of_lt hb)⟩
set_option maxRecDepth 100000 in
set_option maxHeartbeats 16000000 in
theorem merge_any (x : Option Addr) (cap : Nat) (l : List Ob) (w : World) (hE : ES w) (hl : SlA w x l) (hm : l.length ≤ 1000000) (hb : OBs l) :
    Calls Tryz.prog 10 #[.slice x l.length cap] w (MergePost l w) := by
  have HL := Lib.hid (fun w' (h : Below w.heap.size w w') => hl.below h)
  have HE := Lib.hid (fun w' (h : Below w.heap.size w w') => hE.below h)
  have SO := Lib.hid (sort_any x cap l w hE hl hm hb)
  have hmm := @run_makeMap Tryz.prog
  obtain ⟨n, hnl⟩ : ∃ n, l.length = n := ⟨_, rfl⟩
  by_cases hz : allC l = 0
  · have n5 : n ≤ 500 := by have := (allC_ok hz).1; omega
    have KEYS := Lib.hid (fun i (h : i < l.length) => good_key ((allC_ok hz).2 _ (List.getElem_mem h)) (hb i h))
    have ZK := Lib.hid (fun i (h : i ≤ l.length) => kept_ok hz i h)
    have KB : Hid (OBs (keptTo l n)) := Lib.hid (fun i hi => by
      obtain ⟨j, hj, _, _, e⟩ := keptTo_mem (List.getElem_mem hi)
      rw [← e]
      exact hb j hj)
    have FIN : Hid (∀ y, y.Perm (keptTo l n) → ordL y → MergeIs l y (dropTo l n) 0) := Lib.hid (fun y h g => by
      subst hnl
      exact Or.inl ⟨hz, h, g, rfl, rfl⟩)
    have LN := Lib.hid (fun i => keptTo_len l i)
    rw [hnl] at SO ⊢
    have NL := Lib.hid hnl
    have HZ := Lib.hid hz
    clear hl hE hb hnl hm hz
    go_enter Tryz.func10, Tryz.ntmps10
    go_wp2_with fail
    refine SO.out.mono ?_
    rintro e w1 ⟨v0, s, c, rfl, hs, hv, hb1⟩
    obtain ⟨sa, sc, rfl, hsl⟩ := hv
    obtain ⟨sp, so, rfl⟩ : s.Perm l ∧ ordL s ∧ c = 0 := by
      rcases hs with ⟨_, h1, h2, h3⟩ | ⟨h1, _⟩
      · exact ⟨h1, h2, h3⟩
      · exact absurd HZ.out h1
    have sl : s.length = n := by rw [sp.length_eq]; exact NL.out
    rw [sl]
    have SL := Lib.hid (fun w' (h : Below w1.heap.size w1 w') => hsl.below h)
    have SP := Lib.hid sp
    have SD := Lib.hid so
    have SN := Lib.hid sl
    have B1 := Lib.hid hb1
    have SK : Hid (∀ i (h : i < s.length), goodK (kyOf (s[i]'h))) := Lib.hid (fun i h => by
      obtain ⟨j, hj, e⟩ := List.getElem_of_mem (sp.mem_iff.1 (List.getElem_mem h))
      rw [← e]
      exact KEYS.out j hj)
    clear hs hsl sp so sl hb1 SO
    have M0 := Lib.hid (OMg.made (P := Tryz.prog) (K := 65) (kv := kyV) (vv := obsV) (good := goodK) w1)
    have B2 := Lib.hid ((Below.refl w1.heap.size w1).alloc (Nat.le_refl _) (.map #[] 0))
    obtain ⟨mb, hmb⟩ : ∃ m, w1.heap.size = m := ⟨_, rfl⟩
    go_upto_region 5 with fail
    rw [hmb] at M0 B2
    try rw [hmb]
    have MB := Lib.hid hmb
    clear hmb
    obtain ⟨w2, hw2⟩ : ∃ v, w1.alloc (.map #[] 0) = v := ⟨_, rfl⟩
    rw [hw2] at M0 B2 ⊢
    clear hw2
    go_wp2_with fail
    go_loopw [28] (fun i wr => ∃ (j : Nat) (f : Ky → Option Ob), j ≤ n ∧ i = .int .i64 j ∧ Hid (OM wr mb j f) ∧ Hid (∀ k, BstOf (s.take j) k (f k)) ∧ Hid (Below mb w1 wr)) (fun i _ => n - (intOf i).toNat)
    case atStart => exact ⟨0, fun _ => none, Nat.zero_le _, rfl, M0, Lib.hid (fun k => BstOf.nil k), B2⟩
    case round =>
      obtain ⟨j, f, hj, rfl, M, H, B⟩ := hrel
      clear M0 B2
      by_cases hlt : j < n
      · have hjl : j < s.length := by rw [SN.out]; exact hlt
        have BW : Below w1.heap.size w1 wr := by rw [MB.out]; exact B.out
        obtain ⟨b, off, rfl, lt, row⟩ := (SL.out _ BW).get hjl
        have R := Lib.hid (row j hjl)
        have GK := Lib.hid (SK.out j hjl)
        obtain ⟨o, ho⟩ : ∃ o, s[j]'hjl = o := ⟨_, rfl⟩
        have HO := Lib.hid ho
        rw [ho] at R GK
        have i1 : (j : Int) < (n : Int) := by omega
        have n6 : j < 1000000 := by omega
        have NLT := Lib.hid n6
        have LE := Lib.hid (show mb ≤ wr.heap.size by rw [← MB.out]; exact BW.size)
        clear row lt BW ho KEYS SK n6
        have r8 := Rw.new wr (obsC o) 33
        have l8 := (Below.refl wr.heap.size wr).alloc (Nat.le_refl _) (.cells (obsC o).toArray 33)
        obtain ⟨v1, hv1⟩ : ∃ v, wr.alloc (.cells (obsC o).toArray 33) = v := ⟨_, rfl⟩
        rw [hv1] at r8 l8
        have V1 := Lib.hid hv1
        have R8 := Lib.hid r8
        have L8 := Lib.hid l8
        clear r8 l8 hv1
        go_upto_region 8 with (first | (refine wpList_store_new rfl _ (.tmp 8) (.tmp 31) rfl _ _ rfl rfl info8 rfl ?_ ?_; simp [Value.oneCell']) | (refine wpList_load_mid rfl _ (.tmp 30) rfl b (off + j * 8) rfl (obsC o) _ R.out Tryz.underlying33 rfl info8 ?_))
        rw [show wr.alloc (.cells #[.string o.name, .string o.site, .int .i64 o.t, .int .i64 o.ra, .int .i64 o.dec, .int .i64 o.sg, .int .i64 o.mag, .int .u8 o.band] 33) = v1 from V1.out]
        clear V1 R
        have c0 := R8.out.cell (j := 0) (v := _) rfl
        have c1 := R8.out.cell (j := 1) (v := _) rfl
        have c2 := R8.out.cell (j := 2) (v := _) rfl
        have r9 := Rw.new v1 (kyC (kyOf o)) 65
        have l9 := (Below.refl v1.heap.size v1).alloc (Nat.le_refl _) (.cells (kyC (kyOf o)).toArray 65)
        obtain ⟨v2, hv2⟩ : ∃ v, v1.alloc (.cells (kyC (kyOf o)).toArray 65) = v := ⟨_, rfl⟩
        rw [hv2] at r9 l9
        obtain ⟨q1, hq1⟩ : ∃ q, v1.heap.size = q := ⟨_, rfl⟩
        have r9' : Rw v2 q1 (kyC (kyOf o)) := by rw [← hq1]; exact r9
        have V2 := Lib.hid hv2
        have R9 := Lib.hid r9'
        have L9 := Lib.hid (below_then L8.out l9)
        have R8b := Lib.hid (R8.out.call l9)
        clear r9 r9' l9 hv2 L8 R8
        go_upto_region 9 with (refine wpList_store_new rfl _ (.tmp 9) (.tmp 38) rfl _ (kyC (kyOf o)).toArray rfl rfl infoKy rfl ?_ ?_; simp [Value.oneCell'])
        rw [show v1.alloc (.cells #[.string o.name, .string o.site, .int .i64 o.t] 65) = v2 from V2.out]
        clear V2
        have M2 := Lib.hid (M.out.below L9.out)
        cases hf : f (kyOf o) with
        | none =>
          have HF := Lib.hid hf
          have H2 := Lib.hid (bsts_first hjl HO.out H.out hf)
          clear hf H
          have r10 := Rw.new v2 (obsC zeroO) 33
          have l10 := (Below.refl v2.heap.size v2).alloc (Nat.le_refl _) (.cells (obsC zeroO).toArray 33)
          obtain ⟨v3, hv3⟩ : ∃ v, v2.alloc (.cells (obsC zeroO).toArray 33) = v := ⟨_, rfl⟩
          rw [hv3] at r10 l10
          have V3 := Lib.hid hv3
          have R10 := Lib.hid r10
          have L10 := Lib.hid (below_then L9.out l10)
          have R8c := Lib.hid (R8b.out.call l10)
          have R9c := Lib.hid (R9.out.call l10)
          have M3 := Lib.hid (M2.out.below l10)
          clear r10 l10 hv3
          go_upto_region 10 with (first | (refine wpList_load_mid rfl _ (.tmp 9) rfl q1 0 rfl (kyC (kyOf o)) _ R9.out.row Tryz.underlying65 rfl infoKy ?_) | (at_lookup; refine wp_mlook_no _ rfl (.tmp 40) (.tmp 41) rfl mapK rfl M2.out (kyOf o) rfl GK.out HF.out ?_) | (refine wpList_store_new rfl _ (.tmp 10) (.tmp 43) rfl _ _ rfl rfl info8 rfl ?_ ?_; simp [Value.oneCell']))
          rw [show v2.alloc (.cells #[.string zeroO.name, .string zeroO.site, .int .i64 zeroO.t, .int .i64 zeroO.ra, .int .i64 zeroO.dec, .int .i64 zeroO.sg, .int .i64 zeroO.mag, .int .u8 zeroO.band] 33) = v3 from V3.out]
          clear V3 M2 L9 R8b R9
          go_wp2_with (first | (refine wpList_load_mid rfl _ (.tmp 9) rfl q1 0 rfl (kyC (kyOf o)) _ R9c.out.row Tryz.underlying65 rfl infoKy ?_) | (refine wpList_load_mid rfl _ (.tmp 8) rfl wr.heap.size 0 rfl (obsC o) _ R8c.out.row Tryz.underlying33 rfl info8 ?_) | (at_mapUpdate; refine wp_mstore _ rfl (.tmp 54) (.tmp 55) (.tmp 56) rfl mapK rfl M3.out (kyOf o) rfl GK.out o rfl NLT.out ?_; intro w6 hm6 ht6))
          have B6 := Lib.hid ((B.out.trans (L10.out.mono LE.out)).trans (turned_below ht6 (Nat.le_refl _) (Nat.le_trans LE.out L10.out.size)))
          have M6 := Lib.hid hm6
          clear hm6 ht6 M3 L10 R10 R8c R9c B M
          go_wp2_with fail
          go_roundw
          case rel => exact ⟨j + 1, _, by omega, by go_num, M6, H2, B6⟩
          case measure => simp [intOf]; omega
        | some b0 =>
          have HF := Lib.hid hf
          have r10 := Rw.new v2 (obsC b0) 33
          have l10 := (Below.refl v2.heap.size v2).alloc (Nat.le_refl _) (.cells (obsC b0).toArray 33)
          obtain ⟨v3, hv3⟩ : ∃ v, v2.alloc (.cells (obsC b0).toArray 33) = v := ⟨_, rfl⟩
          rw [hv3] at r10 l10
          have V3 := Lib.hid hv3
          have R10 := Lib.hid r10
          have L10 := Lib.hid (below_then L9.out l10)
          have R8c := Lib.hid (R8b.out.call l10)
          have R9c := Lib.hid (R9.out.call l10)
          have M3 := Lib.hid (M2.out.below l10)
          clear r10 l10 hv3
          go_upto_region 10 with (first | (refine wpList_load_mid rfl _ (.tmp 9) rfl q1 0 rfl (kyC (kyOf o)) _ R9.out.row Tryz.underlying65 rfl infoKy ?_) | (at_lookup; refine wp_mlook_yes _ rfl (.tmp 40) (.tmp 41) rfl mapK rfl M2.out (kyOf o) rfl GK.out _ HF.out ?_) | (refine wpList_store_new rfl _ (.tmp 10) (.tmp 43) rfl _ _ rfl rfl info8 rfl ?_ ?_; simp [Value.oneCell']))
          rw [show v2.alloc (.cells #[.string b0.name, .string b0.site, .int .i64 b0.t, .int .i64 b0.ra, .int .i64 b0.dec, .int .i64 b0.sg, .int .i64 b0.mag, .int .u8 b0.band] 33) = v3 from V3.out]
          clear V3 M2 L9 R8b R9
          have d5 := R8c.out.cell (j := 5) (v := _) rfl
          have e5 := R10.out.cell (j := 5) (v := _) rfl
          by_cases g : o.sg < b0.sg
          · have H2 := Lib.hid (bsts_less hjl HO.out H.out hf g)
            clear hf H
            go_wp2_with (first | (refine wpList_load_mid rfl _ (.tmp 9) rfl q1 0 rfl (kyC (kyOf o)) _ R9c.out.row Tryz.underlying65 rfl infoKy ?_) | (refine wpList_load_mid rfl _ (.tmp 8) rfl wr.heap.size 0 rfl (obsC o) _ R8c.out.row Tryz.underlying33 rfl info8 ?_) | (at_mapUpdate; refine wp_mstore _ rfl (.tmp 54) (.tmp 55) (.tmp 56) rfl mapK rfl M3.out (kyOf o) rfl GK.out o rfl NLT.out ?_; intro w6 hm6 ht6))
            have B6 := Lib.hid ((B.out.trans (L10.out.mono LE.out)).trans (turned_below ht6 (Nat.le_refl _) (Nat.le_trans LE.out L10.out.size)))
            have M6 := Lib.hid hm6
            clear hm6 ht6 M3 L10 R10 R8c R9c B M
            go_wp2_with fail
            go_roundw
            case rel => exact ⟨j + 1, _, by omega, by go_num, M6, H2, B6⟩
            case measure => simp [intOf]; omega
          · have H2 := Lib.hid (bsts_keep hjl SD.out HO.out H.out hf g)
            have B6 := Lib.hid (B.out.trans (L10.out.mono LE.out))
            have M6 := Lib.hid (show OM v3 mb (j + 1) f from (M3.out.mono (Nat.le_succ j)))
            clear hf H M3 L10 R10 R8c R9c B M
            go_wp2_with fail
            go_roundw
            case rel => exact ⟨j + 1, f, by omega, by go_num, M6, H2, B6⟩
            case measure => simp [intOf]; omega
      · obtain rfl : j = n := by omega
        have tk : s.take j = s := by rw [← SN.out, List.take_length]
        have h1 := H.out
        rw [tk] at h1
        have BW : Below w1.heap.size w1 wr := by rw [MB.out]; exact B.out
        have H0 := Lib.hid (lefts_start SP.out h1)
        have B0 := Lib.hid (below_then B1.out BW)
        have M0 : Hid (M3 w.heap.size mb j f (.slice none 0 0) (keptTo l 0) (.slice none 0 0) (dropTo l 0) wr) := Lib.hid ⟨W2.nil _ _ B0.out.size, M.out, by simp [Value.ownBlock], by simp [Value.ownBlock]⟩
        have MW := Lib.hid (show w.heap.size ≤ mb by rw [← MB.out]; exact B1.out.size)
        clear h1 tk BW H B M SL SP SD SN SK B1 MB
        go_wp2_with fail
        go_loopw [2, 3, 60] (fun vk vd i wr => ∃ (k : Nat) (g : Ky → Option Ob), k ≤ j ∧ i = .int .i64 k ∧ Hid (M3 w.heap.size mb j g vk (keptTo l k) vd (dropTo l k) wr) ∧ Hid (∀ q, LeftOf l k q (g q)) ∧ Hid (Below w.heap.size w wr)) (fun _ _ i _ => j - (intOf i).toNat)
        case atStart => exact ⟨0, f, Nat.zero_le _, rfl, M0, H0, B0⟩
        case round =>
          obtain ⟨k, g, hk, rfl, M, H, B⟩ := hrel
          clear M0 H0 B0
          by_cases hlt : k < j
          · have hkl : k < l.length := by rw [NL.out]; exact hlt
            obtain ⟨b, off, rfl, lt, row⟩ := (HL.out _ B.out).get hkl
            have R := Lib.hid (row k hkl)
            have GK := Lib.hid (KEYS.out k hkl)
            obtain ⟨o, ho⟩ : ∃ o, l[k]'hkl = o := ⟨_, rfl⟩
            rw [ho] at R GK
            have YES := Lib.hid (fun h => lefts_kept hkl ho H.out h)
            have NOT := Lib.hid (fun h => lefts_dropped hkl ho H.out h)
            have i1 : (k : Int) < (j : Int) := by omega
            have ll := (LN.out k).1
            have KL := Lib.hid (show (keptTo l k).length ≤ 1000000 by omega)
            have DL := Lib.hid (show (dropTo l k).length ≤ 1000000 by omega)
            have MN := Lib.hid (show mb < wr.heap.size from M.out.mp.lt)
            have LE := Lib.hid B.out.size
            clear row lt ho KEYS H ll
            have r8 := Rw.new wr (obsC o) 33
            have l8 := (Below.refl wr.heap.size wr).alloc (Nat.le_refl _) (.cells (obsC o).toArray 33)
            obtain ⟨v1, hv1⟩ : ∃ v, wr.alloc (.cells (obsC o).toArray 33) = v := ⟨_, rfl⟩
            rw [hv1] at r8 l8
            have V1 := Lib.hid hv1
            have R8 := Lib.hid r8
            have L8 := Lib.hid l8
            clear r8 l8 hv1
            go_upto_region 16 with (first | (refine wpList_store_new rfl _ (.tmp 13) (.tmp 64) rfl _ _ rfl rfl info8 rfl ?_ ?_; simp [Value.oneCell']) | (refine wpList_load_mid rfl _ (.tmp 63) rfl b (off + k * 8) rfl (obsC o) _ R.out Tryz.underlying33 rfl info8 ?_))
            rw [show wr.alloc (.cells #[.string o.name, .string o.site, .int .i64 o.t, .int .i64 o.ra, .int .i64 o.dec, .int .i64 o.sg, .int .i64 o.mag, .int .u8 o.band] 33) = v1 from V1.out]
            clear V1 R
            have c0 := R8.out.cell (j := 0) (v := _) rfl
            have c1 := R8.out.cell (j := 1) (v := _) rfl
            have c2 := R8.out.cell (j := 2) (v := _) rfl
            have r9 := Rw.new v1 (kyC (kyOf o)) 65
            have l9 := (Below.refl v1.heap.size v1).alloc (Nat.le_refl _) (.cells (kyC (kyOf o)).toArray 65)
            obtain ⟨v2, hv2⟩ : ∃ v, v1.alloc (.cells (kyC (kyOf o)).toArray 65) = v := ⟨_, rfl⟩
            rw [hv2] at r9 l9
            obtain ⟨q1, hq1⟩ : ∃ q, v1.heap.size = q := ⟨_, rfl⟩
            have r9' : Rw v2 q1 (kyC (kyOf o)) := by rw [← hq1]; exact r9
            have V2 := Lib.hid hv2
            have R9 := Lib.hid r9'
            have L9 := Lib.hid (below_then L8.out l9)
            have R8b := Lib.hid (R8.out.call l9)
            clear r9 r9' l9 hv2 L8 R8
            go_upto_region 17 with (refine wpList_store_new rfl _ (.tmp 14) (.tmp 71) rfl _ (kyC (kyOf o)).toArray rfl rfl infoKy rfl ?_ ?_; simp [Value.oneCell'])
            rw [show v1.alloc (.cells #[.string o.name, .string o.site, .int .i64 o.t] 65) = v2 from V2.out]
            clear V2 c0 c1 c2
            have M2 := Lib.hid (M.out.below L9.out)
            cases hf : g (kyOf o) with
            | none =>
              have HF := Lib.hid hf
              have NE : Hid (g (kyOf o) ≠ some o) := Lib.hid (by rw [hf]; simp)
              clear hf
              have r10 := Rw.new v2 (obsC zeroO) 33
              have l10 := (Below.refl v2.heap.size v2).alloc (Nat.le_refl _) (.cells (obsC zeroO).toArray 33)
              obtain ⟨v3, hv3⟩ : ∃ v, v2.alloc (.cells (obsC zeroO).toArray 33) = v := ⟨_, rfl⟩
              rw [hv3] at r10 l10
              have V3 := Lib.hid hv3
              have R10 := Lib.hid r10
              have L10 := Lib.hid (below_then L9.out l10)
              have R8c := Lib.hid (R8b.out.call l10)
              have R9c := Lib.hid (R9.out.call l10)
              have M3 := Lib.hid (M2.out.below l10)
              have B3 := Lib.hid (below_then B.out L10.out)
              clear r10 l10 hv3
              go_upto_region 18 with (first | (refine wpList_load_mid rfl _ (.tmp 14) rfl q1 0 rfl (kyC (kyOf o)) _ R9.out.row Tryz.underlying65 rfl infoKy ?_) | (at_lookup; refine wp_mlook_no _ rfl (.tmp 73) (.tmp 74) rfl mapK rfl M2.out.mp (kyOf o) rfl GK.out HF.out ?_) | (refine wpList_store_new rfl _ (.tmp 15) (.tmp 76) rfl _ _ rfl rfl info8 rfl ?_ ?_; simp [Value.oneCell']))
              rw [show v2.alloc (.cells #[.string zeroO.name, .string zeroO.site, .int .i64 zeroO.t, .int .i64 zeroO.ra, .int .i64 zeroO.dec, .int .i64 zeroO.sg, .int .i64 zeroO.mag, .int .u8 zeroO.band] 33) = v3 from V3.out]
              clear V3 M2 L9 R8b R9 M B
              obtain ⟨H2, E1, E2⟩ := NOT.out NE.out
              have H3 := Lib.hid H2
              have E3 := Lib.hid E1
              have E4 := Lib.hid E2
              have TW := Lib.hid M3.out.two
              clear H2 E1 E2 YES NOT NE HF R8c R9c R10 L10
              go_wp2_with (at_builtin; refine wp_drop _ rfl (.tmp 85) (.tmp 87) rfl w.heap.size _ _ (keptTo l k) (dropTo l k) k rfl (by first | rfl | simp [Act.eval]) TW.out DL.out ?_; intro v' w7 h7 hg7 hat7 hb7)
              have M7 := Lib.hid (M3.out.drop h7 hg7 hat7)
              have B7 := Lib.hid (B3.out.trans hb7)
              clear h7 hg7 hat7 hb7 M3 B3 TW
              go_wp2_with fail
              go_roundw
              case rel => exact ⟨k + 1, g, by omega, by go_num, Lib.hid (by rw [E3.out, E4.out]; exact M7.out), H3, B7⟩
              case measure => simp [intOf]; omega
            | some b0 =>
              have HF := Lib.hid hf
              have r10 := Rw.new v2 (obsC b0) 33
              have l10 := (Below.refl v2.heap.size v2).alloc (Nat.le_refl _) (.cells (obsC b0).toArray 33)
              obtain ⟨v3, hv3⟩ : ∃ v, v2.alloc (.cells (obsC b0).toArray 33) = v := ⟨_, rfl⟩
              rw [hv3] at r10 l10
              have V3 := Lib.hid hv3
              have R10 := Lib.hid r10
              have L10 := Lib.hid (below_then L9.out l10)
              have R8c := Lib.hid (R8b.out.call l10)
              have R9c := Lib.hid (R9.out.call l10)
              have M3 := Lib.hid (M2.out.below l10)
              have B3 := Lib.hid (below_then B.out L10.out)
              clear r10 l10 hv3
              go_upto_region 18 with (first | (refine wpList_load_mid rfl _ (.tmp 14) rfl q1 0 rfl (kyC (kyOf o)) _ R9.out.row Tryz.underlying65 rfl infoKy ?_) | (at_lookup; refine wp_mlook_yes _ rfl (.tmp 73) (.tmp 74) rfl mapK rfl M2.out.mp (kyOf o) rfl GK.out _ HF.out ?_) | (refine wpList_store_new rfl _ (.tmp 15) (.tmp 76) rfl _ _ rfl rfl info8 rfl ?_ ?_; simp [Value.oneCell']))
              rw [show v2.alloc (.cells #[.string b0.name, .string b0.site, .int .i64 b0.t, .int .i64 b0.ra, .int .i64 b0.dec, .int .i64 b0.sg, .int .i64 b0.mag, .int .u8 b0.band] 33) = v3 from V3.out]
              clear V3 M2 L9 R8b R9 M B
              have d0 := R8c.out.cell (j := 0) (v := _) rfl
              have d1 := R8c.out.cell (j := 1) (v := _) rfl
              have d2 := R8c.out.cell (j := 2) (v := _) rfl
              have d3 := R8c.out.cell (j := 3) (v := _) rfl
              have d4 := R8c.out.cell (j := 4) (v := _) rfl
              have d5 := R8c.out.cell (j := 5) (v := _) rfl
              have d6 := R8c.out.cell (j := 6) (v := _) rfl
              have d7 := R8c.out.cell (j := 7) (v := _) rfl
              have e0 := R10.out.cell (j := 0) (v := _) rfl
              have e1 := R10.out.cell (j := 1) (v := _) rfl
              have e2 := R10.out.cell (j := 2) (v := _) rfl
              have e3 := R10.out.cell (j := 3) (v := _) rfl
              have e4 := R10.out.cell (j := 4) (v := _) rfl
              have e5 := R10.out.cell (j := 5) (v := _) rfl
              have e6 := R10.out.cell (j := 6) (v := _) rfl
              have e7 := R10.out.cell (j := 7) (v := _) rfl
              by_cases eo : b0 = o
              · have EQ : ∀ w', (Go.Op.equalIn 10000 33 (.agg #[.string b0.name, .string b0.site, .int .i64 b0.t, .int .i64 b0.ra, .int .i64 b0.dec, .int .i64 b0.sg, .int .i64 b0.mag, .int .u8 b0.band]) (.agg #[.string o.name, .string o.site, .int .i64 o.t, .int .i64 o.ra, .int .i64 o.dec, .int .i64 o.sg, .int .i64 o.mag, .int .u8 o.band])).run Tryz.prog w' = .ok true w' := fun w' => by
                  have := obs_eql b0 o w'
                  rw [decide_eq_true eo] at this
                  exact this
                obtain ⟨H2, E1, E2⟩ := YES.out (by rw [hf, eo])
                have H3 := Lib.hid H2
                have E3 := Lib.hid E1
                have E4 := Lib.hid E2
                clear H2 E1 E2 YES NOT hf eo
                go_upto_region 20 with fail
                clear EQ d0 e0 d1 e1 d2 e2 d3 e3 d4 e4 d5 e5 d6 e6 d7 e7
                go_upto_region 21 with (first | (refine wpList_load_mid rfl _ (.tmp 14) rfl q1 0 rfl (kyC (kyOf o)) _ R9c.out.row Tryz.underlying65 rfl infoKy ?_) | (at_delete; refine wp_mdrop _ rfl (.tmp 89) (.tmp 90) rfl mapK rfl M3.out.mp (kyOf o) rfl GK.out ?_; intro w6 hm6 ht6))
                have ltm := M3.out.mp.lt
                have R11 := Lib.hid (R8c.out.only (turned_only ht6 ltm) (Nat.ne_of_gt MN.out))
                have M6 := Lib.hid (M3.out.turned ht6 hm6)
                have B6 := Lib.hid (B3.out.trans (turned_below ht6 MW.out (Nat.le_trans MW.out (Nat.le_of_lt ltm))))
                have TW := Lib.hid M6.out.two
                clear hm6 ht6 ltm M3 B3 R8c R9c R10 L10
                go_wp2_with (first | (refine wpList_load_mid rfl _ (.tmp 13) rfl wr.heap.size 0 rfl (obsC o) _ R11.out.row Tryz.underlying33 rfl info8 ?_) | (at_builtin; refine wp_keep _ rfl (.tmp 91) (.tmp 93) rfl w.heap.size _ _ (keptTo l k) (dropTo l k) o rfl (by first | rfl | simp [Act.eval]) TW.out KL.out ?_; intro v' w7 h7 hg7 hat7 hb7))
                have M7 := Lib.hid (M6.out.keep h7 hg7 hat7)
                have B7 := Lib.hid (B6.out.trans hb7)
                clear h7 hg7 hat7 hb7 M6 B6 TW R11
                go_wp2_with fail
                go_roundw
                case rel => exact ⟨k + 1, _, by omega, by go_num, Lib.hid (by rw [E3.out, E4.out]; exact M7.out), H3, B7⟩
                case measure => simp [intOf]; omega
              · have EQ : ∀ w', (Go.Op.equalIn 10000 33 (.agg #[.string b0.name, .string b0.site, .int .i64 b0.t, .int .i64 b0.ra, .int .i64 b0.dec, .int .i64 b0.sg, .int .i64 b0.mag, .int .u8 b0.band]) (.agg #[.string o.name, .string o.site, .int .i64 o.t, .int .i64 o.ra, .int .i64 o.dec, .int .i64 o.sg, .int .i64 o.mag, .int .u8 o.band])).run Tryz.prog w' = .ok false w' := fun w' => by
                  have := obs_eql b0 o w'
                  rw [decide_eq_false eo] at this
                  exact this
                have NE : Hid (g (kyOf o) ≠ some o) := Lib.hid (by rw [hf]; exact fun h => eo (Option.some.inj h))
                clear hf eo
                go_upto_region 19 with fail
                clear EQ d0 e0 d1 e1 d2 e2 d3 e3 d4 e4 d5 e5 d6 e6 d7 e7
                obtain ⟨H2, E1, E2⟩ := NOT.out NE.out
                have H3 := Lib.hid H2
                have E3 := Lib.hid E1
                have E4 := Lib.hid E2
                have TW := Lib.hid M3.out.two
                clear H2 E1 E2 YES NOT NE HF R8c R9c R10 L10
                go_wp2_with (at_builtin; refine wp_drop _ rfl (.tmp 85) (.tmp 87) rfl w.heap.size _ _ (keptTo l k) (dropTo l k) k rfl (by first | rfl | simp [Act.eval]) TW.out DL.out ?_; intro v' w7 h7 hg7 hat7 hb7)
                have M7 := Lib.hid (M3.out.drop h7 hg7 hat7)
                have B7 := Lib.hid (B3.out.trans hb7)
                clear h7 hg7 hat7 hb7 M3 B3 TW
                go_wp2_with fail
                go_roundw
                case rel => exact ⟨k + 1, g, by omega, by go_num, Lib.hid (by rw [E3.out, E4.out]; exact M7.out), H3, B7⟩
                case measure => simp [intOf]; omega
          · obtain rfl : k = j := by omega
            have hsv := slV_of M.out.two.kp.1
            have IV := Lib.hid (Own1.intV M.out.two.dp)
            obtain ⟨ka, kc, rfl, hsl⟩ := hsv
            have zk : (keptTo l k).length ≤ 1000000 := by have := (LN.out k).1; omega
            have SO := Lib.hid (sort_any ka kc (keptTo l k) wr (HE.out _ B.out) hsl zk KB.out)
            have KZ := Lib.hid (ZK.out k (by have := NL.out; omega))
            clear hsl M H HL HE KEYS ZK KB LN zk
            go_wp2_with fail
            refine SO.out.mono ?_
            rintro e w8 ⟨v8, y, c, rfl, hs, hv, hb8⟩
            obtain ⟨sp, so, rfl⟩ : y.Perm (keptTo l k) ∧ ordL y ∧ c = 0 := by
              rcases hs with ⟨_, h1, h2, h3⟩ | ⟨h1, _⟩
              · exact ⟨h1, h2, h3⟩
              · exact absurd KZ.out h1
            have F := Lib.hid (FIN.out y sp so)
            have V8 := Lib.hid hv
            have I8 := Lib.hid (IV.out.below hb8)
            have B8 := Lib.hid (below_then B.out hb8)
            clear hs hv hb8 sp so IV B SO FIN KZ
            go_wp2_with fail
            go_ret3
            exact ⟨_, _, y, _, 0, rfl, F.out, V8.out, I8.out, B8.out⟩
  · have FIN := Lib.hid (show MergeIs l [] [] (allC l) from Or.inr ⟨hz, rfl, rfl, rfl⟩)
    have hnz : (allC l != 0) = true := by rw [bne, beq_eq_false_iff_ne.2 hz]; rfl
    have SA : Hid (∀ y c, SortIs l y c → c = allC l) := Lib.hid (fun y c h => by
      rcases h with ⟨h, _⟩ | ⟨_, _, h⟩
      · exact absurd h hz
      · exact h)
    clear hl hE hb hnl hm HL HE hz
    generalize allC l = K at *
    go_enter Tryz.func10, Tryz.ntmps10
    go_wp2_with fail
    refine SO.out.mono ?_
    rintro e w1 ⟨v0, s, c, rfl, hs, hv, hb1⟩
    obtain rfl := SA.out s c hs
    have B1 := Lib.hid hb1
    clear hs hv hb1 SO SA
    go_wp2_with fail
    go_ret3
    exact ⟨_, _, [], [], _, rfl, FIN.out, SlV.nil _, IntV.nil _, B1.out⟩
end Vw
end Go.Proofs.YtaghilgfldaaiaaGreatDoor
/-
  Plain law of observations: inserting one into a sorted list; the row of memory behind an exchange.
-/
namespace Go.Proofs.YtaghilgfldaaiaaGreatDoor
namespace Ow
open Go.RowKit Lw Go.Proofs.YtaghilgfldaaiaaGreatDoor.Ap Go.Proofs.YtaghilgfldaaiaaGreatDoor.Op Go.Proofs.YtaghilgfldaaiaaGreatDoor.Mp Go.Proofs.YtaghilgfldaaiaaGreatDoor.Mw Go.Proofs.YtaghilgfldaaiaaGreatDoor.At

/-- All in order but what stands at j. -/
def Ins (y : List Ob) (j : Nat) : Prop := ∀ a b (_ : a < b) (hb : b < y.length), b ≠ j → cmpO (y[a]'(by omega)) y[b] ≤ 0
def swapO (y : List Ob) (m j : Nat) (hm : m < y.length) (hj : j < y.length) : List Ob := (y.set m y[j]).set j y[m]
theorem swapO_len (y : List Ob) (m j : Nat) (hm : m < y.length) (hj : j < y.length) : (swapO y m j hm hj).length = y.length := by simp [swapO]
theorem swapO_perm (y : List Ob) (m j : Nat) (hm : m < y.length) (hj : j < y.length) : (swapO y m j hm hj).Perm y := List.set_set_perm hm hj
theorem swapO_get (y : List Ob) (m j : Nat) (hm : m < y.length) (hj : j < y.length) (i : Nat) (hi : i < y.length) : (swapO y m j hm hj)[i]'(by rw [swapO_len]; exact hi) = if i = j then y[m] else if i = m then y[j] else y[i] := by
  unfold swapO
  rw [List.getElem_set]
  by_cases h : j = i
  · rw [if_pos h, if_pos h.symm]
  · rw [if_neg h, if_neg (fun e => h e.symm), List.getElem_set]
    by_cases g : m = i
    · rw [if_pos g, if_pos g.symm]
    · rw [if_neg g, if_neg (fun e => g e.symm)]
theorem ins_start {y : List Ob} {o : Ob} (h : ordL y) : Ins (y ++ [o]) y.length := fun a b hab hb hne => by
  have hb' : b < y.length := by simp at hb; omega
  rw [List.getElem_append_left (by omega), List.getElem_append_left hb']
  exact (List.pairwise_iff_getElem.1 h) a b (by omega) hb' hab
theorem ins_step {y : List Ob} {m j : Nat} (h : Ins y j) (e : j = m + 1) (hj : j < y.length) (g : 0 < cmpO (y[m]'(by omega)) y[j]) : Ins (swapO y m j (by omega) hj) m := fun a b hab hb hne => by
  have hb' : b < y.length := by rw [swapO_len] at hb; exact hb
  rw [swapO_get y m j _ hj a (by omega), swapO_get y m j _ hj b hb']
  by_cases hbj : b = j
  · rw [if_pos hbj, if_neg (show ¬ a = j by omega)]
    by_cases ham : a = m
    · rw [if_pos ham]
      have := cmp_O.anti (y[m]'(by omega)) y[j]
      omega
    · rw [if_neg ham]
      exact h a m (by omega) (by omega) (by omega)
  · rw [if_neg hbj, if_neg hne]
    by_cases haj : a = j
    · rw [if_pos haj]
      exact h m b (by omega) hb' hbj
    · rw [if_neg haj]
      by_cases ham : a = m
      · rw [if_pos ham]
        exact h j b (by omega) hb' hbj
      · rw [if_neg ham]
        exact h a b hab hb' hbj
theorem ins_stop {y : List Ob} {j : Nat} (h : Ins y j) (g : j = 0 ∨ ∃ m, ∃ e : j = m + 1, ∀ hj : j < y.length, cmpO (y[m]'(by omega)) y[j] ≤ 0) : ordL y := by
  unfold ordL
  rw [List.pairwise_iff_getElem]
  intro a b ha hb hab
  by_cases hbj : b = j
  · subst hbj
    rcases g with g | ⟨m, e, g⟩
    · omega
    · have g := g hb
      by_cases ham : a = m
      · subst ham; exact g
      · exact cmp_O.trans _ _ _ (h a m (by omega) (by omega) (by omega)) g
  · exact h a b hab hb hbj
theorem setCells_block {e : TypeId} {fr : Nat × Nat} {g : Nat} : ∀ (vs : List Value) (o : Nat) (w : World) (cur : Array Value), w.heap[g]? = some (.cells cur e fr) → ∃ cur', (w.setCells g o vs).heap[g]? = some (.cells cur' e fr) ∧ cur'.size = cur.size ∧ ∀ t, t < cur.size → cur'[t]? = if o ≤ t ∧ t < o + vs.length then vs[t - o]? else cur[t]?
  | [], o, w, cur, h => ⟨cur, h, rfl, fun t _ => by rw [if_neg (by simp)]⟩
  | v :: r, o, w, cur, h => by
    have h1 : (w.setCell ⟨g, o, none⟩ v).heap[g]? = some (.cells (cur.setIfInBounds o v) e fr) := by
      simp [World.setCell, Array.getElem?_modify, h]
    obtain ⟨cur', g1, g2, g3⟩ := setCells_block r (o + 1) _ _ h1
    refine ⟨cur', g1, by rw [g2]; simp, fun t ht => ?_⟩
    rw [g3 t (by simpa using ht)]
    simp only [List.length_cons]
    by_cases c1 : t = o
    · subst c1
      rw [if_neg (by omega), if_pos (by omega), Nat.sub_self]
      simp [ht]
    · by_cases c2 : o + 1 ≤ t ∧ t < o + 1 + r.length
      · rw [if_pos c2, if_pos (by omega)]
        rw [show t - o = (t - (o + 1)) + 1 by omega]
        rfl
      · rw [if_neg c2, if_neg (by omega)]
        rw [Array.getElem?_setIfInBounds_ne (by omega)]
theorem flatO_set {y : List Ob} {i : Nat} (hi : i < y.length) (q : Ob) (t : Nat) (ht : t < y.length * 8) : (flatO (y.set i q))[t]? = if i * 8 ≤ t ∧ t < i * 8 + 8 then (obsC q)[t - i * 8]? else (flatO y)[t]? := by
  have hk : t / 8 < y.length := by omega
  have hj : t % 8 < 8 := Nat.mod_lt _ (by omega)
  have et : t / 8 * 8 + t % 8 = t := by omega
  have cell : ∀ (l : List Ob) (hl : t / 8 < l.length), (flatO l)[t]? = (obsC l[t / 8])[t % 8]? := fun l hl => by
    have hj2 : t % 8 < (obsC l[t / 8]).length := hj
    rw [List.getElem?_eq_getElem hj2]
    have := flatO_get hl (List.getElem?_eq_getElem hj2)
    rwa [et] at this
  rw [cell _ (by simpa using hk), cell y hk, List.getElem_set]
  by_cases h : i = t / 8
  · rw [if_pos h, if_pos (by omega)]
    congr 1
    omega
  · rw [if_neg h, if_neg (by omega)]
theorem own_set {w : World} {B g cap : Nat} {y : List Ob} (h : OwnO w B (.slice (some ⟨g, 0, none⟩) y.length cap) y) {i : Nat} (hi : i < y.length) (q : Ob) : OwnO (w.setCells g (i * 8) (obsC q)) B (.slice (some ⟨g, 0, none⟩) y.length cap) (y.set i q) := by
  obtain ⟨⟨h1, h2⟩, hB⟩ := h
  rcases h2 with ⟨hv, _⟩ | ⟨g', cap', cur, hv, hb, hh, hc1, hc2, hs, ht⟩
  · cases hv
  · have eg : g = g' := by
      have := congrArg (fun v => match v with | Value.slice (some a) _ _ => a.block | _ => 0) hv
      exact this
    have ec : cap = cap' := by
      have := congrArg (fun v => match v with | Value.slice (some _) _ c => c | _ => 0) hv
      exact this
    subst eg ec
    obtain ⟨cur', g1, g2, g3⟩ := setCells_block (obsC q) (i * 8) w cur hh
    have hz : (w.setCells g (i * 8) (obsC q)).heap.size = w.heap.size := sets_size g (obsC q) (i * 8) w
    refine ⟨⟨by rw [flatO_len, List.length_set], Or.inr ⟨g, cap, cur', by rw [List.length_set], hb, g1, by rw [List.length_set]; exact hc1, hc2, by rw [g2]; exact hs, ?_⟩⟩, by rw [hz]; exact hB⟩
    rw [List.length_set]
    apply List.ext_getElem?
    intro t
    by_cases c : t < y.length * 8
    · have ct : t < cur.size := by
        have : y.length * 8 ≤ cap * 8 := Nat.mul_le_mul_right 8 hc1
        omega
      rw [List.getElem?_take_of_lt c, Array.getElem?_toList, g3 t ct, flatO_set hi q t c]
      have e0 : (flatO y)[t]? = cur[t]? := by
        rw [← ht, List.getElem?_take_of_lt c, Array.getElem?_toList]
      rw [e0]
      rfl
    · rw [List.getElem?_eq_none (by rw [List.length_take]; omega), List.getElem?_eq_none (by rw [flatO_len, List.length_set]; omega)]
theorem own_swap {w : World} {B g cap : Nat} {y : List Ob} (h : OwnO w B (.slice (some ⟨g, 0, none⟩) y.length cap) y) {m j : Nat} (hm : m < y.length) (hj : j < y.length) : OwnO ((w.setCells g (m * 8) (obsC y[j])).setCells g (j * 8) (obsC y[m])) B (.slice (some ⟨g, 0, none⟩) y.length cap) (swapO y m j hm hj) := by
  have h1 := own_set h hm y[j]
  have e : y.length = (y.set m y[j]).length := by simp
  rw [e] at h1
  have h2 := own_set h1 (i := j) (by rw [← e]; exact hj) y[m]
  rw [← e] at h2
  exact h2
theorem own_row {w : World} {B g cap : Nat} {y : List Ob} (h : OwnO w B (.slice (some ⟨g, 0, none⟩) y.length cap) y) {i : Nat} (hi : i < y.length) : w.rangeAt g (i * 8) (obsC y[i]) ∧ w.there g (i * 8) 8 := by
  have ho := h
  obtain ⟨⟨h1, h2⟩, hB⟩ := h
  rcases owns_form ho.1 with ⟨rfl, _⟩ | ⟨g', cap', hv, hb, lt, hr⟩
  · simp at hi
  · have eg : g = g' := by
      have := congrArg (fun v => match v with | Value.slice (some a) _ _ => a.block | _ => 0) hv
      exact this
    subst eg
    have r := hr i hi
    rw [Nat.zero_add] at r
    refine ⟨r, fun t ht => ⟨r.isSome t ht, ?_⟩⟩
    rcases h2 with ⟨hv, _⟩ | ⟨g', cap', cur, hv, hb, hh, _⟩
    · cases hv
    · have eg : g = g' := by
        have := congrArg (fun v => match v with | Value.slice (some a) _ _ => a.block | _ => 0) hv
        exact this
      subst eg
      exact Lib.frozen_of_heap hh _
end Ow
end Go.Proofs.YtaghilgfldaaiaaGreatDoor
