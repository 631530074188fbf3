/-
  Lemmas and walks, texts joined: KHex, KRd, KAllPl, OCheck, Shelf2, TPad, TClk, PRRa, PDSpec, Pl, TTurn, TRa, OMag, OBlank, OTrim, PTrim.
-/
import Derived.StillTailTactics
import Derived.Laws.Cover4
import Derived.Deep.QuietTactic
import Derived.BigQuiet
import Derived.Deep.Cut
import Derived.Lib.SmallJoins
import Derived.Lib.LaidTab
import Derived.Laws.Concat
import Derived.Lib.Join
import Derived.Lib.Repeat
import Derived.Lib.ItoaLen
import Derived.Sort.Grow
import Derived.Deep.OwnRows
import Derived.WalkKit
import Derived.ProofKit
import Derived.Outline
import Derived.Lib.Hide
import Derived.WalkLawsBesides
import Derived.WalkSpells
import Derived.Test.YtafeigpmldgifaaDoorKt06
import Derived.Test.YtafeigpmldgifaaDoorKt04
import Derived.Test.YtafeigpmldgifaaDoorKt03
import Derived.Test.YtafeigpmldgifaaDoorKt02
import Derived.Test.YtafeigpmldgifaaDoorKt05
import Derived.Test.YtafeigpmldgifaaDoorKt01
import Derived.Test.YtafeigpmldgifaaDoorRows
set_option linter.unusedSimpArgs false
set_option linter.unusedVariables false
/-
  The walks of Sum and Hex of archive.
-/
namespace Go.Proofs.YtafeigpmldgifaaDoor
namespace Arw
open Go.RowKit Lw Go.Proofs.YtafeigpmldgifaaDoor.Arp

/-- A digest as a value. -/
abbrev digV (l : List Nat) : Value := .agg (l.map fun (x : Nat) => Value.int .u8 (x : Int)).toArray
theorem held_by8 {s : ByteArray} {B : Nat} {w : World} (h : Ap.Held s B w) : ∀ j v, (by8L s.data.toList)[j]? = some v → w.cell? ⟨B, 0 + j, none⟩ = some v := fun j v hv => by
  have hj : j < s.size := by
    have := (List.getElem?_eq_some_iff.1 hv).1
    rw [by8_len] at this
    exact this
  rw [Nat.zero_add, h.2 j hj]
  unfold by8L at hv
  rw [List.getElem?_map, Array.getElem?_toList, Array.getElem?_eq_getElem hj] at hv
  exact hv
theorem digest_len (b : List UInt8) : (digestL b).length = 32 := by unfold digestL; rw [List.length_map, List.length_range]
set_option maxRecDepth 100000 in
set_option maxHeartbeats 4000000 in
theorem sum_any (s : ByteArray) (w : World) (hs : s.size ≤ 1000000) (hk : Keys w) :
    Calls Tryd.prog 11 #[.string s] w fun e w' => e = .returned (digV (digestL s.data.toList)) ∧ Below w.heap.size w w' := by
  obtain ⟨W, cap, hcv, hH, hB, _⟩ := Ap.bytes_in (w.alloc (.cells #[.int .u8 0, .int .u8 0, .int .u8 0, .int .u8 0, .int .u8 0, .int .u8 0, .int .u8 0, .int .u8 0, .int .u8 0, .int .u8 0, .int .u8 0, .int .u8 0, .int .u8 0, .int .u8 0, .int .u8 0, .int .u8 0, .int .u8 0, .int .u8 0, .int .u8 0, .int .u8 0, .int .u8 0, .int .u8 0, .int .u8 0, .int .u8 0, .int .u8 0, .int .u8 0, .int .u8 0, .int .u8 0, .int .u8 0, .int .u8 0, .int .u8 0, .int .u8 0] 23)) s
  have e1 : (w.alloc (.cells #[.int .u8 0, .int .u8 0, .int .u8 0, .int .u8 0, .int .u8 0, .int .u8 0, .int .u8 0, .int .u8 0, .int .u8 0, .int .u8 0, .int .u8 0, .int .u8 0, .int .u8 0, .int .u8 0, .int .u8 0, .int .u8 0, .int .u8 0, .int .u8 0, .int .u8 0, .int .u8 0, .int .u8 0, .int .u8 0, .int .u8 0, .int .u8 0, .int .u8 0, .int .u8 0, .int .u8 0, .int .u8 0, .int .u8 0, .int .u8 0, .int .u8 0, .int .u8 0] 23)).heap.size = w.heap.size + 1 := by simp
  have b0 := (Below.refl w.heap.size w).alloc (Nat.le_refl _) (.cells #[.int .u8 0, .int .u8 0, .int .u8 0, .int .u8 0, .int .u8 0, .int .u8 0, .int .u8 0, .int .u8 0, .int .u8 0, .int .u8 0, .int .u8 0, .int .u8 0, .int .u8 0, .int .u8 0, .int .u8 0, .int .u8 0, .int .u8 0, .int .u8 0, .int .u8 0, .int .u8 0, .int .u8 0, .int .u8 0, .int .u8 0, .int .u8 0, .int .u8 0, .int .u8 0, .int .u8 0, .int .u8 0, .int .u8 0, .int .u8 0, .int .u8 0, .int .u8 0] 23)
  have tr : W.there w.heap.size 0 32 := there_below (there_new w #[.int .u8 0, .int .u8 0, .int .u8 0, .int .u8 0, .int .u8 0, .int .u8 0, .int .u8 0, .int .u8 0, .int .u8 0, .int .u8 0, .int .u8 0, .int .u8 0, .int .u8 0, .int .u8 0, .int .u8 0, .int .u8 0, .int .u8 0, .int .u8 0, .int .u8 0, .int .u8 0, .int .u8 0, .int .u8 0, .int .u8 0, .int .u8 0, .int .u8 0, .int .u8 0, .int .u8 0, .int .u8 0, .int .u8 0, .int .u8 0, .int .u8 0, .int .u8 0] 23 32 (by simp)) hB (by simp)
  have bW := below_then b0 hB
  rw [e1] at hcv hH
  have zs : s.data.toList.length = s.size := rfl
  have DG := Lib.hid (digest_any s.data.toList (w.heap.size + 1) 0 cap W hs (held_by8 hH) hH.1 (hk.below bW))
  rw [zs] at DG
  have F := Lib.hid (And.intro tr bW)
  have lW : w.heap.size < W.heap.size := by have := hH.1; omega
  clear hH hB b0 tr bW e1 hk zs
  have DL := digest_len s.data.toList
  generalize digestL s.data.toList = D at *
  go_enter Tryd.func11, Tryd.ntmps11
  go_wp2_with fail
  refine DG.out.mono ?_
  rintro e w2 ⟨rfl, hb⟩
  have tr := there_below F.out.1 hb lW
  have B2 := Lib.hid (below_then F.out.2 hb)
  have one : ((D.map fun (x : Nat) => Value.int .u8 (x : Int)).toArray).all (·.oneCell') = true := all_oneCell_toArray (fun v hv => by
    obtain ⟨x, _, rfl⟩ := List.mem_map.1 hv
    rfl)
  have ls : (D.map fun (x : Nat) => Value.int .u8 (x : Int)).length = 32 := by rw [List.length_map, DL]
  have HV : Hid (digV D = .agg (D.map fun (x : Nat) => Value.int .u8 (x : Int)).toArray) := Lib.hid rfl
  generalize (D.map fun (x : Nat) => Value.int .u8 (x : Int)) = V at *
  have os : V.toArray.size = 32 := by rw [List.size_toArray, ls]
  have OL := Lib.hid ls
  clear DG hb DL ls hcv
  go_wp2_with (refine wpList_store_mid rfl _ (.tmp 2) (.tmp 5) rfl w.heap.size 0 V.toArray rfl rfl (by rw [os]; exact tr) (by rw [os]; exact info32d) one ?_)
  exact bodyPost_ret (ret_cell Tryd.results11 _ _ w.heap.size V _ rfl (World.rangeAt_setCells_same w2 w.heap.size 0 V (by rw [OL.out]; exact tr)) Tryd.underlying23 rfl (by rw [OL.out]; exact info32d)) rfl ⟨by rw [HV.out], below_setCells w.heap.size (Nat.le_refl _) V 0 w2 B2.out⟩
/-- The digits. -/
def hexI (n : Nat) : Int := if n < 10 then 48 + n else 87 + n
def hexV : List Value := (List.range 16).map fun i => .int .i32 (hexI i)
def Digs (w : World) : Prop := w.rangeAt 0 0 hexV ∧ 0 < w.heap.size
theorem Digs.below {w w' : World} (h : Digs w) (hb : Below w.heap.size w w') : Digs w' := ⟨rangeAt_below h.1 hb h.2, Nat.lt_of_lt_of_le h.2 hb.size⟩
theorem Digs.cell {w : World} (h : Digs w) {i : Nat} (hi : i < 16) : w.cell? ⟨0, i, none⟩ = some (.int .i32 (hexI i)) := by
  have := h.1 i (.int .i32 (hexI i)) (by unfold hexV; rw [List.getElem?_map, List.getElem?_range hi]; rfl)
  rwa [Nat.zero_add] at this
def runesL (l : List Nat) : List Int := l.flatMap fun x => [hexI (x / 16), hexI (x % 16)]
theorem runesL_snoc (l : List Nat) (x : Nat) : runesL (l ++ [x]) = runesL l ++ [hexI (x / 16), hexI (x % 16)] := by simp [runesL]
theorem runesL_len (l : List Nat) : (runesL l).length = 2 * l.length := by
  induction l with
  | nil => rfl
  | cons a l ih => simp only [runesL, List.flatMap_cons, List.length_append, List.length_cons, List.length_nil] at ih ⊢; omega
def i32L (l : List Int) : List Value := l.map (Value.int .i32)
theorem i32L_len (l : List Int) : (i32L l).length = l.length := by unfold i32L; rw [List.length_map]
def hexB (n : Nat) : UInt8 := UInt8.ofNat (if n < 10 then 48 + n else 87 + n)
def hexL (l : List Nat) : List UInt8 := l.flatMap fun x => [hexB (x / 16), hexB (x % 16)]
theorem enc_hex : ∀ n, n < 16 → (Utf8.encode (hexI n)).data.toList = [hexB n] := by decide
theorem runes_hex (l : List Nat) (hl : ∀ x ∈ l, x < 256) : ∀ (r : ByteArray), ((runesL l).foldl (fun r n => r ++ Utf8.encode n) r).data.toList = r.data.toList ++ hexL l := by
  induction l with
  | nil => intro r; simp [runesL, hexL]
  | cons a l ih =>
    intro r
    have h1 := hl a (List.mem_cons_self ..)
    have e : runesL (a :: l) = hexI (a / 16) :: hexI (a % 16) :: runesL l := rfl
    have e2 : hexL (a :: l) = hexB (a / 16) :: hexB (a % 16) :: hexL l := rfl
    rw [e, List.foldl_cons, List.foldl_cons, ih (fun x hx => hl x (List.mem_cons_of_mem _ hx)), e2]
    simp only [ByteArray.data_append, Array.toList_append, enc_hex _ (show a / 16 < 16 by omega), enc_hex _ (Nat.mod_lt a (by decide : 0 < 16)), List.append_assoc, List.cons_append, List.nil_append]
theorem runes_str (l : List Nat) (hl : ∀ x ∈ l, x < 256) : runesBytes (runesL l) = ⟨(hexL l).toArray⟩ := by
  have := runes_hex l hl ByteArray.empty
  unfold runesBytes
  apply ByteArray.ext
  apply Array.ext'
  rw [this]
  rfl
theorem infoRune : (Tryd.prog.info? 21).map (fun i => (i.zero, i.size, i.bytes)) = some (some (.int .i32 0), 1, 4) := by kernel_rfl
structure H2 (a b : Nat) (x y : Int) (w : World) : Prop where
  c1 : w.cell? ⟨0, a, none⟩ = some (.int .i32 x)
  c2 : w.cell? ⟨0, b, none⟩ = some (.int .i32 y)
theorem H2.call {a b : Nat} {x y : Int} {w w' : World} (h : H2 a b x y w) (hb : Below w.heap.size w w') : H2 a b x y w' := ⟨cell_call h.c1 hb, cell_call h.c2 hb⟩
theorem H2.far {a b B : Nat} {x y : Int} {w w' : World} (h : H2 a b x y w) (hb : Below B w w') (hg : 0 < B) : H2 a b x y w' := ⟨by rw [hb.cell (p := ⟨_, _, none⟩) hg]; exact h.c1, by rw [hb.cell (p := ⟨_, _, none⟩) hg]; exact h.c2⟩
theorem i32L_snoc2 (l : List Int) (x y : Int) : i32L (l ++ [x, y]) = i32L l ++ [.int .i32 x, .int .i32 y] := by simp [i32L]
set_option maxRecDepth 100000 in
set_option maxHeartbeats 4000000 in
theorem hex_any (D : List Nat) (DL : D.length = 32) (lt : ∀ x ∈ D, x < 256) (w : World) (hT : Digs w) :
    Calls Tryd.prog 13 #[digV D] w fun e w' => e = .returned (.string ⟨(hexL D).toArray⟩) ∧ Below w.heap.size w w' := by
  have HT := Lib.hid (fun w' (h : Below w.heap.size w w') => hT.below h)
  have dl := hT.2
  have IX := Lib.hid (fun W (k : Nat) (hk : k < 32) => idx_agg (n := 32) W 23 (D.map fun (x : Nat) => Value.int .u8 (x : Int)).toArray k (.int .u8 ((D.getD k 0 : Nat) : Int)) Tryd.underlying23 (by kernel_rfl) (by kernel_rfl) hk (by
    rw [List.getElem?_toArray, List.getElem?_map, List.getD_eq_getElem?_getD, List.getElem?_eq_getElem (by omega : k < D.length)]; rfl))
  have e0 : digV D = .agg (D.map fun (x : Nat) => Value.int .u8 (x : Int)).toArray := rfl
  rw [e0]
  have LV : (D.map fun (x : Nat) => Value.int .u8 (x : Int)).length = 32 := by rw [List.length_map, DL]
  generalize (D.map fun (x : Nat) => Value.int .u8 (x : Int)) = V at *
  have OL := Lib.hid LV
  have rn := rangeAt_new w V 23
  have B0 := Lib.hid ((Below.refl w.heap.size w).alloc (Nat.le_refl _) (.cells V.toArray 23))
  clear e0 LV hT
  go_enter Tryd.func13, Tryd.ntmps13
  go_wp2_with (refine wpList_load_mid rfl _ (.tmp 1) rfl w.heap.size 0 rfl V _ rn Tryd.underlying23 rfl (by rw [OL.out]; exact info32d) ?_)
  clear rn
  generalize w.alloc (.cells V.toArray 23) = w1 at *
  go_loopw [3, 7] (fun v i wr => ∃ k : Nat, k ≤ 32 ∧ i = .int .i64 k ∧ Hid (Own1 21 wr w.heap.size v (i32L (runesL (D.take k)))) ∧ Hid (Below w.heap.size w wr)) (fun _ i _ => 32 - (intOf i).toNat)
  case atStart => exact ⟨0, Nat.zero_le _, rfl, Lib.hid (Own1.nil _ _ _ B0.out.size), B0⟩
  case round =>
    obtain ⟨k, hk, rfl, O, B⟩ := hrel
    clear B0
    by_cases hlt : k < 32
    · have i1 : (k : Int) < 32 := by omega
      have ix := fun W => IX.out W k hlt
      have hd : D.take (k + 1) = D.take k ++ [D.getD k 0] := by
        rw [List.take_add_one, List.getElem?_eq_getElem (by omega), List.getD_eq_getElem?_getD, List.getElem?_eq_getElem (by omega)]; rfl
      have hx : D.getD k 0 < 256 := by
        rw [List.getD_eq_getElem?_getD, List.getElem?_eq_getElem (by omega)]
        exact lt _ (List.getElem_mem (by omega))
      have ER : Hid (runesL (D.take (k + 1)) = runesL (D.take k) ++ [hexI (D.getD k 0 / 16), hexI (D.getD k 0 % 16)]) := Lib.hid (by rw [hd, runesL_snoc])
      have T1 := HT.out wr B.out
      generalize D.getD k 0 = x at *
      obtain ⟨a, ha⟩ : ∃ a, x / 16 = a := ⟨_, rfl⟩
      obtain ⟨b, hb⟩ : ∃ b, x % 16 = b := ⟨_, rfl⟩
      have c1 := T1.cell (show a < 16 by omega)
      have c2 := T1.cell (show b < 16 by omega)
      have a1 : (x : Int) / 16 = (a : Int) := by omega
      have a2 : 0 ≤ (a : Int) ∧ (a : Int) < 16 := by omega
      have b2 : 0 ≤ (b : Int) ∧ (b : Int) < 16 := by omega
      have b1 : bits .and .u8 (x : Int) 15 = (b : Int) := by have := u8_and15 (x := (x : Int)) (by omega) (by omega); omega
      rw [ha, hb] at ER
      generalize hexI a = p1 at *
      generalize hexI b = p2 at *
      clear ha hb hd T1 IX
      go_wp2_with fail
      refine wp_region_held_drew (S := H2 a b p1 p2) (by kernel_rfl) ⟨c1, c2⟩ (fun hHeld => ?_)
      have O1 := Lib.hid (O.out.below (Below.refl _ _).drew)
      have B1 := Lib.hid (below_then B.out (Below.refl _ _).drew)
      have zl : (i32L (runesL (D.take k))).length ≤ 1000000 := by rw [i32L_len, runesL_len, List.length_take]; omega
      have ER2 : Hid (i32L (runesL (D.take (k + 1))) = i32L (runesL (D.take k)) ++ [.int .i32 p1, .int .i32 p2]) := Lib.hid (by rw [ER.out, i32L_snoc2])
      have HS : Hid (H2 a b p1 p2 wr.drew) := Lib.hid ⟨c1, c2⟩
      clear O B c1 c2 ER
      generalize i32L (runesL (D.take k)) = L at *
      refine wpAnyH_take (i := 0) (oi := ?oi0x1) (v := ?v0x1) ?hi0x1 (by kernel_rfl) (by kernel_rfl) (by kernel_rfl) ?hq0x1 ?hy0x1 hHeld ?rest0x1
      case hi0x1 => ((try simp only [List.getElem?_toArray, List.getElem?_cons_succ, List.getElem?_cons_zero]); (try rfl))
      case hq0x1 => exact fun _ _ _ h => h
      case hy0x1 => exact Or.inl ⟨by rfl, by intro w hSw; clear hSw; go_simp; try with_reducible rfl⟩
      try simp only [Act.put, List.setIfInBounds_toArray, List.set_cons_zero, List.set_cons_succ]
      refine wpAnyH_take (i := 1) (oi := ?oi1x2) (v := ?v1x2) ?hi1x2 (by kernel_rfl) (by kernel_rfl) (by kernel_rfl) ?hq1x2 ?hy1x2 hHeld ?rest1x2
      case hi1x2 => ((try simp only [List.getElem?_toArray, List.getElem?_cons_succ, List.getElem?_cons_zero]); (try rfl))
      case hq1x2 => exact fun _ _ _ h => h
      case hy1x2 => exact Or.inl ⟨by rfl, by intro w hSw; clear hSw; go_simp; try with_reducible rfl⟩
      try simp only [Act.put, List.setIfInBounds_toArray, List.set_cons_zero, List.set_cons_succ]
      refine wpAnyH_take (i := 2) (oi := ?oi2x3) (v := ?v2x3) ?hi2x3 (by kernel_rfl) (by kernel_rfl) (by kernel_rfl) ?hq2x3 ?hy2x3 hHeld ?rest2x3
      case hi2x3 => ((try simp only [List.getElem?_toArray, List.getElem?_cons_succ, List.getElem?_cons_zero]); (try rfl))
      case hq2x3 => exact fun _ _ _ h => h
      case hy2x3 => exact Or.inl ⟨by rfl, by intro w hSw; clear hSw; go_simp; try with_reducible rfl⟩
      try simp only [Act.put, List.setIfInBounds_toArray, List.set_cons_zero, List.set_cons_succ]
      refine wpAnyH_take (i := 3) (oi := ?oi3x4) (v := ?v3x4) ?hi3x4 (by kernel_rfl) (by kernel_rfl) (by kernel_rfl) ?hq3x4 ?hy3x4 hHeld ?rest3x4
      case hi3x4 => ((try simp only [List.getElem?_toArray, List.getElem?_cons_succ, List.getElem?_cons_zero]); (try rfl))
      case hq3x4 => exact fun _ _ _ h => h
      case hy3x4 => exact Or.inl ⟨by rfl, by intro w hSw; clear hSw; go_simp; try with_reducible rfl⟩
      try simp only [Act.put, List.setIfInBounds_toArray, List.set_cons_zero, List.set_cons_succ]
      refine wpAnyH_take (i := 4) (oi := ?oi4x5) (v := ?v4x5) ?hi4x5 (by kernel_rfl) (by kernel_rfl) (by kernel_rfl) ?hq4x5 ?hy4x5 hHeld ?rest4x5
      case hi4x5 => ((try simp only [List.getElem?_toArray, List.getElem?_cons_succ, List.getElem?_cons_zero]); (try rfl))
      case hq4x5 => exact fun _ _ _ h => h
      case hy4x5 => exact Or.inl ⟨by rfl, by intro w hSw; have c1 := hSw.c1; have c2 := hSw.c2; clear hSw; go_simp; try with_reducible rfl⟩
      try simp only [Act.put, List.setIfInBounds_toArray, List.set_cons_zero, List.set_cons_succ]
      refine wpAnyH_take (i := 5) (oi := ?oi5x6) (v := ?v5x6) ?hi5x6 (by kernel_rfl) (by kernel_rfl) (by kernel_rfl) ?hq5x6 ?hy5x6 hHeld ?rest5x6
      case hi5x6 => ((try simp only [List.getElem?_toArray, List.getElem?_cons_succ, List.getElem?_cons_zero]); (try rfl))
      case hq5x6 => exact fun _ _ _ h => h
      case hy5x6 => exact Or.inl ⟨by rfl, by intro w hSw; clear hSw; go_simp; try with_reducible rfl⟩
      try simp only [Act.put, List.setIfInBounds_toArray, List.set_cons_zero, List.set_cons_succ]
      refine wpAnyH_take (i := 6) (oi := ?oi6x7) (v := ?v6x7) ?hi6x7 (by kernel_rfl) (by kernel_rfl) (by kernel_rfl) ?hq6x7 ?hy6x7 hHeld ?rest6x7
      case hi6x7 => ((try simp only [List.getElem?_toArray, List.getElem?_cons_succ, List.getElem?_cons_zero]); (try rfl))
      case hq6x7 => exact fun _ _ _ h => h
      case hy6x7 => exact Or.inl ⟨by rfl, by intro w hSw; clear hSw; go_simp; try with_reducible rfl⟩
      try simp only [Act.put, List.setIfInBounds_toArray, List.set_cons_zero, List.set_cons_succ]
      refine wpAnyH_take (i := 7) (oi := ?oi7x8) (v := ?v7x8) ?hi7x8 (by kernel_rfl) (by kernel_rfl) (by kernel_rfl) ?hq7x8 ?hy7x8 hHeld ?rest7x8
      case hi7x8 => ((try simp only [List.getElem?_toArray, List.getElem?_cons_succ, List.getElem?_cons_zero]); (try rfl))
      case hq7x8 => exact fun _ _ _ h => h
      case hy7x8 => exact Or.inl ⟨by rfl, by intro w hSw; clear hSw; go_simp; try with_reducible rfl⟩
      try simp only [Act.put, List.setIfInBounds_toArray, List.set_cons_zero, List.set_cons_succ]
      refine wpAnyH_take (i := 8) (oi := ?oi8x9) (v := ?v8x9) ?hi8x9 (by kernel_rfl) (by kernel_rfl) (by kernel_rfl) ?hq8x9 ?hy8x9 hHeld ?rest8x9
      case hi8x9 => ((try simp only [List.getElem?_toArray, List.getElem?_cons_succ, List.getElem?_cons_zero]); (try rfl))
      case hq8x9 => exact fun _ _ _ h => h
      case hy8x9 => exact Or.inl ⟨by rfl, by intro w hSw; have c1 := hSw.c1; have c2 := hSw.c2; clear hSw; go_simp; try with_reducible rfl⟩
      try simp only [Act.put, List.setIfInBounds_toArray, List.set_cons_zero, List.set_cons_succ]
      refine wpAnyH_ready (rs := [9]) (by kernel_rfl) (by simp) ?_
      refine AllReadyH.cons rfl (fun K' hK => ?_) AllReadyH.nil
      have H1 := Lib.hid hHeld
      clear hHeld
      go_simp
      refine hK.out _ _ (H1.out.call ((Below.refl _ _).alloc (Nat.le_refl _) _)) (fun hHeld => ?_)
      clear hK H1
      try simp only [Act.put, List.setIfInBounds_toArray, List.set_cons_zero, List.set_cons_succ]
      refine wpAnyH_ready (rs := [10]) (by kernel_rfl) (by simp) ?_
      refine AllReadyH.cons rfl (fun K' hK => ?_) AllReadyH.nil
      clear hHeld
      refine step_app1 Tryd.underlying44 infoRune rfl (by decide) _ (by rfl) (.tmp 10) (.tmp 19) (by rfl) w.heap.size _ L #[.int .i32 p1, .int .i32 p2] 2 2 (by rfl) (by rfl) rfl (by simp [Value.oneCell']) O1.out zl (by decide) ?_
      intro v2 w2 hO2 hb2
      have O2 := Lib.hid hO2
      have B2 := Lib.hid (B1.out.trans hb2)
      have e2 := ER2.out
      change Hid (Own1 _ w2 _ v2 (L ++ [.int .i32 p1, .int .i32 p2])) at O2
      rw [← e2] at O2
      refine hK.out _ _ (HS.out.far hb2 dl) (fun hHeld => ?_)
      clear hK HS hO2 hb2 O1 B1 e2
      try simp only [Act.put, List.setIfInBounds_toArray, List.set_cons_zero, List.set_cons_succ]
      refine wpAnyH_take (i := 11) (oi := ?oi11x10) (v := ?v11x10) ?hi11x10 (by kernel_rfl) (by kernel_rfl) (by kernel_rfl) ?hq11x10 ?hy11x10 hHeld ?rest11x10
      case hi11x10 => ((try simp only [List.getElem?_toArray, List.getElem?_cons_succ, List.getElem?_cons_zero]); (try rfl))
      case hq11x10 => exact fun _ _ _ h => h
      case hy11x10 => exact Or.inl ⟨by rfl, by intro w hSw; clear hSw; go_simp; try with_reducible rfl⟩
      try simp only [Act.put, List.setIfInBounds_toArray, List.set_cons_zero, List.set_cons_succ]
      refine wpAnyH_done (by kernel_rfl) ?_ _
      clear hHeld
      go_wp2_with fail
      go_roundw
      case rel => exact ⟨k + 1, by omega, by go_num, O2, B2⟩
      case measure => simp [intOf]; omega
    · obtain rfl : k = 32 := by omega
      have i1 : ¬ (32 : Int) < 32 := by omega
      have O1 := O.out
      rw [List.take_of_length_le (by omega)] at O1
      have cv : (convert 44 9 u3).run Tryd.prog wr = .ok (.string ⟨(hexL D).toArray⟩) wr := by
        rw [← runes_str D lt]
        rcases O1.form with ⟨e, _⟩ | ⟨g, cap, rfl, hc, _, lg, hg⟩
        · exfalso
          have := congrArg List.length e
          rw [i32L_len, runesL_len, DL] at this
          simp at this
        · have := run_convert_runes (P := Tryd.prog) wr 44 9 21 ⟨g, 0, none⟩ (i32L (runesL D)).length cap (runesL D) (by rw [i32L_len]; exact Nat.le_refl _) Tryd.underlying44 Tryd.underlying21 Tryd.underlying9 (fun j hj => by
            rw [Addr.add_mid, Nat.zero_add]
            refine hg j _ ?_
            unfold i32L
            rw [List.getElem?_map, List.getD_eq_getElem?_getD, List.getElem?_eq_getElem hj]
            rfl)
          rw [i32L_len, List.take_length] at this
          rw [i32L_len]
          exact this
      have BE := Lib.hid B.out
      clear O O1 B lt
      go_wp2_with fail
      go_ret
      exact ⟨rfl, BE.out⟩
end Arw
end Go.Proofs.YtafeigpmldgifaaDoor
/-
  The walk of readChange of archive.
-/
namespace Go.Proofs.YtafeigpmldgifaaDoor
namespace Cgw
open Go.RowKit Lw Go.Proofs.YtafeigpmldgifaaDoor.Dp Go.Proofs.YtafeigpmldgifaaDoor.Cgp Go.Proofs.YtafeigpmldgifaaDoor.Arw

/-- What the longest string's bound holds: some number. -/
def MX (w : World) : Prop := 2 < w.heap.size ∧ ∃ m : Int, w.cell? ⟨2, 0, none⟩ = some (.int .i64 m)
theorem MX.below {w w' : World} (h : MX w) (hb : Below w.heap.size w w') : MX w' := by
  obtain ⟨lt, m, hm⟩ := h
  exact ⟨Nat.lt_of_lt_of_le lt hb.size, m, (hb.cell (p := ⟨2, 0, none⟩) lt).trans hm⟩
theorem cutq_any (s sep : ByteArray) (w : World) (hM : MX w) (hs : s.size ≤ 100000) :
    Calls Tryd.prog 17 #[.string s, .string sep] w fun e w' => ∃ (a b : ByteArray) (ok : Bool), e = .returned (.tuple #[.string a, .string b, .bool ok]) ∧ Lib.cut s.data.toList sep.data.toList = (a.data.toList, b.data.toList, ok) ∧ a.size ≤ s.size ∧ b.size ≤ s.size ∧ Below w.heap.size w w' := by
  obtain ⟨_, m, hm⟩ := hM
  refine (Tryd.strings_Cut s sep m w (by omega) hm).mono ?_
  rintro e w' ⟨rfl, n, rfl⟩
  have hl : s.data.toList.length = s.size := rfl
  refine ⟨_, _, _, rfl, rfl, ?_, ?_, drewN_below2 (Below.refl _ _) n⟩
  · show (Lib.cut s.data.toList sep.data.toList).1.length ≤ _
    unfold Lib.cut
    split
    · simp only [List.length_take]; omega
    · simp only; omega
  · show (Lib.cut s.data.toList sep.data.toList).2.1.length ≤ _
    unfold Lib.cut
    split
    · simp only [List.length_drop]; omega
    · simp only [List.length_nil]; omega
theorem parse_bd {l : List UInt8} {d : Dg} {k : Int} (h : ParseIs l d k) : (0 ≤ d.h ∧ d.h < 256) ∧ (0 ≤ d.s ∧ d.s < 256) := by
  rcases h with ⟨g, _, _⟩ | ⟨_, rfl, _⟩
  · rcases g with ⟨_, _, h3, h4, _, _⟩ | ⟨_, _, _, h3, h4, _, _⟩
    · rw [h3, h4]; decide
    · exact ⟨half_bd h3, sec_bd h4⟩
  · decide
/-- What readChange keeps: the result's box, and the change's. -/
structure CY (w0 : World) (b : Nat) (c : Cg) (w : World) : Prop where
  res : Rw w w0.heap.size (cgC zeroC)
  bx : Rw w b (cgC c)
  lt : w0.heap.size < b
  below : Below w0.heap.size w0 w
theorem CY.call {w0 w w' : World} {b : Nat} {c : Cg} (h : CY w0 b c w) (hb : Below w.heap.size w w') : CY w0 b c w' := ⟨h.res.call hb, h.bx.call hb, h.lt, below_then h.below hb⟩
theorem CY.one {w0 w : World} {b : Nat} {c : Cg} (h : CY w0 b c w) (j : Nat) (v : Value) (c' : Cg) (hj : j < 12) (e : (cgC c).set j v = cgC c') : CY w0 b c' (w.setCell ⟨b, j, none⟩ v) := by
  have h1 := h.bx.set j v hj
  rw [e] at h1
  exact ⟨h.res.apart (Nat.ne_of_lt h.lt) j v, h1, h.lt, h.below.setCell (p := ⟨b, j, none⟩) (Nat.le_of_lt h.lt) v⟩
theorem CY.many {w0 w : World} {b : Nat} {c : Cg} (h : CY w0 b c w) (j : Nat) (vs : List Value) (c' : Cg) (hj : j + vs.length ≤ 12) (e : setL (cgC c) j vs = cgC c') : CY w0 b c' (w.setCells b j vs) := by
  have h1 := Rw.setsAt vs j h.bx hj
  rw [e] at h1
  exact ⟨h.res.sets_apart vs (Nat.ne_of_lt h.lt) j, h1, h.lt, below_setCells b (Nat.le_of_lt h.lt) vs j w h.below⟩
theorem CY.cell {w0 w : World} {b : Nat} {c : Cg} (h : CY w0 b c w) (j : Nat) (v : Value) (hj : (cgC c)[j]? = some v) : w.cell? ⟨b, j, none⟩ = some v := h.bx.cell hj
theorem there_sub {w : World} {b n : Nat} (h : w.there b 0 n) (o m : Nat) (ho : o + m ≤ n) : w.there b o m := fun j hj => by
  have := h (o + j) (by omega)
  rwa [Nat.zero_add] at this
theorem infoCg : (Tryd.prog.info? 52).map (·.size) = some 12 := by kernel_rfl
theorem infoDg : (Tryd.prog.info? 50).map (·.size) = some 5 := by kernel_rfl
theorem CB.zero : CB zeroC := ⟨by decide, by decide, by decide, by decide, by decide, by decide, by decide, by decide⟩
theorem cgone (c : Cg) : ((cgC c).toArray).all (·.oneCell') = true := by simp [Value.oneCell']
theorem dgone (d : Dg) : ((Dw.desigC d.n d.y d.h d.s d.c).toArray).all (·.oneCell') = true := by simp [Value.oneCell', Dw.desigC]
theorem line_le {c : Cg} (h : okC c) : (lineC c).length ≤ 100 := by
  unfold lineC
  rw [List.length_append, List.length_cons]
  rcases h with ⟨h1, h2, h3, h4, h5⟩ | ⟨h1, h2, h3, h4, h5⟩ | ⟨h1, h2, h3, h4, h5⟩ | ⟨h1, h2, h3, h4, h5⟩
  · have := text_le h2
    rw [wordC_1 h1]
    unfold restC
    rw [if_pos h1]
    simp [addW]; omega
  · have := text_le h2
    have := text_le h3
    rw [wordC_2 h1]
    unfold restC
    rw [if_neg (by omega), if_pos (Or.inl h1)]
    simp [joinW, eqW]; omega
  · have := text_le h2
    have := text_le h3
    rw [wordC_3 h1]
    unfold restC
    rw [if_neg (by omega), if_pos (Or.inr h1)]
    simp [numW, eqW]; omega
  · obtain ⟨m, hm⟩ := Int.eq_ofNat_of_zero_le h4
    have := itoa_le m (by omega)
    rw [wordC_4 h1]
    unfold restC
    rw [if_neg (by omega), if_neg (by omega), hm]
    simp [undoW]; omega
def RdPost (s : ByteArray) (w : World) (e : Ending) (w' : World) : Prop := ∃ (c : Cg) (k : Int), e = .returned (.tuple #[.agg (cgC c).toArray, .int .i64 k]) ∧ RdIs s.data.toList c k ∧ CB c ∧ Below w.heap.size w w'
set_option maxRecDepth 100000 in
set_option maxHeartbeats 32000000 in
theorem rdch_any (s : ByteArray) (w : World) (hs : s.size ≤ 1000) (hT : Dw.Tb w) (hM : MX w) (hE : Ow.ES w) (hR : ER w) : Calls Tryd.prog 18 #[.string s] w (RdPost s w) := by
  have HT := Lib.hid (fun w' (h : Below w.heap.size w w') => hT.below h)
  have HM := Lib.hid (fun w' (h : Below w.heap.size w w') => hM.below h)
  have HE := Lib.hid (fun w' (h : Below w.heap.size w w') => hE.below h)
  have HR := Lib.hid (fun w' (h : Below w.heap.size w w') => hR.below h)
  have r0 : Rw (w.alloc (.cells (cgC zeroC).toArray 52)) w.heap.size (cgC zeroC) := Rw.new w (cgC zeroC) 52
  have b0 := (Below.refl w.heap.size w).alloc (Nat.le_refl _) (.cells (cgC zeroC).toArray 52)
  have z0 : w.heap.size < (w.alloc (.cells (cgC zeroC).toArray 52)).heap.size := by simp
  generalize hw1 : w.alloc (.cells (cgC zeroC).toArray 52) = w1 at *
  have HW := Lib.hid hw1
  have R0 := Lib.hid r0
  have B0 := Lib.hid b0
  have CU := Lib.hid (fun (a sep : ByteArray) w' h hz => cutq_any a sep w' h hz)
  clear hT hM hE hR hw1 r0 b0
  go_enter Tryd.func18, Tryd.ntmps18
  go_wp2_with fail
  rw [show w.alloc (.cells #[.int .u8 0, .int .i64 0, .int .i64 0, .int .u8 0, .int .u8 0, .int .i64 0, .int .i64 0, .int .i64 0, .int .u8 0, .int .u8 0, .int .i64 0, .int .i64 0] 52) = w1 from HW.out]
  refine (CU.out s ⟨#[32]⟩ _ (HM.out _ B0.out) (by omega)).mono ?_
  rintro e w2 ⟨W, R, ok1, rfl, hc1, zW, zR, hb2⟩
  have R2 := Lib.hid (R0.out.call hb2)
  have B2 := Lib.hid (below_then B0.out hb2)
  clear R0 B0 hb2 HW z0
  go_wp2_with fail
  refine (CU.out R ⟨#[32, 61, 32]⟩ _ (HM.out _ B2.out) (by omega)).mono ?_
  rintro e w3 ⟨L, Q, ok2, rfl, hc2, zL, zQ, hb3⟩
  have R3 := R2.out.call hb3
  have B3 := below_then B2.out hb3
  have l3 : w.heap.size < w3.heap.size := R3.lt
  have bn := (Below.refl w3.heap.size w3).alloc (Nat.le_refl _) (.cells (cgC zeroC).toArray 52)
  have Y0 : Hid (CY w w3.heap.size zeroC (w3.alloc (.cells (cgC zeroC).toArray 52))) := Lib.hid ⟨R3.call bn, Rw.new w3 (cgC zeroC) _, l3, below_then B3 bn⟩
  clear R2 B2 hb3 CU bn R3 B3
  have HC1 := Lib.hid hc1
  have HC2 := Lib.hid hc2
  clear hc1 hc2
  go_upto_region 4 with (refine wpList_store_new rfl _ (.tmp 10) (.tmp 25) rfl _ (cgC zeroC).toArray rfl rfl infoCg rfl ?_ ?_; simp [Value.oneCell'])
  generalize w3.alloc (.cells (cgC zeroC).toArray 52) = wb at *
  have PA := Lib.hid (fun (x : ByteArray) w' h hx => Dw.parse_any x w' h hx)
  have AT := Lib.hid (fun (x : ByteArray) w' h h1 h2 => atoi_any x w' h h1 h2)
  have WR := Lib.hid (fun (c : Cg) w' h h2 => wrch_any c w' h h2)
  obtain ⟨S10, hS10⟩ : ∃ S, s ++ (⟨#[10]⟩ : ByteArray) = S := ⟨_, rfl⟩
  have S10L : Hid (S10.data.toList = s.data.toList ++ [10]) := Lib.hid (by rw [← hS10]; simp)
  have cat : ∀ w', (Go.Op.stringOp .add s ⟨#[10]⟩).run Tryd.prog w' = .ok (.string S10) w' := fun w' => by rw [run_string_add_sum (P := Tryd.prog) (w := w') _ _ (by have : (⟨#[10]⟩ : ByteArray).size = 1 := rfl; rw [this]; omega), ← hS10]
  clear hS10
  by_cases w1e : W.data.toList = addW
  · have fw1 : (W.toList == [97, 100, 100]) = true := by rw [Lib.toList_data, w1e]; rfl
    have KW : Hid (kindW W.data.toList = 1) := Lib.hid (by unfold kindW; rw [if_pos w1e])
    clear w1e
    have c0 := Y0.out.cell 0 _ rfl
    have f0 := Y0.out.bx.free (j := 0) (by decide)
    have Y1 := Lib.hid (Y0.out.one 0 (.int .u8 1) ⟨1, zeroG, zeroG, 0⟩ (by decide) rfl)
    clear Y0
    go_wp2_with fail
    generalize (wb.setCell ⟨w3.heap.size, 0, none⟩ (.int .u8 1)) = wk at *
    clear c0 f0
    refine (PA.out R _ (HT.out _ Y1.out.below) (by omega)).mono ?_
    rintro e wp ⟨a, ka, rfl, hpa, hbp⟩
    have Y4 := Lib.hid (Y1.out.call hbp)
    clear Y1 hbp
    have HPA := Lib.hid hpa
    have ba := parse_bd hpa
    clear hpa
    have ta := there_sub Y4.out.bx.th 1 5 (by show 1 + 5 ≤ 12; decide)
    have Y5 := Lib.hid (Y4.out.many 1 (Dw.desigC a.n a.y a.h a.s a.c) ⟨1, a, zeroG, 0⟩ (by show 1 + 5 ≤ 12; decide) rfl)
    clear Y4
    have da0 := Y5.out.cell 0 _ rfl
    have OA := Lib.hid (dgone a)
    go_upto_region 17 with (refine wpList_store_mid rfl _ (.tmp 51) (.tmp 49) rfl w3.heap.size 1 (Dw.desigC a.n a.y a.h a.s a.c).toArray rfl rfl ta infoDg OA.out ?_; rw [List.toList_toArray]; generalize wp.setCells w3.heap.size 1 (Dw.desigC a.n a.y a.h a.s a.c) = wq at *)
    clear ta
    obtain ⟨c, hc⟩ : ∃ c, (⟨1, a, zeroG, 0⟩ : Cg) = c := ⟨_, rfl⟩
    have CI : Hid (CandIs s.data.toList c) := Lib.hid (by
      rw [← hc]
      have e1 := HC1.out
      have e2 := HC2.out
      change Lib.cut R.data.toList eqW = _ at e2
      refine ⟨?_, ⟨ka, ?_⟩, ?_, ?_⟩
      · rw [e1]; exact KW.out.symm
      · rw [e1]
        show ParseIs (if (1 : Int) = 1 then _ else if (1 : Int) = 4 then _ else (Lib.cut R.data.toList eqW).1) _ _
        rw [e2]
        exact HPA.out
      · rw [if_pos rfl]
      · rfl)
    have CBX : Hid (CB c) := Lib.hid (by
      rw [← hc]
      exact ⟨(show (0 : Int) ≤ 1 by decide), (show (1 : Int) < 256 by decide), ba.1, ba.2, (by decide : (0 ≤ (zeroG).h ∧ (zeroG).h < 256) ∧ (0 ≤ (zeroG).s ∧ (zeroG).s < 256)).1, (by decide : (0 ≤ (zeroG).h ∧ (zeroG).h < 256) ∧ (0 ≤ (zeroG).s ∧ (zeroG).s < 256)).2, (show (-9223372036854775808 : Int) ≤ 0 by decide), (show (0 : Int) ≤ 9223372036854775807 by decide)⟩)
    rw [hc] at Y5
    have hce : True := trivial
    clear hc HPA ba  KW HC1 HC2 PA AT
    have Y := Y5
    clear Y5 OA
    have rb := Y.out.bx.row
    have WC := Lib.hid (WR.out c _ (HT.out _ Y.out.below) CBX.out)
    have sc : Value.agg (cgC c).toArray = .agg (cgC c).toArray := rfl
    clear WR sc
    have HCE := Lib.hid hce
    have l12 : (cgC c).length = 12 := rfl
    obtain ⟨V, hV⟩ : ∃ V, cgC c = V := ⟨_, rfl⟩
    rw [hV] at WC rb l12
    have HV := Lib.hid hV
    have HI : Hid ((Tryd.prog.info? 52).map (·.size) = some V.length) := Lib.hid (by rw [l12]; exact infoCg)
    clear hV
    go_wp2_with (refine wpList_load_mid rfl _ (.tmp 10) rfl w3.heap.size 0 rfl V _ rb Tryd.underlying52 rfl HI.out ?_)
    refine WC.out.mono ?_
    rintro e wz ⟨t, r, rfl, hw, hbz⟩
    have Y9 := Lib.hid (Y.out.call hbz)
    clear WC Y hbz
    have tr := Y9.out.res.th
    have rb := Y9.out.bx.row
    rw [HV.out] at rb
    rcases hw with ⟨ok, ht, rfl⟩ | ⟨no, ht, rfl⟩
    · have zt : t.size ≤ 1000000 := by
        have : t.data.toList.length ≤ 200 := by rw [ht, List.length_append]; have := line_le ok; simp; omega
        exact Nat.le_trans this (by decide)
      by_cases eq : t.data.toList = s.data.toList ++ [10]
      · have f1 : (t.toList == S10.toList) = true := by rw [Lib.toList_data, Lib.toList_data, S10L.out, eq]; exact beq_self_eq_true _
        have f2 : (t.toList != S10.toList) = false := by rw [bne, f1]; rfl
        have RD : Hid (RdIs s.data.toList c 0) := Lib.hid (CandIs.yes ok (by rw [← ht, eq]))
        have EV : Hid (Value.agg V.toArray = .agg (cgC c).toArray) := Lib.hid (by rw [HV.out])
        have one := cgone c
        rw [HV.out] at one
        have sV : V.toArray.size = 12 := by rw [List.size_toArray, l12]
        have tr8 : wz.there w.heap.size 0 V.toArray.size := by rw [sV]; exact tr
        have in8 : (Tryd.prog.info? 52).map (·.size) = some V.toArray.size := by rw [sV]; exact infoCg
        have HL := Lib.hid (And.intro one (And.intro tr8 in8))
        have ZR := Lib.hid (Y9.out.res.sets V (by rw [l12]; rfl))
        have BE := Lib.hid (below_setCells w.heap.size (Nat.le_refl _) V 0 wz Y9.out.below)
        clear one sV tr8 in8 tr Y9 ok ht eq CI zt
        go_wp2_with (first | (refine wpList_load_mid rfl _ (.tmp 10) rfl w3.heap.size 0 rfl V _ rb Tryd.underlying52 rfl HI.out ?_) | (refine wpList_store_mid rfl _ (.tmp 2) (.tmp 75) rfl w.heap.size 0 V.toArray rfl rfl HL.out.2.1 HL.out.2.2 HL.out.1 ?_))
        exact bodyPost_ret (ret_cell_tmp Tryd.results18 _ _ w.heap.size V _ rfl ZR.out.row Tryd.underlying52 rfl HI.out) rfl ⟨c, 0, by rw [← HV.out]; rfl, RD.out, CBX.out, BE.out⟩
      · have f1 : (t.toList == S10.toList) = false := beq_eq_false_iff_ne.2 (by rw [Lib.toList_data, Lib.toList_data, S10L.out]; exact eq)
        have f2 : (t.toList != S10.toList) = true := by rw [bne, f1]; rfl
        have RD : Hid (RdIs s.data.toList zeroC 12) := Lib.hid (CI.out.no (fun h => eq (by rw [ht, h.2])))
        have BE := Lib.hid (below_setCells w.heap.size (Nat.le_refl _) (cgC zeroC) 0 wz Y9.out.below)
        have ZR := Lib.hid (Y9.out.res.sets (cgC zeroC) rfl)
        clear Y9 ok ht eq CI zt
        go_wp2_with (refine wpList_store_mid rfl _ (.tmp 2) (.tmp 74) rfl w.heap.size 0 (cgC zeroC).toArray rfl rfl tr infoCg (cgone zeroC) ?_)
        exact bodyPost_ret (ret_cell_tmp Tryd.results18 _ _ w.heap.size (cgC zeroC) _ rfl ZR.out.row Tryd.underlying52 rfl infoCg) rfl ⟨zeroC, 12, rfl, RD.out, CB.zero, BE.out⟩
    · have RD : Hid (RdIs s.data.toList zeroC 12) := Lib.hid (CI.out.no (fun h => no h.1))
      have BE := Lib.hid (below_setCells w.heap.size (Nat.le_refl _) (cgC zeroC) 0 wz Y9.out.below)
      have ZR := Lib.hid (Y9.out.res.sets (cgC zeroC) rfl)
      clear Y9 no ht CI
      go_wp2_with (refine wpList_store_mid rfl _ (.tmp 2) (.tmp 74) rfl w.heap.size 0 (cgC zeroC).toArray rfl rfl tr infoCg (cgone zeroC) ?_)
      exact bodyPost_ret (ret_cell_tmp Tryd.results18 _ _ w.heap.size (cgC zeroC) _ rfl ZR.out.row Tryd.underlying52 rfl infoCg) rfl ⟨zeroC, 12, rfl, RD.out, CB.zero, BE.out⟩
  · have fw1 : (W.toList == [97, 100, 100]) = false := beq_eq_false_iff_ne.2 (by rw [Lib.toList_data]; exact w1e)
    by_cases w2e : W.data.toList = joinW
    · have fw2 : (W.toList == [106, 111, 105, 110]) = true := by rw [Lib.toList_data, w2e]; rfl
      have KW : Hid (kindW W.data.toList = 2) := Lib.hid (by unfold kindW; rw [if_neg w1e]; rw [if_pos w2e])
      clear w1e w2e
      have c0 := Y0.out.cell 0 _ rfl
      have f0 := Y0.out.bx.free (j := 0) (by decide)
      have Y1 := Lib.hid (Y0.out.one 0 (.int .u8 2) ⟨2, zeroG, zeroG, 0⟩ (by decide) rfl)
      clear Y0
      go_wp2_with fail
      generalize (wb.setCell ⟨w3.heap.size, 0, none⟩ (.int .u8 2)) = wk at *
      clear c0 f0
      refine (PA.out L _ (HT.out _ Y1.out.below) (by omega)).mono ?_
      rintro e wp ⟨a, ka, rfl, hpa, hbp⟩
      have Y4 := Lib.hid (Y1.out.call hbp)
      clear Y1 hbp
      have HPA := Lib.hid hpa
      have ba := parse_bd hpa
      clear hpa
      have ta := there_sub Y4.out.bx.th 1 5 (by show 1 + 5 ≤ 12; decide)
      have Y5 := Lib.hid (Y4.out.many 1 (Dw.desigC a.n a.y a.h a.s a.c) ⟨2, a, zeroG, 0⟩ (by show 1 + 5 ≤ 12; decide) rfl)
      clear Y4
      have da0 := Y5.out.cell 0 _ rfl
      have OA := Lib.hid (dgone a)
      go_wp2_with (refine wpList_store_mid rfl _ (.tmp 51) (.tmp 49) rfl w3.heap.size 1 (Dw.desigC a.n a.y a.h a.s a.c).toArray rfl rfl ta infoDg OA.out ?_; rw [List.toList_toArray]; generalize wp.setCells w3.heap.size 1 (Dw.desigC a.n a.y a.h a.s a.c) = wq at *)
      refine (PA.out Q _ (HT.out _ Y5.out.below) (by omega)).mono ?_
      rintro e wr ⟨b, kb, rfl, hpb, hbp⟩
      have Y6 := Lib.hid (Y5.out.call hbp)
      clear Y5 hbp da0 ta
      have HPB := Lib.hid hpb
      have bb := parse_bd hpb
      clear hpb
      have tb := there_sub Y6.out.bx.th 6 5 (by show 6 + 5 ≤ 12; decide)
      have Y7 := Lib.hid (Y6.out.many 6 (Dw.desigC b.n b.y b.h b.s b.c) ⟨2, a, b, 0⟩ (by show 6 + 5 ≤ 12; decide) rfl)
      clear Y6
      have OB := Lib.hid (dgone b)
      obtain ⟨c, hc⟩ : ∃ c, (⟨2, a, b, 0⟩ : Cg) = c := ⟨_, rfl⟩
      have CI : Hid (CandIs s.data.toList c) := Lib.hid (by
        rw [← hc]
        have e1 := HC1.out
        have e2 := HC2.out
        change Lib.cut R.data.toList eqW = _ at e2
        refine ⟨?_, ⟨ka, ?_⟩, ?_, ?_⟩
        · rw [e1]; exact KW.out.symm
        · rw [e1]
          show ParseIs (if (2 : Int) = 1 then _ else if (2 : Int) = 4 then _ else (Lib.cut R.data.toList eqW).1) _ _
          rw [e2]
          exact HPA.out
        · rw [if_neg (by decide : ¬ ((2 : Int) = 1))]; refine ⟨kb, ?_⟩; rw [e1]; show ParseIs (if (2 : Int) = 4 then _ else (Lib.cut R.data.toList eqW).2.1) _ _; rw [e2]; exact HPB.out
        · rfl)
      have CBX : Hid (CB c) := Lib.hid (by
        rw [← hc]
        exact ⟨(show (0 : Int) ≤ 2 by decide), (show (2 : Int) < 256 by decide), ba.1, ba.2, bb.1, bb.2, (show (-9223372036854775808 : Int) ≤ 0 by decide), (show (0 : Int) ≤ 9223372036854775807 by decide)⟩)
      rw [hc] at Y7
      have hce : True := trivial
      clear hc HPA ba HPB bb KW HC1 HC2 PA AT
      go_upto_region 17 with (refine wpList_store_mid rfl _ (.tmp 60) (.tmp 58) rfl w3.heap.size 6 (Dw.desigC b.n b.y b.h b.s b.c).toArray rfl rfl tb infoDg OB.out ?_; rw [List.toList_toArray]; generalize wr.setCells w3.heap.size 6 (Dw.desigC b.n b.y b.h b.s b.c) = wv at *)
      have Y := Y7
      clear Y7 OA OB tb
      have rb := Y.out.bx.row
      have WC := Lib.hid (WR.out c _ (HT.out _ Y.out.below) CBX.out)
      have sc : Value.agg (cgC c).toArray = .agg (cgC c).toArray := rfl
      clear WR sc
      have HCE := Lib.hid hce
      have l12 : (cgC c).length = 12 := rfl
      obtain ⟨V, hV⟩ : ∃ V, cgC c = V := ⟨_, rfl⟩
      rw [hV] at WC rb l12
      have HV := Lib.hid hV
      have HI : Hid ((Tryd.prog.info? 52).map (·.size) = some V.length) := Lib.hid (by rw [l12]; exact infoCg)
      clear hV
      go_wp2_with (refine wpList_load_mid rfl _ (.tmp 10) rfl w3.heap.size 0 rfl V _ rb Tryd.underlying52 rfl HI.out ?_)
      refine WC.out.mono ?_
      rintro e wz ⟨t, r, rfl, hw, hbz⟩
      have Y9 := Lib.hid (Y.out.call hbz)
      clear WC Y hbz
      have tr := Y9.out.res.th
      have rb := Y9.out.bx.row
      rw [HV.out] at rb
      rcases hw with ⟨ok, ht, rfl⟩ | ⟨no, ht, rfl⟩
      · have zt : t.size ≤ 1000000 := by
          have : t.data.toList.length ≤ 200 := by rw [ht, List.length_append]; have := line_le ok; simp; omega
          exact Nat.le_trans this (by decide)
        by_cases eq : t.data.toList = s.data.toList ++ [10]
        · have f1 : (t.toList == S10.toList) = true := by rw [Lib.toList_data, Lib.toList_data, S10L.out, eq]; exact beq_self_eq_true _
          have f2 : (t.toList != S10.toList) = false := by rw [bne, f1]; rfl
          have RD : Hid (RdIs s.data.toList c 0) := Lib.hid (CandIs.yes ok (by rw [← ht, eq]))
          have EV : Hid (Value.agg V.toArray = .agg (cgC c).toArray) := Lib.hid (by rw [HV.out])
          have one := cgone c
          rw [HV.out] at one
          have sV : V.toArray.size = 12 := by rw [List.size_toArray, l12]
          have tr8 : wz.there w.heap.size 0 V.toArray.size := by rw [sV]; exact tr
          have in8 : (Tryd.prog.info? 52).map (·.size) = some V.toArray.size := by rw [sV]; exact infoCg
          have HL := Lib.hid (And.intro one (And.intro tr8 in8))
          have ZR := Lib.hid (Y9.out.res.sets V (by rw [l12]; rfl))
          have BE := Lib.hid (below_setCells w.heap.size (Nat.le_refl _) V 0 wz Y9.out.below)
          clear one sV tr8 in8 tr Y9 ok ht eq CI zt
          go_wp2_with (first | (refine wpList_load_mid rfl _ (.tmp 10) rfl w3.heap.size 0 rfl V _ rb Tryd.underlying52 rfl HI.out ?_) | (refine wpList_store_mid rfl _ (.tmp 2) (.tmp 75) rfl w.heap.size 0 V.toArray rfl rfl HL.out.2.1 HL.out.2.2 HL.out.1 ?_))
          exact bodyPost_ret (ret_cell_tmp Tryd.results18 _ _ w.heap.size V _ rfl ZR.out.row Tryd.underlying52 rfl HI.out) rfl ⟨c, 0, by rw [← HV.out]; rfl, RD.out, CBX.out, BE.out⟩
        · have f1 : (t.toList == S10.toList) = false := beq_eq_false_iff_ne.2 (by rw [Lib.toList_data, Lib.toList_data, S10L.out]; exact eq)
          have f2 : (t.toList != S10.toList) = true := by rw [bne, f1]; rfl
          have RD : Hid (RdIs s.data.toList zeroC 12) := Lib.hid (CI.out.no (fun h => eq (by rw [ht, h.2])))
          have BE := Lib.hid (below_setCells w.heap.size (Nat.le_refl _) (cgC zeroC) 0 wz Y9.out.below)
          have ZR := Lib.hid (Y9.out.res.sets (cgC zeroC) rfl)
          clear Y9 ok ht eq CI zt
          go_wp2_with (refine wpList_store_mid rfl _ (.tmp 2) (.tmp 74) rfl w.heap.size 0 (cgC zeroC).toArray rfl rfl tr infoCg (cgone zeroC) ?_)
          exact bodyPost_ret (ret_cell_tmp Tryd.results18 _ _ w.heap.size (cgC zeroC) _ rfl ZR.out.row Tryd.underlying52 rfl infoCg) rfl ⟨zeroC, 12, rfl, RD.out, CB.zero, BE.out⟩
      · have RD : Hid (RdIs s.data.toList zeroC 12) := Lib.hid (CI.out.no (fun h => no h.1))
        have BE := Lib.hid (below_setCells w.heap.size (Nat.le_refl _) (cgC zeroC) 0 wz Y9.out.below)
        have ZR := Lib.hid (Y9.out.res.sets (cgC zeroC) rfl)
        clear Y9 no ht CI
        go_wp2_with (refine wpList_store_mid rfl _ (.tmp 2) (.tmp 74) rfl w.heap.size 0 (cgC zeroC).toArray rfl rfl tr infoCg (cgone zeroC) ?_)
        exact bodyPost_ret (ret_cell_tmp Tryd.results18 _ _ w.heap.size (cgC zeroC) _ rfl ZR.out.row Tryd.underlying52 rfl infoCg) rfl ⟨zeroC, 12, rfl, RD.out, CB.zero, BE.out⟩
    · have fw2 : (W.toList == [106, 111, 105, 110]) = false := beq_eq_false_iff_ne.2 (by rw [Lib.toList_data]; exact w2e)
      by_cases w3e : W.data.toList = numW
      · have fw3 : (W.toList == [110, 117, 109, 98, 101, 114]) = true := by rw [Lib.toList_data, w3e]; rfl
        have KW : Hid (kindW W.data.toList = 3) := Lib.hid (by unfold kindW; rw [if_neg w1e]; rw [if_neg w2e]; rw [if_pos w3e])
        clear w1e w2e w3e
        have c0 := Y0.out.cell 0 _ rfl
        have f0 := Y0.out.bx.free (j := 0) (by decide)
        have Y1 := Lib.hid (Y0.out.one 0 (.int .u8 3) ⟨3, zeroG, zeroG, 0⟩ (by decide) rfl)
        clear Y0
        go_wp2_with fail
        generalize (wb.setCell ⟨w3.heap.size, 0, none⟩ (.int .u8 3)) = wk at *
        clear c0 f0
        refine (PA.out L _ (HT.out _ Y1.out.below) (by omega)).mono ?_
        rintro e wp ⟨a, ka, rfl, hpa, hbp⟩
        have Y4 := Lib.hid (Y1.out.call hbp)
        clear Y1 hbp
        have HPA := Lib.hid hpa
        have ba := parse_bd hpa
        clear hpa
        have ta := there_sub Y4.out.bx.th 1 5 (by show 1 + 5 ≤ 12; decide)
        have Y5 := Lib.hid (Y4.out.many 1 (Dw.desigC a.n a.y a.h a.s a.c) ⟨3, a, zeroG, 0⟩ (by show 1 + 5 ≤ 12; decide) rfl)
        clear Y4
        have da0 := Y5.out.cell 0 _ rfl
        have OA := Lib.hid (dgone a)
        go_wp2_with (refine wpList_store_mid rfl _ (.tmp 51) (.tmp 49) rfl w3.heap.size 1 (Dw.desigC a.n a.y a.h a.s a.c).toArray rfl rfl ta infoDg OA.out ?_; rw [List.toList_toArray]; generalize wp.setCells w3.heap.size 1 (Dw.desigC a.n a.y a.h a.s a.c) = wq at *)
        refine (PA.out Q _ (HT.out _ Y5.out.below) (by omega)).mono ?_
        rintro e wr ⟨b, kb, rfl, hpb, hbp⟩
        have Y6 := Lib.hid (Y5.out.call hbp)
        clear Y5 hbp da0 ta
        have HPB := Lib.hid hpb
        have bb := parse_bd hpb
        clear hpb
        have tb := there_sub Y6.out.bx.th 6 5 (by show 6 + 5 ≤ 12; decide)
        have Y7 := Lib.hid (Y6.out.many 6 (Dw.desigC b.n b.y b.h b.s b.c) ⟨3, a, b, 0⟩ (by show 6 + 5 ≤ 12; decide) rfl)
        clear Y6
        have OB := Lib.hid (dgone b)
        obtain ⟨c, hc⟩ : ∃ c, (⟨3, a, b, 0⟩ : Cg) = c := ⟨_, rfl⟩
        have CI : Hid (CandIs s.data.toList c) := Lib.hid (by
          rw [← hc]
          have e1 := HC1.out
          have e2 := HC2.out
          change Lib.cut R.data.toList eqW = _ at e2
          refine ⟨?_, ⟨ka, ?_⟩, ?_, ?_⟩
          · rw [e1]; exact KW.out.symm
          · rw [e1]
            show ParseIs (if (3 : Int) = 1 then _ else if (3 : Int) = 4 then _ else (Lib.cut R.data.toList eqW).1) _ _
            rw [e2]
            exact HPA.out
          · rw [if_neg (by decide : ¬ ((3 : Int) = 1))]; refine ⟨kb, ?_⟩; rw [e1]; show ParseIs (if (3 : Int) = 4 then _ else (Lib.cut R.data.toList eqW).2.1) _ _; rw [e2]; exact HPB.out
          · rfl)
        have CBX : Hid (CB c) := Lib.hid (by
          rw [← hc]
          exact ⟨(show (0 : Int) ≤ 3 by decide), (show (3 : Int) < 256 by decide), ba.1, ba.2, bb.1, bb.2, (show (-9223372036854775808 : Int) ≤ 0 by decide), (show (0 : Int) ≤ 9223372036854775807 by decide)⟩)
        rw [hc] at Y7
        have hce : True := trivial
        clear hc HPA ba HPB bb KW HC1 HC2 PA AT
        go_upto_region 17 with (refine wpList_store_mid rfl _ (.tmp 60) (.tmp 58) rfl w3.heap.size 6 (Dw.desigC b.n b.y b.h b.s b.c).toArray rfl rfl tb infoDg OB.out ?_; rw [List.toList_toArray]; generalize wr.setCells w3.heap.size 6 (Dw.desigC b.n b.y b.h b.s b.c) = wv at *)
        have Y := Y7
        clear Y7 OA OB tb
        have rb := Y.out.bx.row
        have WC := Lib.hid (WR.out c _ (HT.out _ Y.out.below) CBX.out)
        have sc : Value.agg (cgC c).toArray = .agg (cgC c).toArray := rfl
        clear WR sc
        have HCE := Lib.hid hce
        have l12 : (cgC c).length = 12 := rfl
        obtain ⟨V, hV⟩ : ∃ V, cgC c = V := ⟨_, rfl⟩
        rw [hV] at WC rb l12
        have HV := Lib.hid hV
        have HI : Hid ((Tryd.prog.info? 52).map (·.size) = some V.length) := Lib.hid (by rw [l12]; exact infoCg)
        clear hV
        go_wp2_with (refine wpList_load_mid rfl _ (.tmp 10) rfl w3.heap.size 0 rfl V _ rb Tryd.underlying52 rfl HI.out ?_)
        refine WC.out.mono ?_
        rintro e wz ⟨t, r, rfl, hw, hbz⟩
        have Y9 := Lib.hid (Y.out.call hbz)
        clear WC Y hbz
        have tr := Y9.out.res.th
        have rb := Y9.out.bx.row
        rw [HV.out] at rb
        rcases hw with ⟨ok, ht, rfl⟩ | ⟨no, ht, rfl⟩
        · have zt : t.size ≤ 1000000 := by
            have : t.data.toList.length ≤ 200 := by rw [ht, List.length_append]; have := line_le ok; simp; omega
            exact Nat.le_trans this (by decide)
          by_cases eq : t.data.toList = s.data.toList ++ [10]
          · have f1 : (t.toList == S10.toList) = true := by rw [Lib.toList_data, Lib.toList_data, S10L.out, eq]; exact beq_self_eq_true _
            have f2 : (t.toList != S10.toList) = false := by rw [bne, f1]; rfl
            have RD : Hid (RdIs s.data.toList c 0) := Lib.hid (CandIs.yes ok (by rw [← ht, eq]))
            have EV : Hid (Value.agg V.toArray = .agg (cgC c).toArray) := Lib.hid (by rw [HV.out])
            have one := cgone c
            rw [HV.out] at one
            have sV : V.toArray.size = 12 := by rw [List.size_toArray, l12]
            have tr8 : wz.there w.heap.size 0 V.toArray.size := by rw [sV]; exact tr
            have in8 : (Tryd.prog.info? 52).map (·.size) = some V.toArray.size := by rw [sV]; exact infoCg
            have HL := Lib.hid (And.intro one (And.intro tr8 in8))
            have ZR := Lib.hid (Y9.out.res.sets V (by rw [l12]; rfl))
            have BE := Lib.hid (below_setCells w.heap.size (Nat.le_refl _) V 0 wz Y9.out.below)
            clear one sV tr8 in8 tr Y9 ok ht eq CI zt
            go_wp2_with (first | (refine wpList_load_mid rfl _ (.tmp 10) rfl w3.heap.size 0 rfl V _ rb Tryd.underlying52 rfl HI.out ?_) | (refine wpList_store_mid rfl _ (.tmp 2) (.tmp 75) rfl w.heap.size 0 V.toArray rfl rfl HL.out.2.1 HL.out.2.2 HL.out.1 ?_))
            exact bodyPost_ret (ret_cell_tmp Tryd.results18 _ _ w.heap.size V _ rfl ZR.out.row Tryd.underlying52 rfl HI.out) rfl ⟨c, 0, by rw [← HV.out]; rfl, RD.out, CBX.out, BE.out⟩
          · have f1 : (t.toList == S10.toList) = false := beq_eq_false_iff_ne.2 (by rw [Lib.toList_data, Lib.toList_data, S10L.out]; exact eq)
            have f2 : (t.toList != S10.toList) = true := by rw [bne, f1]; rfl
            have RD : Hid (RdIs s.data.toList zeroC 12) := Lib.hid (CI.out.no (fun h => eq (by rw [ht, h.2])))
            have BE := Lib.hid (below_setCells w.heap.size (Nat.le_refl _) (cgC zeroC) 0 wz Y9.out.below)
            have ZR := Lib.hid (Y9.out.res.sets (cgC zeroC) rfl)
            clear Y9 ok ht eq CI zt
            go_wp2_with (refine wpList_store_mid rfl _ (.tmp 2) (.tmp 74) rfl w.heap.size 0 (cgC zeroC).toArray rfl rfl tr infoCg (cgone zeroC) ?_)
            exact bodyPost_ret (ret_cell_tmp Tryd.results18 _ _ w.heap.size (cgC zeroC) _ rfl ZR.out.row Tryd.underlying52 rfl infoCg) rfl ⟨zeroC, 12, rfl, RD.out, CB.zero, BE.out⟩
        · have RD : Hid (RdIs s.data.toList zeroC 12) := Lib.hid (CI.out.no (fun h => no h.1))
          have BE := Lib.hid (below_setCells w.heap.size (Nat.le_refl _) (cgC zeroC) 0 wz Y9.out.below)
          have ZR := Lib.hid (Y9.out.res.sets (cgC zeroC) rfl)
          clear Y9 no ht CI
          go_wp2_with (refine wpList_store_mid rfl _ (.tmp 2) (.tmp 74) rfl w.heap.size 0 (cgC zeroC).toArray rfl rfl tr infoCg (cgone zeroC) ?_)
          exact bodyPost_ret (ret_cell_tmp Tryd.results18 _ _ w.heap.size (cgC zeroC) _ rfl ZR.out.row Tryd.underlying52 rfl infoCg) rfl ⟨zeroC, 12, rfl, RD.out, CB.zero, BE.out⟩
      · have fw3 : (W.toList == [110, 117, 109, 98, 101, 114]) = false := beq_eq_false_iff_ne.2 (by rw [Lib.toList_data]; exact w3e)
        by_cases w4e : W.data.toList = undoW
        · have fw4 : (W.toList == [117, 110, 100, 111]) = true := by rw [Lib.toList_data, w4e]; rfl
          have KW : Hid (kindW W.data.toList = 4) := Lib.hid (by unfold kindW; rw [if_neg w1e]; rw [if_neg w2e]; rw [if_neg w3e]; rw [if_pos w4e])
          clear w1e w2e w3e w4e
          have c0 := Y0.out.cell 0 _ rfl
          have f0 := Y0.out.bx.free (j := 0) (by decide)
          have Y1 := Lib.hid (Y0.out.one 0 (.int .u8 4) ⟨4, zeroG, zeroG, 0⟩ (by decide) rfl)
          clear Y0
          go_wp2_with fail
          generalize (wb.setCell ⟨w3.heap.size, 0, none⟩ (.int .u8 4)) = wk at *
          refine (AT.out R _ (by omega) (HE.out _ Y1.out.below) (HR.out _ Y1.out.below)).mono ?_
          rintro e wa ⟨N, ve, rfl, hN, hN0, hN1, hba⟩
          have Y2 := Lib.hid (Y1.out.call hba)
          clear c0 f0 Y1 hba
          have HNN := Lib.hid hN
          clear hN
          have c11 := Y2.out.cell 11 _ rfl
          have f11 := Y2.out.bx.free (j := 11) (by decide)
          have Y3 := Lib.hid (Y2.out.one 11 (.int .i64 N) ⟨4, zeroG, zeroG, N⟩ (by decide) rfl)
          clear Y2
          go_wp2_with fail
          generalize wa.setCell ⟨w3.heap.size, 11, none⟩ (.int .i64 N) = wk2 at *
          clear c11 f11
          refine (PA.out ⟨#[]⟩ _ (HT.out _ Y3.out.below) (by decide)).mono ?_
          rintro e wp ⟨a, ka, rfl, hpa, hbp⟩
          have Y4 := Lib.hid (Y3.out.call hbp)
          clear Y3 hbp
          have HPA := Lib.hid hpa
          have ba := parse_bd hpa
          clear hpa
          have ta := there_sub Y4.out.bx.th 1 5 (by show 1 + 5 ≤ 12; decide)
          have Y5 := Lib.hid (Y4.out.many 1 (Dw.desigC a.n a.y a.h a.s a.c) ⟨4, a, zeroG, N⟩ (by show 1 + 5 ≤ 12; decide) rfl)
          clear Y4
          have da0 := Y5.out.cell 0 _ rfl
          have OA := Lib.hid (dgone a)
          go_wp2_with (refine wpList_store_mid rfl _ (.tmp 51) (.tmp 49) rfl w3.heap.size 1 (Dw.desigC a.n a.y a.h a.s a.c).toArray rfl rfl ta infoDg OA.out ?_; rw [List.toList_toArray]; generalize wp.setCells w3.heap.size 1 (Dw.desigC a.n a.y a.h a.s a.c) = wq at *)
          refine (PA.out ⟨#[]⟩ _ (HT.out _ Y5.out.below) (by decide)).mono ?_
          rintro e wr ⟨b, kb, rfl, hpb, hbp⟩
          have Y6 := Lib.hid (Y5.out.call hbp)
          clear Y5 hbp da0 ta
          have HPB := Lib.hid hpb
          have bb := parse_bd hpb
          clear hpb
          have tb := there_sub Y6.out.bx.th 6 5 (by show 6 + 5 ≤ 12; decide)
          have Y7 := Lib.hid (Y6.out.many 6 (Dw.desigC b.n b.y b.h b.s b.c) ⟨4, a, b, N⟩ (by show 6 + 5 ≤ 12; decide) rfl)
          clear Y6
          have OB := Lib.hid (dgone b)
          obtain ⟨c, hc⟩ : ∃ c, (⟨4, a, b, N⟩ : Cg) = c := ⟨_, rfl⟩
          have CI : Hid (CandIs s.data.toList c) := Lib.hid (by
            rw [← hc]
            have e1 := HC1.out
            have e2 := HC2.out
            change Lib.cut R.data.toList eqW = _ at e2
            refine ⟨?_, ⟨ka, ?_⟩, ?_, ?_⟩
            · rw [e1]; exact KW.out.symm
            · rw [e1]
              show ParseIs (if (4 : Int) = 1 then _ else if (4 : Int) = 4 then _ else (Lib.cut R.data.toList eqW).1) _ _
              rw [e2]
              exact HPA.out
            · rw [if_neg (by decide : ¬ ((4 : Int) = 1))]; refine ⟨kb, ?_⟩; rw [e1]; show ParseIs (if (4 : Int) = 4 then _ else (Lib.cut R.data.toList eqW).2.1) _ _; rw [e2]; exact HPB.out
            · rw [e1]; exact HNN.out)
          have CBX : Hid (CB c) := Lib.hid (by
            rw [← hc]
            exact ⟨(show (0 : Int) ≤ 4 by decide), (show (4 : Int) < 256 by decide), ba.1, ba.2, bb.1, bb.2, hN0, hN1⟩)
          rw [hc] at Y7
          have hce : True := trivial
          clear hc HPA ba HPB bb HNN hN0 hN1 KW HC1 HC2 PA AT
          go_upto_region 17 with (refine wpList_store_mid rfl _ (.tmp 60) (.tmp 58) rfl w3.heap.size 6 (Dw.desigC b.n b.y b.h b.s b.c).toArray rfl rfl tb infoDg OB.out ?_; rw [List.toList_toArray]; generalize wr.setCells w3.heap.size 6 (Dw.desigC b.n b.y b.h b.s b.c) = wv at *)
          have Y := Y7
          clear Y7 OA OB tb
          have rb := Y.out.bx.row
          have WC := Lib.hid (WR.out c _ (HT.out _ Y.out.below) CBX.out)
          have sc : Value.agg (cgC c).toArray = .agg (cgC c).toArray := rfl
          clear WR sc
          have HCE := Lib.hid hce
          have l12 : (cgC c).length = 12 := rfl
          obtain ⟨V, hV⟩ : ∃ V, cgC c = V := ⟨_, rfl⟩
          rw [hV] at WC rb l12
          have HV := Lib.hid hV
          have HI : Hid ((Tryd.prog.info? 52).map (·.size) = some V.length) := Lib.hid (by rw [l12]; exact infoCg)
          clear hV
          go_wp2_with (refine wpList_load_mid rfl _ (.tmp 10) rfl w3.heap.size 0 rfl V _ rb Tryd.underlying52 rfl HI.out ?_)
          refine WC.out.mono ?_
          rintro e wz ⟨t, r, rfl, hw, hbz⟩
          have Y9 := Lib.hid (Y.out.call hbz)
          clear WC Y hbz
          have tr := Y9.out.res.th
          have rb := Y9.out.bx.row
          rw [HV.out] at rb
          rcases hw with ⟨ok, ht, rfl⟩ | ⟨no, ht, rfl⟩
          · have zt : t.size ≤ 1000000 := by
              have : t.data.toList.length ≤ 200 := by rw [ht, List.length_append]; have := line_le ok; simp; omega
              exact Nat.le_trans this (by decide)
            by_cases eq : t.data.toList = s.data.toList ++ [10]
            · have f1 : (t.toList == S10.toList) = true := by rw [Lib.toList_data, Lib.toList_data, S10L.out, eq]; exact beq_self_eq_true _
              have f2 : (t.toList != S10.toList) = false := by rw [bne, f1]; rfl
              have RD : Hid (RdIs s.data.toList c 0) := Lib.hid (CandIs.yes ok (by rw [← ht, eq]))
              have EV : Hid (Value.agg V.toArray = .agg (cgC c).toArray) := Lib.hid (by rw [HV.out])
              have one := cgone c
              rw [HV.out] at one
              have sV : V.toArray.size = 12 := by rw [List.size_toArray, l12]
              have tr8 : wz.there w.heap.size 0 V.toArray.size := by rw [sV]; exact tr
              have in8 : (Tryd.prog.info? 52).map (·.size) = some V.toArray.size := by rw [sV]; exact infoCg
              have HL := Lib.hid (And.intro one (And.intro tr8 in8))
              have ZR := Lib.hid (Y9.out.res.sets V (by rw [l12]; rfl))
              have BE := Lib.hid (below_setCells w.heap.size (Nat.le_refl _) V 0 wz Y9.out.below)
              clear one sV tr8 in8 tr Y9 ok ht eq CI zt
              go_wp2_with (first | (refine wpList_load_mid rfl _ (.tmp 10) rfl w3.heap.size 0 rfl V _ rb Tryd.underlying52 rfl HI.out ?_) | (refine wpList_store_mid rfl _ (.tmp 2) (.tmp 75) rfl w.heap.size 0 V.toArray rfl rfl HL.out.2.1 HL.out.2.2 HL.out.1 ?_))
              exact bodyPost_ret (ret_cell_tmp Tryd.results18 _ _ w.heap.size V _ rfl ZR.out.row Tryd.underlying52 rfl HI.out) rfl ⟨c, 0, by rw [← HV.out]; rfl, RD.out, CBX.out, BE.out⟩
            · have f1 : (t.toList == S10.toList) = false := beq_eq_false_iff_ne.2 (by rw [Lib.toList_data, Lib.toList_data, S10L.out]; exact eq)
              have f2 : (t.toList != S10.toList) = true := by rw [bne, f1]; rfl
              have RD : Hid (RdIs s.data.toList zeroC 12) := Lib.hid (CI.out.no (fun h => eq (by rw [ht, h.2])))
              have BE := Lib.hid (below_setCells w.heap.size (Nat.le_refl _) (cgC zeroC) 0 wz Y9.out.below)
              have ZR := Lib.hid (Y9.out.res.sets (cgC zeroC) rfl)
              clear Y9 ok ht eq CI zt
              go_wp2_with (refine wpList_store_mid rfl _ (.tmp 2) (.tmp 74) rfl w.heap.size 0 (cgC zeroC).toArray rfl rfl tr infoCg (cgone zeroC) ?_)
              exact bodyPost_ret (ret_cell_tmp Tryd.results18 _ _ w.heap.size (cgC zeroC) _ rfl ZR.out.row Tryd.underlying52 rfl infoCg) rfl ⟨zeroC, 12, rfl, RD.out, CB.zero, BE.out⟩
          · have RD : Hid (RdIs s.data.toList zeroC 12) := Lib.hid (CI.out.no (fun h => no h.1))
            have BE := Lib.hid (below_setCells w.heap.size (Nat.le_refl _) (cgC zeroC) 0 wz Y9.out.below)
            have ZR := Lib.hid (Y9.out.res.sets (cgC zeroC) rfl)
            clear Y9 no ht CI
            go_wp2_with (refine wpList_store_mid rfl _ (.tmp 2) (.tmp 74) rfl w.heap.size 0 (cgC zeroC).toArray rfl rfl tr infoCg (cgone zeroC) ?_)
            exact bodyPost_ret (ret_cell_tmp Tryd.results18 _ _ w.heap.size (cgC zeroC) _ rfl ZR.out.row Tryd.underlying52 rfl infoCg) rfl ⟨zeroC, 12, rfl, RD.out, CB.zero, BE.out⟩
        · have fw4 : (W.toList == [117, 110, 100, 111]) = false := beq_eq_false_iff_ne.2 (by rw [Lib.toList_data]; exact w4e)
          have KW : Hid (kindW W.data.toList = 0) := Lib.hid (by unfold kindW; rw [if_neg w1e]; rw [if_neg w2e]; rw [if_neg w3e]; rw [if_neg w4e])
          clear w1e w2e w3e w4e
          have c0 := Y0.out.cell 0 _ rfl
          have f0 := Y0.out.bx.free (j := 0) (by decide)
          have Y1 := Y0
          clear Y0
          go_wp2_with fail
          clear c0 f0
          refine (PA.out L _ (HT.out _ Y1.out.below) (by omega)).mono ?_
          rintro e wp ⟨a, ka, rfl, hpa, hbp⟩
          have Y4 := Lib.hid (Y1.out.call hbp)
          clear Y1 hbp
          have HPA := Lib.hid hpa
          have ba := parse_bd hpa
          clear hpa
          have ta := there_sub Y4.out.bx.th 1 5 (by show 1 + 5 ≤ 12; decide)
          have Y5 := Lib.hid (Y4.out.many 1 (Dw.desigC a.n a.y a.h a.s a.c) ⟨0, a, zeroG, 0⟩ (by show 1 + 5 ≤ 12; decide) rfl)
          clear Y4
          have da0 := Y5.out.cell 0 _ rfl
          have OA := Lib.hid (dgone a)
          go_wp2_with (refine wpList_store_mid rfl _ (.tmp 51) (.tmp 49) rfl w3.heap.size 1 (Dw.desigC a.n a.y a.h a.s a.c).toArray rfl rfl ta infoDg OA.out ?_; rw [List.toList_toArray]; generalize wp.setCells w3.heap.size 1 (Dw.desigC a.n a.y a.h a.s a.c) = wq at *)
          refine (PA.out Q _ (HT.out _ Y5.out.below) (by omega)).mono ?_
          rintro e wr ⟨b, kb, rfl, hpb, hbp⟩
          have Y6 := Lib.hid (Y5.out.call hbp)
          clear Y5 hbp da0 ta
          have HPB := Lib.hid hpb
          have bb := parse_bd hpb
          clear hpb
          have tb := there_sub Y6.out.bx.th 6 5 (by show 6 + 5 ≤ 12; decide)
          have Y7 := Lib.hid (Y6.out.many 6 (Dw.desigC b.n b.y b.h b.s b.c) ⟨0, a, b, 0⟩ (by show 6 + 5 ≤ 12; decide) rfl)
          clear Y6
          have OB := Lib.hid (dgone b)
          obtain ⟨c, hc⟩ : ∃ c, (⟨0, a, b, 0⟩ : Cg) = c := ⟨_, rfl⟩
          have CI : Hid (CandIs s.data.toList c) := Lib.hid (by
            rw [← hc]
            have e1 := HC1.out
            have e2 := HC2.out
            change Lib.cut R.data.toList eqW = _ at e2
            refine ⟨?_, ⟨ka, ?_⟩, ?_, ?_⟩
            · rw [e1]; exact KW.out.symm
            · rw [e1]
              show ParseIs (if (0 : Int) = 1 then _ else if (0 : Int) = 4 then _ else (Lib.cut R.data.toList eqW).1) _ _
              rw [e2]
              exact HPA.out
            · rw [if_neg (by decide : ¬ ((0 : Int) = 1))]; refine ⟨kb, ?_⟩; rw [e1]; show ParseIs (if (0 : Int) = 4 then _ else (Lib.cut R.data.toList eqW).2.1) _ _; rw [e2]; exact HPB.out
            · rfl)
          have CBX : Hid (CB c) := Lib.hid (by
            rw [← hc]
            exact ⟨(show (0 : Int) ≤ 0 by decide), (show (0 : Int) < 256 by decide), ba.1, ba.2, bb.1, bb.2, (show (-9223372036854775808 : Int) ≤ 0 by decide), (show (0 : Int) ≤ 9223372036854775807 by decide)⟩)
          rw [hc] at Y7
          have hce : True := trivial
          clear hc HPA ba HPB bb KW HC1 HC2 PA AT
          go_upto_region 17 with (refine wpList_store_mid rfl _ (.tmp 60) (.tmp 58) rfl w3.heap.size 6 (Dw.desigC b.n b.y b.h b.s b.c).toArray rfl rfl tb infoDg OB.out ?_; rw [List.toList_toArray]; generalize wr.setCells w3.heap.size 6 (Dw.desigC b.n b.y b.h b.s b.c) = wv at *)
          have Y := Y7
          clear Y7 OA OB tb
          have rb := Y.out.bx.row
          have WC := Lib.hid (WR.out c _ (HT.out _ Y.out.below) CBX.out)
          have sc : Value.agg (cgC c).toArray = .agg (cgC c).toArray := rfl
          clear WR sc
          have HCE := Lib.hid hce
          have l12 : (cgC c).length = 12 := rfl
          obtain ⟨V, hV⟩ : ∃ V, cgC c = V := ⟨_, rfl⟩
          rw [hV] at WC rb l12
          have HV := Lib.hid hV
          have HI : Hid ((Tryd.prog.info? 52).map (·.size) = some V.length) := Lib.hid (by rw [l12]; exact infoCg)
          clear hV
          go_wp2_with (refine wpList_load_mid rfl _ (.tmp 10) rfl w3.heap.size 0 rfl V _ rb Tryd.underlying52 rfl HI.out ?_)
          refine WC.out.mono ?_
          rintro e wz ⟨t, r, rfl, hw, hbz⟩
          have Y9 := Lib.hid (Y.out.call hbz)
          clear WC Y hbz
          have tr := Y9.out.res.th
          have rb := Y9.out.bx.row
          rw [HV.out] at rb
          rcases hw with ⟨ok, ht, rfl⟩ | ⟨no, ht, rfl⟩
          · have zt : t.size ≤ 1000000 := by
              have : t.data.toList.length ≤ 200 := by rw [ht, List.length_append]; have := line_le ok; simp; omega
              exact Nat.le_trans this (by decide)
            by_cases eq : t.data.toList = s.data.toList ++ [10]
            · have f1 : (t.toList == S10.toList) = true := by rw [Lib.toList_data, Lib.toList_data, S10L.out, eq]; exact beq_self_eq_true _
              have f2 : (t.toList != S10.toList) = false := by rw [bne, f1]; rfl
              have RD : Hid (RdIs s.data.toList c 0) := Lib.hid (CandIs.yes ok (by rw [← ht, eq]))
              have EV : Hid (Value.agg V.toArray = .agg (cgC c).toArray) := Lib.hid (by rw [HV.out])
              have one := cgone c
              rw [HV.out] at one
              have sV : V.toArray.size = 12 := by rw [List.size_toArray, l12]
              have tr8 : wz.there w.heap.size 0 V.toArray.size := by rw [sV]; exact tr
              have in8 : (Tryd.prog.info? 52).map (·.size) = some V.toArray.size := by rw [sV]; exact infoCg
              have HL := Lib.hid (And.intro one (And.intro tr8 in8))
              have ZR := Lib.hid (Y9.out.res.sets V (by rw [l12]; rfl))
              have BE := Lib.hid (below_setCells w.heap.size (Nat.le_refl _) V 0 wz Y9.out.below)
              clear one sV tr8 in8 tr Y9 ok ht eq CI zt
              go_wp2_with (first | (refine wpList_load_mid rfl _ (.tmp 10) rfl w3.heap.size 0 rfl V _ rb Tryd.underlying52 rfl HI.out ?_) | (refine wpList_store_mid rfl _ (.tmp 2) (.tmp 75) rfl w.heap.size 0 V.toArray rfl rfl HL.out.2.1 HL.out.2.2 HL.out.1 ?_))
              exact bodyPost_ret (ret_cell_tmp Tryd.results18 _ _ w.heap.size V _ rfl ZR.out.row Tryd.underlying52 rfl HI.out) rfl ⟨c, 0, by rw [← HV.out]; rfl, RD.out, CBX.out, BE.out⟩
            · have f1 : (t.toList == S10.toList) = false := beq_eq_false_iff_ne.2 (by rw [Lib.toList_data, Lib.toList_data, S10L.out]; exact eq)
              have f2 : (t.toList != S10.toList) = true := by rw [bne, f1]; rfl
              have RD : Hid (RdIs s.data.toList zeroC 12) := Lib.hid (CI.out.no (fun h => eq (by rw [ht, h.2])))
              have BE := Lib.hid (below_setCells w.heap.size (Nat.le_refl _) (cgC zeroC) 0 wz Y9.out.below)
              have ZR := Lib.hid (Y9.out.res.sets (cgC zeroC) rfl)
              clear Y9 ok ht eq CI zt
              go_wp2_with (refine wpList_store_mid rfl _ (.tmp 2) (.tmp 74) rfl w.heap.size 0 (cgC zeroC).toArray rfl rfl tr infoCg (cgone zeroC) ?_)
              exact bodyPost_ret (ret_cell_tmp Tryd.results18 _ _ w.heap.size (cgC zeroC) _ rfl ZR.out.row Tryd.underlying52 rfl infoCg) rfl ⟨zeroC, 12, rfl, RD.out, CB.zero, BE.out⟩
          · have RD : Hid (RdIs s.data.toList zeroC 12) := Lib.hid (CI.out.no (fun h => no h.1))
            have BE := Lib.hid (below_setCells w.heap.size (Nat.le_refl _) (cgC zeroC) 0 wz Y9.out.below)
            have ZR := Lib.hid (Y9.out.res.sets (cgC zeroC) rfl)
            clear Y9 no ht CI
            go_wp2_with (refine wpList_store_mid rfl _ (.tmp 2) (.tmp 74) rfl w.heap.size 0 (cgC zeroC).toArray rfl rfl tr infoCg (cgone zeroC) ?_)
            exact bodyPost_ret (ret_cell_tmp Tryd.results18 _ _ w.heap.size (cgC zeroC) _ rfl ZR.out.row Tryd.underlying52 rfl infoCg) rfl ⟨zeroC, 12, rfl, RD.out, CB.zero, BE.out⟩
end Cgw
end Go.Proofs.YtafeigpmldgifaaDoor
/-
  Plain law: all lines of changes, written and read.
-/
namespace Go.Proofs.YtafeigpmldgifaaDoor
namespace Cgp
open Go.RowKit Lw Go.Proofs.YtafeigpmldgifaaDoor.Dp Go.Proofs.YtafeigpmldgifaaDoor.Cgw

theorem itoa_nlf (n : Int) (h0 : 0 ≤ n) : ∀ x ∈ Lib.itoa n, x ≠ 10 := by
  obtain ⟨m, rfl⟩ := Int.eq_ofNat_of_zero_le h0
  intro x hx
  rw [itoa_nat] at hx
  exact (dig_ne ((dd_val m).2 x hx)).2
theorem eqW_nlf : ∀ x ∈ eqW, x ≠ 10 := by decide
theorem rest_nlf {c : Cg} (g : okC c) : ∀ x ∈ restC c, x ≠ 10 := by
  intro x hx
  rcases g with ⟨h1, h2, h3, h4, h5⟩ | ⟨h1, h2, h3, h4, h5⟩ | ⟨h1, h2, h3, h4, h5⟩ | ⟨h1, h2, h3, h4, h5⟩
  · unfold restC at hx
    rw [if_pos h1] at hx
    exact (text_ne h2 x hx).2
  · unfold restC at hx
    rw [if_neg (by omega), if_pos (Or.inl h1)] at hx
    rcases List.mem_append.1 hx with hx | hx
    · exact (text_ne h2 x hx).2
    · rcases List.mem_append.1 hx with hx | hx
      · exact eqW_nlf x hx
      · exact (text_ne h3 x hx).2
  · unfold restC at hx
    rw [if_neg (by omega), if_pos (Or.inr h1)] at hx
    rcases List.mem_append.1 hx with hx | hx
    · exact (text_ne h2 x hx).2
    · rcases List.mem_append.1 hx with hx | hx
      · exact eqW_nlf x hx
      · exact (text_ne h3 x hx).2
  · unfold restC at hx
    rw [if_neg (by omega), if_neg (by omega)] at hx
    exact itoa_nlf _ h4 x hx
theorem line_nlf {c : Cg} (g : okC c) : ∀ x ∈ lineC c, x ≠ 10 := by
  intro x hx
  unfold lineC at hx
  rcases List.mem_append.1 hx with hx | hx
  · exact (word_ne c x hx).2
  · rcases List.mem_cons.1 hx with rfl | hx
    · decide
    · exact rest_nlf g x hx
/-- The lines of changes. -/
def flatC (l : List Cg) : List UInt8 := l.flatMap (fun c => lineC c ++ [10])
theorem flatC_cons (c : Cg) (l : List Cg) : flatC (c :: l) = lineC c ++ 10 :: flatC l := by
  unfold flatC
  rw [List.flatMap_cons, List.append_assoc]
  rfl
theorem flatC_snoc (l : List Cg) (c : Cg) : flatC (l ++ [c]) = flatC l ++ (lineC c ++ [10]) := by
  unfold flatC
  rw [List.flatMap_append]
  simp
/-- The first line feed parts a string in one way alone. -/
theorem first_lf : ∀ {p q r s : List UInt8}, (∀ x ∈ p, x ≠ 10) → (∀ x ∈ q, x ≠ 10) → p ++ 10 :: r = q ++ 10 :: s → p = q ∧ r = s
  | [], [], _, _, _, _, h => ⟨rfl, (List.cons.inj h).2⟩
  | [], b :: q, _, _, _, hq, h => absurd (List.cons.inj h).1.symm (hq b (List.mem_cons_self ..))
  | a :: p, [], _, _, hp, _, h => absurd (List.cons.inj h).1 (hp a (List.mem_cons_self ..))
  | a :: p, b :: q, _, _, hp, hq, h => by
    obtain ⟨e, h⟩ := List.cons.inj h
    obtain ⟨e2, e3⟩ := first_lf (fun x hx => hp x (List.mem_cons_of_mem _ hx)) (fun x hx => hq x (List.mem_cons_of_mem _ hx)) h
    exact ⟨by rw [e, e2], e3⟩
theorem flatC_inj : ∀ {l m : List Cg}, (∀ c ∈ l, okC c) → (∀ c ∈ m, okC c) → flatC l = flatC m → l = m
  | [], [], _, _, _ => rfl
  | [], c :: m, _, _, h => by rw [flatC_cons] at h; exact absurd h (by simp [flatC])
  | c :: l, [], _, _, h => by rw [flatC_cons] at h; exact absurd h.symm (by simp [flatC])
  | c :: l, d :: m, hl, hm, h => by
    rw [flatC_cons, flatC_cons] at h
    have gc := hl c (List.mem_cons_self ..)
    have gd := hm d (List.mem_cons_self ..)
    obtain ⟨e1, e2⟩ := first_lf (line_nlf gc) (line_nlf gd) h
    rw [line_inj gc gd e1, flatC_inj (fun x hx => hl x (List.mem_cons_of_mem _ hx)) (fun x hx => hm x (List.mem_cons_of_mem _ hx)) e2]
/-- What begins with known lines goes on with lines. -/
theorem flatC_tail : ∀ {l m : List Cg} {r : List UInt8}, (∀ c ∈ l, okC c) → (∀ c ∈ m, okC c) → flatC m = flatC l ++ r → ∃ k, (∀ c ∈ k, okC c) ∧ flatC k = r ∧ m = l ++ k
  | [], m, r, _, hm, h => ⟨m, hm, h, rfl⟩
  | c :: l, [], r, _, _, h => by rw [flatC_cons] at h; exact absurd h (by simp [flatC])
  | c :: l, d :: m, r, hl, hm, h => by
    rw [flatC_cons, flatC_cons, List.append_assoc, List.cons_append] at h
    have gc := hl c (List.mem_cons_self ..)
    have gd := hm d (List.mem_cons_self ..)
    obtain ⟨e1, e2⟩ := first_lf (line_nlf gd) (line_nlf gc) h
    obtain ⟨k, k1, k2, k3⟩ := flatC_tail (fun x hx => hl x (List.mem_cons_of_mem _ hx)) (fun x hx => hm x (List.mem_cons_of_mem _ hx)) e2
    exact ⟨k, k1, k2, by rw [line_inj gd gc e1, k3]; rfl⟩
def RdAllIs (s : List UInt8) (l : List Cg) (k : Int) : Prop := ((∀ c ∈ l, okC c) ∧ flatC l = s ∧ k = 0) ∨ ((∀ m, (∀ c ∈ m, okC c) → flatC m ≠ s) ∧ l = [] ∧ k = 12)
theorem RdAllIs.uniq {s : List UInt8} {l m : List Cg} {k j : Int} (a : RdAllIs s l k) (b : RdAllIs s m j) : l = m ∧ k = j := by
  rcases a with ⟨a1, a2, a3⟩ | ⟨a1, a2, a3⟩ <;> rcases b with ⟨b1, b2, b3⟩ | ⟨b1, b2, b3⟩
  · exact ⟨flatC_inj a1 b1 (a2.trans b2.symm), a3.trans b3.symm⟩
  · exact absurd a2 (b1 l a1)
  · exact absurd b2 (a1 m b1)
  · exact ⟨a2.trans b2.symm, a3.trans b3.symm⟩
/-- A line that is none ends the reading. -/
theorem rdall_bad {s p r : List UInt8} {l : List Cg} (hl : ∀ c ∈ l, okC c) (hs : s = flatC l ++ (p ++ 10 :: r)) (hp : ∀ x ∈ p, x ≠ 10) (h : ∀ e, okC e → lineC e ≠ p) : RdAllIs s [] 12 :=
  Or.inr ⟨fun m hm e => by
    obtain ⟨k, k1, k2, _⟩ := flatC_tail hl hm (e.trans hs)
    cases k with
    | nil => exact absurd k2 (by simp [flatC])
    | cons d k =>
      rw [flatC_cons] at k2
      have gd := k1 d (List.mem_cons_self ..)
      exact h d gd (first_lf (line_nlf gd) hp k2).1, rfl, rfl⟩
/-- A rest without a line feed ends the reading, too. -/
theorem rdall_open {s p : List UInt8} {l : List Cg} (hl : ∀ c ∈ l, okC c) (hs : s = flatC l ++ p) (hp : ∀ x ∈ p, x ≠ 10) (h0 : p ≠ []) : RdAllIs s [] 12 :=
  Or.inr ⟨fun m hm e => by
    obtain ⟨k, k1, k2, _⟩ := flatC_tail hl hm (e.trans hs)
    cases k with
    | nil => exact h0 (by rw [← k2]; rfl)
    | cons d k =>
      rw [flatC_cons] at k2
      have : (10 : UInt8) ∈ p := by rw [← k2]; simp
      exact hp 10 this rfl, rfl, rfl⟩
def WrAllIs (l : List Cg) (s : List UInt8) (k : Int) : Prop :=
  (500 < l.length ∧ s = [] ∧ k = 4) ∨ (l.length ≤ 500 ∧ (∃ c ∈ l, ¬ okC c) ∧ s = [] ∧ k = 8) ∨ (l.length ≤ 500 ∧ (∀ c ∈ l, okC c) ∧ s = flatC l ∧ k = 0)
theorem WrAllIs.uniq {l : List Cg} {s t : List UInt8} {k j : Int} (a : WrAllIs l s k) (b : WrAllIs l t j) : s = t ∧ k = j := by
  rcases a with ⟨a1, a2, a3⟩ | ⟨a1, ⟨c, hc, nc⟩, a2, a3⟩ | ⟨a1, g, a2, a3⟩ <;> rcases b with ⟨b1, b2, b3⟩ | ⟨b1, ⟨d, hd, nd⟩, b2, b3⟩ | ⟨b1, g', b2, b3⟩
  · exact ⟨a2.trans b2.symm, a3.trans b3.symm⟩
  · omega
  · omega
  · omega
  · exact ⟨a2.trans b2.symm, a3.trans b3.symm⟩
  · exact absurd (g' c hc) nc
  · omega
  · exact absurd (g d hd) nd
  · exact ⟨a2.trans b2.symm, a3.trans b3.symm⟩
theorem flat_le : ∀ {l : List Cg}, (∀ c ∈ l, okC c) → (flatC l).length ≤ 300 * l.length
  | [], _ => by simp [flatC]
  | c :: l, h => by
    have := line_le (h c (List.mem_cons_self ..))
    have := flat_le (fun x hx => h x (List.mem_cons_of_mem _ hx))
    rw [flatC_cons, List.length_append, List.length_cons, List.length_cons]
    omega
end Cgp
end Go.Proofs.YtafeigpmldgifaaDoor
/-
  The walks of Check of package obs and of the reference.
-/
namespace Go.Proofs.YtafeigpmldgifaaDoor
namespace Ow
open Go.RowKit Lw Go.Proofs.YtafeigpmldgifaaDoor.Ap Go.Proofs.YtafeigpmldgifaaDoor.Op Go.Proofs.YtafeigpmldgifaaDoor.Mp Go.Proofs.YtafeigpmldgifaaDoor.Mw

def TimePost (t : Int) (w : World) (e : Ending) (w' : World) : Prop := ∃ y m d h i s u c : Int, e = .returned (.tuple #[dateV y m d h i s u, .int .i64 c]) ∧ ((timeP t ∧ c = 0) ∨ (¬ timeP t ∧ c = 16)) ∧ Below w.heap.size w w'
/-- An observation in its box. -/
structure OX (w0 : World) (b : Nat) (o : Ob) (w : World) : Prop where
  below : Below w0.heap.size w0 w
  lt : b < w.heap.size
  row : w.rangeAt b 0 (obsC o)
theorem OX.call {w0 w w' : World} {b : Nat} {o : Ob} (h : OX w0 b o w) (hb : Below w.heap.size w w') : OX w0 b o w' := ⟨below_then h.below hb, Nat.lt_of_lt_of_le h.lt hb.size, rangeAt_below h.row hb h.lt⟩
/-- The numbers of an observation are in their ranges. -/
def rngP (ra dec sg : Int) : Prop := 0 ≤ ra ∧ ra < 1296000000000 ∧ -324000000000 ≤ dec ∧ dec ≤ 324000000000 ∧ 1 ≤ sg ∧ sg ≤ 10000000000
instance (ra dec sg : Int) : Decidable (rngP ra dec sg) := by unfold rngP; infer_instance
theorem rng_cases (ra dec sg : Int) : rngP ra dec sg ∨ (¬ rngP ra dec sg ∧ (ra < 0 ∨ (0 ≤ ra ∧ 1296000000000 ≤ ra) ∨ (0 ≤ ra ∧ ra < 1296000000000 ∧ dec < -324000000000) ∨ (0 ≤ ra ∧ ra < 1296000000000 ∧ -324000000000 ≤ dec ∧ 324000000000 < dec) ∨ (0 ≤ ra ∧ ra < 1296000000000 ∧ -324000000000 ≤ dec ∧ dec ≤ 324000000000 ∧ sg < 1) ∨ (0 ≤ ra ∧ ra < 1296000000000 ∧ -324000000000 ≤ dec ∧ dec ≤ 324000000000 ∧ 1 ≤ sg ∧ 10000000000 < sg))) := by
  unfold rngP; omega
theorem mag_cases (m b : Int) : (m = 9999 ∧ b = 32 ∧ magP m b) ∨ (m ≠ 9999 ∧ b = 32 ∧ m < -500 ∧ ¬ magP m b) ∨ (m ≠ 9999 ∧ b = 32 ∧ -500 ≤ m ∧ 3000 < m ∧ ¬ magP m b) ∨ (m ≠ 9999 ∧ b = 32 ∧ -500 ≤ m ∧ m ≤ 3000 ∧ magP m b) ∨
    (b ≠ 32 ∧ m < -500 ∧ ¬ magP m b) ∨ (b ≠ 32 ∧ -500 ≤ m ∧ 3000 < m ∧ m ≠ 9999 ∧ ¬ magP m b) ∨ (b ≠ 32 ∧ m = 9999 ∧ ¬ magP m b) ∨ (b ≠ 32 ∧ -500 ≤ m ∧ m ≤ 3000 ∧ m ≠ 9999 ∧ (magP m b ↔ ltP b)) := by
  by_cases hb : b = 32
  · by_cases h9 : m = 9999
    · exact Or.inl ⟨h9, hb, Or.inl ⟨h9, hb⟩⟩
    · by_cases h1 : m < -500
      · exact Or.inr (Or.inl ⟨h9, hb, h1, fun g => by unfold magP at g; omega⟩)
      · by_cases h2 : 3000 < m
        · exact Or.inr (Or.inr (Or.inl ⟨h9, hb, by omega, h2, fun g => by unfold magP at g; omega⟩))
        · exact Or.inr (Or.inr (Or.inr (Or.inl ⟨h9, hb, by omega, by omega, Or.inr ⟨by omega, by omega, Or.inl hb⟩⟩)))
  · refine Or.inr (Or.inr (Or.inr (Or.inr ?_)))
    by_cases h1 : m < -500
    · exact Or.inl ⟨hb, h1, fun g => by unfold magP at g; omega⟩
    · by_cases h9 : m = 9999
      · exact Or.inr (Or.inr (Or.inl ⟨hb, h9, fun g => by unfold magP at g; omega⟩))
      · by_cases h2 : 3000 < m
        · exact Or.inr (Or.inl ⟨hb, by omega, h2, h9, fun g => by unfold magP at g; omega⟩)
        · refine Or.inr (Or.inr (Or.inr ⟨hb, by omega, by omega, h9, fun g => ?_, fun g => Or.inr ⟨by omega, by omega, Or.inr g⟩⟩))
          rcases g with ⟨_, g⟩ | ⟨_, _, g | g⟩
          · exact absurd g hb
          · exact absurd g hb
          · exact g
/-- What is asked of an observation, but for its magnitude. -/
def preB (o : Ob) : Bool := decide (timeP o.t ∧ nameP o.name ∧ o.site.size = 3 ∧ wordP o.site.data.toList ∧ rngP o.ra o.dec o.sg)
/-- The first four of these. -/
def preA (o : Ob) : Bool := decide (timeP o.t ∧ nameP o.name ∧ o.site.size = 3 ∧ wordP o.site.data.toList)
theorem preB_of (o : Ob) : preB o = (preA o && decide (rngP o.ra o.dec o.sg)) := by
  unfold preB preA
  rw [← Bool.decide_and]
  exact decide_eq_decide.2 ⟨fun ⟨a, b, c, d, e⟩ => ⟨⟨a, b, c, d⟩, e⟩, fun ⟨⟨a, b, c, d⟩, e⟩ => ⟨a, b, c, d, e⟩⟩
theorem okO_pre (o : Ob) : okO o ↔ preB o = true ∧ magP o.mag o.band := by
  unfold okO preB rngP
  rw [decide_eq_true_eq]
  constructor
  · rintro ⟨a, b, c, d, e, f, g, h, i, j, k⟩; exact ⟨⟨a, b, c, d, e, f, g, h, i, j⟩, k⟩
  · rintro ⟨⟨a, b, c, d, e, f, g, h, i, j⟩, k⟩; exact ⟨a, b, c, d, e, f, g, h, i, j, k⟩
theorem check_ok {o : Ob} (h : preB o = true) (g : magP o.mag o.band) : checkC o = 0 := if_pos ((okO_pre o).2 ⟨h, g⟩)
theorem check_m {o : Ob} (g : ¬ magP o.mag o.band) : checkC o = 8 := if_neg fun x => g ((okO_pre o).1 x).2
theorem check_p {o : Ob} (h : preB o = false) : checkC o = 8 := if_neg fun x => by rw [((okO_pre o).1 x).1] at h; cases h
end Ow
end Go.Proofs.YtafeigpmldgifaaDoor
/-
  The library contracts once more, by another name.
-/
/-
  Texts of numbers: pad, glue and clock of package angle.
-/
namespace Go.Proofs.YtafeigpmldgifaaDoor
namespace Gt
open Go.RowKit Lw Gp

theorem gPow : Tryd.prog.globalNamed "internal/strconv.uint64pow10" = some 6 := by kernel_rfl
/-- The library's table of powers of ten holds what its initialiser lays. -/
def Tab (w : World) : Prop := Lib.TabIs Tryd.prog w "internal/strconv.uint64pow10" .u64 Lib.pow10Tab
theorem Tab.below {w w' : World} (h : Tab w) (hb : Below w.heap.size w w') : Tab w' := Joins.tab_stays gPow h hb (Nat.le_refl _)

/-- A number with at least so many digits. -/
def padL (n : Int) (d : Nat) : List UInt8 := Lib.repeatL [48] (d - (Lib.itoa n).length) ++ Lib.itoa n
theorem below_grow (w : World) (k : Nat) (os : Array Obj) : Below w.heap.size w (Go.Sort.grow (w.drewN k) os) :=
  ⟨rfl, rfl, rfl, by simp [Go.Sort.grow, World.drewN], fun j hj => by
    show (w.heap ++ os)[j]? = w.heap[j]?
    rw [Array.getElem?_append_left hj]⟩
theorem rep_len (k : Nat) : (Lib.repeatL [48] k).length = k := by
  induction k with
  | zero => rfl
  | succ k ih => simp_all [Lib.repeatL]
theorem str_app (a b : List UInt8) : ((⟨a.toArray⟩ : ByteArray) ++ ⟨b.toArray⟩) = ⟨(a ++ b).toArray⟩ := by
  apply ByteArray.ext
  simp [ByteArray.data_append]

theorem pad_len (n : Int) (d : Nat) (h0 : 0 ≤ n) (h1 : n ≤ 1000000000000000000) (hd : d ≤ 20) : (padL n d).length ≤ 41 := by
  have := Lib.itoa_length_le n (by omega) (by omega)
  have := rep_len (d - (Lib.itoa n).length)
  unfold padL
  rw [List.length_append]
  omega
/-- Numbers of two digits, put together. -/
def glueL (x y z : Int) : List UInt8 := padL x 2 ++ [32] ++ padL y 2 ++ [32] ++ padL z 2
abbrev i3 (x y z : Int) : List Value := [.int .i64 x, .int .i64 y, .int .i64 z]
abbrev s3 (a b c : List UInt8) : List Value := [.string ⟨a.toArray⟩, .string ⟨b.toArray⟩, .string ⟨c.toArray⟩]

theorem range_set {w : World} {b : Nat} {cs : List Value} (h : w.rangeAt b 0 cs) (j : Nat) (hj : j < cs.length) (v : Value) : (w.setCell ⟨b, j, none⟩ v).rangeAt b 0 (cs.set j v) := fun i x hx => by
  have hu : w.cell? ⟨b, j, none⟩ = some cs[j] := by have := h j cs[j] (List.getElem?_eq_getElem hj); simpa using this
  have hi : i < cs.length := by have := (List.getElem?_eq_some_iff.1 hx).1; simpa using this
  rw [Nat.zero_add]
  by_cases e : j = i
  · subst e
    rw [World.cell?_setCell_same _ _ _ hu]
    rw [List.getElem?_set_self hj] at hx
    exact hx
  · rw [World.cell?_setCell_other _ _ _ _ (by intro g; injection g with _ g2 _; exact e g2)]
    rw [List.getElem?_set_ne e] at hx
    have := h i x hx
    rwa [Nat.zero_add] at this
theorem range_set_other {w : World} {b b' : Nat} {cs : List Value} (h : w.rangeAt b 0 cs) (j : Nat) (hne : b ≠ b') (v : Value) : (w.setCell ⟨b', j, none⟩ v).rangeAt b 0 cs := fun i x hx => by
  rw [World.cell?_setCell_other _ _ _ _ (by intro g; injection g with g1 _ _; exact hne g1.symm)]
  exact h i x hx
theorem there_set {w : World} {b n : Nat} (h : w.there b 0 n) (a : Addr) (v : Value) : (w.setCell a v).there b 0 n := fun j hj => by
  refine ⟨?_, by rw [World.frozen?_setCell]; exact (h j hj).2⟩
  obtain ⟨u, hu⟩ := Option.isSome_iff_exists.1 (h j hj).1
  obtain ⟨v', hv'⟩ := cell?_setCell_some (w := w) (p := a) (x := v) (q := ⟨b, 0 + j, none⟩) (v := u) hu
  rw [hv']; rfl
/-- What the loop keeps: the numbers, the texts so far. -/
structure GK (w : World) (b : Nat) (ns ts : List Value) (wr : World) : Prop where
  nums : wr.rangeAt b 0 ns
  texts : wr.rangeAt w.heap.size 0 ts
  there : wr.there w.heap.size 0 3
  lt : w.heap.size < wr.heap.size
  below : Below w.heap.size w wr
theorem GK.start {w : World} {b : Nat} {ns : List Value} (hb : b < w.heap.size) (h : w.rangeAt b 0 ns) (C : Array Value) (hC : C = (s3 [] [] []).toArray) (t : TypeId) : GK w b ns (s3 [] [] []) (w.alloc (.cells C t)) := by
  subst hC
  exact ⟨rangeAt_below h ((Below.refl _ _).alloc (Nat.le_refl _) _) hb, rangeAt_new w _ t, there_new w _ t 3 (by simp), by simp, (Below.refl _ _).alloc (Nat.le_refl _) _⟩
theorem GK.call {w : World} {b : Nat} {ns ts : List Value} {a c : World} (hb : b < w.heap.size) (h : GK w b ns ts a) (hc : Below a.heap.size a c) : GK w b ns ts c :=
  ⟨rangeAt_below h.nums hc (Nat.lt_trans hb h.lt), rangeAt_below h.texts hc h.lt, there_below h.there hc h.lt, Nat.lt_of_lt_of_le h.lt hc.size, h.below.trans (hc.mono (Nat.le_of_lt h.lt))⟩
theorem GK.set {w : World} {b : Nat} {ns ts ts' : List Value} {a : World} (hb : b < w.heap.size) (h : GK w b ns ts a) (j : Nat) (v : Value) (hj : j < ts.length) (he : ts.set j v = ts') : GK w b ns ts' (a.setCell ⟨w.heap.size, j, none⟩ v) :=
  ⟨range_set_other h.nums j (Nat.ne_of_lt hb) v, he ▸ range_set h.texts j hj v, there_set h.there _ _, by simpa using h.lt, h.below.setCell (Nat.le_refl _) v⟩
theorem fr_of {w : World} {b : Nat} {ns ts : List Value} {a : World} (h : GK w b ns ts a) (j : Nat) (hj : j < 3) : a.frozen? ⟨w.heap.size, j, none⟩ = false := by
  have := (h.there j hj).2
  rwa [Nat.zero_add] at this
theorem cell_of {w : World} {b : Nat} {ns ts : List Value} {a : World} (h : GK w b ns ts a) (j : Nat) (v : Value) (hv : ts[j]? = some v) : a.cell? ⟨w.heap.size, j, none⟩ = some v := by
  have := h.texts j v hv
  rwa [Nat.zero_add] at this
theorem num_of {w : World} {b : Nat} {ns ts : List Value} {a : World} (h : GK w b ns ts a) (j : Nat) (v : Value) (hv : ns[j]? = some v) : a.cell? ⟨b, j, none⟩ = some v := by
  have := h.nums j v hv
  rwa [Nat.zero_add] at this
end Gt
end Go.Proofs.YtafeigpmldgifaaDoor
/-
  Texts of parts of a second: clock of package angle.
-/
namespace Go.Proofs.YtafeigpmldgifaaDoor
namespace Gt
open Go.RowKit Lw Gp

/-- Hours, minutes, seconds and parts. -/
def clockL (n d : Nat) : List UInt8 :=
  glueL ((n / 10 ^ d / 3600 : Nat) : Int) ((n / 10 ^ d / 60 % 60 : Nat) : Int) ((n / 10 ^ d % 60 : Nat) : Int) ++ (if 0 < d then 46 :: padL ((n % 10 ^ d : Nat) : Int) d else [])

theorem glue_len (x y z : Int) (x0 : 0 ≤ x) (x1 : x ≤ 1000000000000) (y0 : 0 ≤ y) (y1 : y ≤ 1000000000000) (z0 : 0 ≤ z) (z1 : z ≤ 1000000000000) : (glueL x y z).length ≤ 130 := by
  have a := pad_len x 2 x0 (by omega) (by omega)
  have b := pad_len y 2 y0 (by omega) (by omega)
  have c := pad_len z 2 z0 (by omega) (by omega)
  unfold glueL
  simp only [List.length_append, List.length_cons, List.length_nil]
  omega
end Gt
end Go.Proofs.YtafeigpmldgifaaDoor
/-
  ParseRa of the reference.
-/
namespace Go.Proofs.YtafeigpmldgifaaDoor
namespace Gp
open Go.RowKit Lw

theorem drewN_below3 {w0 w : World} (h : Below w0.heap.size w0 w) (n : Nat) : Below w0.heap.size w0 (w.drewN n) := drewN_below2 h n
theorem new3 {w0 w1 : World} (hB : Below w0.heap.size w0 w1) (o : Obj) : Below w0.heap.size w0 (w1.alloc o) := hB.alloc hB.size o

theorem dec_letters {s : ByteArray} (h : validP s) : ∃ V Q T : Int,
    numV (restOf s).data.toList = V ∧ (1000000 : Int).tdiv (tenI (restOf s).size) = Q ∧ tenI (restOf s).size = T ∧ 0 ≤ V ∧ V ≤ 999999 ∧ 1 ≤ T ∧ 0 ≤ Q ∧ Q ≤ 15000000 ∧ 0 ≤ V * Q ∧ V * Q ≤ 14999985000000 ∧
    (restOf s).size ≤ 6 ∧ (0 ≤ two s 0 ∧ two s 0 ≤ 99) ∧ (0 ≤ two s 3 ∧ two s 3 ≤ 59) ∧ (0 ≤ two s 6 ∧ two s 6 ≤ 59) ∧
    Hid (angV s 1000000 = (two s 0 * 3600 + two s 3 * 60 + two s 6) * 1000000 + V * Q) := valid_letters h 1000000 (by omega) (by omega)
end Gp
end Go.Proofs.YtafeigpmldgifaaDoor
/-
  What the angle of a text of degrees is.
-/
namespace Go.Proofs.YtafeigpmldgifaaDoor
namespace Gp
open Go.RowKit Lw

theorem takeWhile_len (p : UInt8 → Bool) : ∀ (l : List UInt8) (k : Nat), k ≤ l.length → (∀ j (hj : j < l.length), j < k → p l[j] = true) → (∀ h : k < l.length, p l[k] = false) → (l.takeWhile p).length = k
  | [], k, hk, _, _ => by simp at hk; simp [hk]
  | a :: l, 0, _, _, h => by
    have := h (by simp)
    simp only [List.getElem_cons_zero] at this
    simp [List.takeWhile_cons, this]
  | a :: l, k + 1, hk, h, he => by
    have h0 := h 0 (by simp) (by omega)
    simp only [List.getElem_cons_zero] at h0
    rw [List.takeWhile_cons, if_pos h0, List.length_cons, takeWhile_len p l k (by simpa using hk) (fun j hj hk' => by have := h (j + 1) (by simpa using hj) (by omega); rwa [List.getElem_cons_succ] at this) (fun h' => by have := he (by simpa using h'); rwa [List.getElem_cons_succ] at this)]
/-- Where the point stands, or the end. -/
def ptOf (t : ByteArray) : Nat := (t.data.toList.takeWhile (fun c => decide (¬ ((c.toNat : Nat) : Int) = 46))).length
theorem pt_eq {t : ByteArray} {k : Nat} (hk : k ≤ t.size) (h : ∀ j (hj : j < t.size), j < k → ¬ ((t[j].toNat : Nat) : Int) = 46) (he : ∀ h : k < t.size, ((t[k].toNat : Nat) : Int) = 46) : ptOf t = k := by
  refine takeWhile_len _ _ k (by simpa using hk) (fun j hj hjk => ?_) (fun hlt => ?_)
  · have := h j (by simpa using hj) hjk
    exact decide_eq_true this
  · have := he (by simpa using hlt)
    exact decide_eq_false (not_not_intro this)
def negP (s : ByteArray) : Prop := 0 < s.size ∧ (((s.get! 0).toNat : Nat) : Int) = 45
instance (s : ByteArray) : Decidable (negP s) := by unfold negP; infer_instance
def negB (s : ByteArray) : Bool := decide (negP s)
def bodyOf (s : ByteArray) : ByteArray := if negP s then s.extract 1 s.size else s
def formP (t : ByteArray) (p : Nat) : Prop := p + 1 < t.size ∧ 1 ≤ p ∧ p ≤ 3 ∧ t.size ≤ p + 10 ∧ (p ≤ 1 ∨ ¬ (((t.get! 0).toNat : Nat) : Int) = 48)
def numP (neg : Bool) (D F : Int) : Prop := 0 ≤ D ∧ 0 ≤ F ∧ D ≤ 360 ∧ (D ≠ 360 ∨ F = 0) ∧ (neg = false ∨ D ≠ 0 ∨ F ≠ 0)
def fracI (F : Int) (n : Nat) : Int := rndI (F * (3600000000 / Nat.gcd (10 ^ n) 3600000000 : Nat)) (10 ^ n / Nat.gcd (10 ^ n) 3600000000 : Nat)
def sgnI (neg : Bool) (x : Int) : Int := if neg then -x else x
def degD (t : ByteArray) (p : Nat) : Int := numV (t.extract 0 p).data.toList
def degF (t : ByteArray) (p : Nat) : Int := numV (t.extract (p + 1) t.size).data.toList
def DegT (neg : Bool) (t : ByteArray) (p : Nat) (v e : Int) : Prop :=
  (formP t p ∧ numP neg (degD t p) (degF t p) ∧ v = sgnI neg (degD t p * 3600000000 + fracI (degF t p) (t.size - (p + 1))) ∧ e = 0) ∨ (¬ (formP t p ∧ numP neg (degD t p) (degF t p)) ∧ v = 0 ∧ e = 12)
theorem DegT.det {neg : Bool} {t : ByteArray} {p : Nat} {v e v' e' : Int} (h : DegT neg t p v e) (g : DegT neg t p v' e') : v = v' ∧ e = e' := by
  rcases h with ⟨h1, h2, h3, h4⟩ | ⟨h1, h2, h3⟩ <;> rcases g with ⟨g1, g2, g3, g4⟩ | ⟨g1, g2, g3⟩
  · exact ⟨by rw [h3, g3], by rw [h4, g4]⟩
  · exact absurd ⟨h1, h2⟩ g1
  · exact absurd ⟨g1, g2⟩ h1
  · exact ⟨by rw [h2, g2], by rw [h3, g3]⟩
theorem numV_9 {l : List UInt8} (h : l.length ≤ 9) : -1 ≤ numV l ∧ numV l ≤ 999999999 := by
  have a := numV_bd l
  have : ∀ k : Nat, k ≤ 9 → (10 : Int) ^ k ≤ 1000000000 := by decide
  have := this _ h
  omega
theorem numV_3 {l : List UInt8} (h : l.length ≤ 3) : -1 ≤ numV l ∧ numV l ≤ 999 := by
  have a := numV_bd l
  have : ∀ k : Nat, k ≤ 3 → (10 : Int) ^ k ≤ 1000 := by decide
  have := this _ h
  omega
theorem degD_bd (t : ByteArray) (p : Nat) (h : p ≤ 3) : -1 ≤ degD t p ∧ degD t p ≤ 999 := numV_3 (by simp; omega)
theorem degF_bd (t : ByteArray) (p : Nat) (h : t.size ≤ p + 10) : -1 ≤ degF t p ∧ degF t p ≤ 999999999 := numV_9 (by simp; omega)
/-- The divisor, for each number of digits. -/
theorem gcd_ten : ∀ n : Nat, n ≤ 9 → Nat.gcd (10 ^ n) 3600000000 = if n = 9 then 200000000 else 10 ^ n := by decide
theorem rndI_one (a : Int) : rndI a 1 = a := by
  unfold rndI
  rw [if_neg (by omega)]
  omega
theorem frac_8 (F : Int) (n : Nat) (h : n ≤ 8) : fracI F n = F * (3600000000 / tenI n) := by
  unfold fracI
  rw [gcd_ten n (by omega), if_neg (by omega), Nat.div_self (Nat.pow_pos (by omega))]
  exact rndI_one _
theorem frac_9 (F : Int) : fracI F 9 = rndI (F * 18) 5 := by
  unfold fracI
  rw [gcd_ten 9 (by omega)]
  rfl
theorem div_9 : ∀ n : Nat, n ≤ 9 → 1 ≤ 10 ^ n / Nat.gcd (10 ^ n) 3600000000 ∧ 10 ^ n / Nat.gcd (10 ^ n) 3600000000 ≤ 1000000000 ∧ 3600000000 / Nat.gcd (10 ^ n) 3600000000 ≤ 3600000000 ∧ 1 ≤ Nat.gcd (10 ^ n) 3600000000 ∧ Nat.gcd (10 ^ n) 3600000000 ≤ 1000000000 := by decide
theorem rndI_5 (a : Int) (h : 0 ≤ a) : 0 ≤ rndI a 5 ∧ 5 * rndI a 5 ≤ a + 5 := by
  unfold rndI
  split <;> omega
theorem frac_bd (F : Int) (n : Nat) (h0 : 0 ≤ F) (h1 : F ≤ 999999999) (h : n ≤ 9) : 0 ≤ fracI F n ∧ fracI F n ≤ 3600000000000000000 := by
  by_cases g : n = 9
  · subst g
    rw [frac_9]
    have := rndI_5 (F * 18) (by omega)
    omega
  · rw [frac_8 F n (by omega)]
    have t := (tenI_bd n (by omega)).1
    have q := div_bd (u := 3600000000) (by omega) t
    have := mul_bd h0 h1 q.1 q.2
    omega
theorem quiet_more {P : Program} {f : FuncId} {args : Array Value} {w : World} {n : Nat} {v : Value} (h : ∀ w : World, Calls P f args w fun e w' => e = .returned v ∧ ∃ m, w' = w.drewN m) :
    Calls P f args (w.drewN n) fun e w'' => e = .returned v ∧ ∃ m, w'' = w.drewN m :=
  (h (w.drewN n)).mono fun _ _ ⟨he, m, hm⟩ => ⟨he, n + m, by rw [hm]; simp only [World.drewN, Nat.add_assoc]⟩
theorem quiet_add_more {P : Program} {f : FuncId} {args : Array Value} {w : World} {a n : Nat} {v : Value} (h : ∀ w : World, Calls P f args w fun e w' => e = .returned v ∧ ∃ m, w' = w.drewN m) :
    Calls P f args (w.drewN (a + n)) fun e w'' => e = .returned v ∧ ∃ m, w'' = w.drewN (a + m) :=
  (h (w.drewN (a + n))).mono fun _ _ ⟨he, m, hm⟩ => ⟨he, n + m, by rw [hm]; simp only [World.drewN, Nat.add_assoc]⟩
theorem mul_9 : ∀ n : Nat, n ≤ 9 → 10 ^ n * (3600000000 / Nat.gcd (10 ^ n) 3600000000) ≤ 18000000000 := by decide
theorem rndI_bd {a u : Int} (ha : 0 ≤ a) (hu : 1 ≤ u) : 0 ≤ rndI a u ∧ rndI a u ≤ a + 1 := by
  have q := div_bd ha hu
  unfold rndI
  split <;> omega
end Gp
end Go.Proofs.YtafeigpmldgifaaDoor
/-
  Plain facts on Go's quotient and remainder of integers, for any integers; no program in sight.
-/
namespace Go.Proofs.YtafeigpmldgifaaDoor
namespace Pl
open Go.RowKit

theorem ret_int {k : IntKind} {a b : Int} (h : a = b) : Ending.returned (.int k a) = .returned (.int k b) := by rw [h]

theorem quiet_add {P : Program} {f : FuncId} {args : Array Value} {w : World} {a n : Nat} {v : Value}
    (h : Calls P f args (w.drewN (a + n)) fun e w' => e = .returned v ∧ ∃ m, w' = (w.drewN (a + n)).drewN m) :
    Calls P f args (w.drewN (a + n)) fun e w'' => e = .returned v ∧ ∃ m, w'' = w.drewN (a + m) :=
  h.mono fun _ _ ⟨he, m, hm⟩ => ⟨he, n + m, by rw [hm, World.drewN_drewN, Nat.add_assoc]⟩
theorem quiet_add_left {P : Program} {f : FuncId} {args : Array Value} {w : World} {a n : Nat} {v : Value}
    (h : Calls P f args (w.drewN (a + n)) fun e w' => e = .returned v ∧ w.drewN (a + n) = w') :
    Calls P f args (w.drewN (a + n)) fun e w'' => e = .returned v ∧ ∃ m, w'' = w.drewN (a + m) :=
  h.mono fun _ _ ⟨he, hm⟩ => ⟨he, n, hm.symm⟩
theorem quiet_left {P : Program} {f : FuncId} {args : Array Value} {w : World} {n : Nat} {v : Value}
    (h : Calls P f args (w.drewN n) fun e w' => e = .returned v ∧ w.drewN n = w') : Calls P f args (w.drewN n) fun e w'' => e = .returned v ∧ ∃ m, w'' = w.drewN m :=
  h.mono fun _ _ ⟨he, hm⟩ => ⟨he, n, hm.symm⟩

theorem tmod_fix (a n : Int) (hn : 0 < n) : (if a.tmod n < 0 then a.tmod n + n else a.tmod n) = a % n := by
  have h1 := Int.tmod_eq_emod (a := a) (b := n)
  have h2 := Int.emod_nonneg a (show n ≠ 0 by omega)
  have h3 := Int.emod_lt_of_pos a hn
  by_cases h : 0 ≤ a ∨ n ∣ a
  · rw [if_pos h] at h1
    rw [if_neg (by omega)]; omega
  · rw [if_neg h] at h1
    have : (n.natAbs : Int) = n := by omega
    rw [if_pos (by omega)]; omega

theorem tdiv_fix (a n : Int) (hn : 0 < n) : (if a.tmod n < 0 then a.tdiv n - 1 else a.tdiv n) = a / n := by
  have h1 := Int.tmod_eq_emod (a := a) (b := n)
  have h4 := Int.tdiv_eq_ediv (a := a) (b := n)
  have h2 := Int.emod_nonneg a (show n ≠ 0 by omega)
  have h3 := Int.emod_lt_of_pos a hn
  by_cases h : 0 ≤ a ∨ n ∣ a
  · rw [if_pos h] at h1 h4
    rw [if_neg (by omega)]; omega
  · rw [if_neg h] at h1 h4
    have : (n.natAbs : Int) = n := by omega
    have : n.sign = 1 := Int.sign_eq_one_of_pos hn
    rw [if_pos (by omega)]; omega

theorem tmod_bd (a n : Int) (hn : 0 < n) : -n < a.tmod n ∧ a.tmod n < n := ⟨Int.lt_tmod_of_pos a hn, Int.tmod_lt_of_pos a hn⟩

/-- A difference of two angles, at most half a turn. -/
def dif (a b : Int) : Int := if 1296000000000 < 2 * ((a - b) % 1296000000000) then (a - b) % 1296000000000 - 1296000000000 else (a - b) % 1296000000000
theorem dif_bd (a b : Int) : -648000000000 ≤ dif a b ∧ dif a b ≤ 648000000000 := by unfold dif; split <;> omega
theorem sub_nrm (a b : Int) : (a % 1296000000000 - b % 1296000000000) % 1296000000000 = (a - b) % 1296000000000 := by omega
/-- The sum of the differences of the first elements and one angle. -/
def sumF (f : Nat → Int) (x : Int) : Nat → Int
  | 0 => 0
  | k + 1 => sumF f x k + dif (f k) x
theorem sumF_bd (f : Nat → Int) (x : Int) (k : Nat) : -648000000000 * (k : Int) ≤ sumF f x k ∧ sumF f x k ≤ 648000000000 * (k : Int) := by
  induction k with
  | zero => simp [sumF]
  | succ k ih => have := dif_bd (f k) x; simp only [sumF]; omega
/-- The mean of the first elements. -/
def mean (f : Nat → Int) (n : Nat) : Int := (f 0 + sumF f (f 0) n / n) % 1296000000000
theorem mean_nrm (f : Nat → Int) (n : Nat) : (f 0 % 1296000000000 + sumF f (f 0) n / n) % 1296000000000 = mean f n := by unfold mean; omega
theorem ret2_int {k k' : IntKind} {a b c : Int} (h : a = b) : Ending.returned (.tuple #[.int k a, .int k' c]) = .returned (.tuple #[.int k b, .int k' c]) := by rw [h]
theorem quo_exact (s n : Int) (hn : 0 < n) : (s - s % n).tdiv n = s / n := by
  have h := Int.emod_add_mul_ediv s n
  have e : s - s % n = n * (s / n) := by omega
  rw [e, Int.mul_tdiv_cancel_left _ (by omega)]
theorem quo_bd (s n : Int) (B : Int) (hn : 0 < n) (h0 : -B ≤ s) (h1 : s ≤ B) (hB : 0 ≤ B) : -B ≤ s / n ∧ s / n ≤ B := by
  constructor
  · rw [Int.le_ediv_iff_mul_le hn]
    have := Int.mul_le_mul_of_nonneg_left (show (1 : Int) ≤ n by omega) hB
    have e : -B * n = -(B * n) := Int.neg_mul ..
    omega
  · refine Int.le_trans (Int.ediv_le_ediv hn h1) ?_
    exact Int.ediv_le_self _ hB
end Pl
end Go.Proofs.YtafeigpmldgifaaDoor
/-
  Norm and Diff of package angle, Norm of the reference.
-/
namespace Go.Proofs.YtafeigpmldgifaaDoor
namespace Turns
open Go.RowKit

open Pl
end Turns
end Go.Proofs.YtafeigpmldgifaaDoor
/-
  Texts of angles: RaText, DecText and DegText of package angle.
-/
namespace Go.Proofs.YtafeigpmldgifaaDoor
namespace Gt
open Go.RowKit Lw Gp

/-- The parts of an angle, rounded. -/
def rndN (a u : Nat) : Nat := (rndI a u).toNat
theorem rndN_eq (a u : Nat) : ((rndN a u : Nat) : Int) = rndI a u := by
  have : 0 ≤ rndI a u := by
    unfold rndI
    have : (0 : Int) ≤ (a : Int) / u := Int.ediv_nonneg (by omega) (by omega)
    split <;> omega
  unfold rndN
  omega
theorem rndN_le (a u : Nat) (hu : 1 ≤ u) : rndN a u ≤ a + 1 := by
  have h := rndN_eq a u
  have : (a : Int) / u ≤ a := Int.ediv_le_self _ (by omega)
  unfold rndI at h
  split at h <;> omega
theorem clock_len (n d : Nat) (hn : n ≤ 1000000000000) (hd : d ≤ 18) : (clockL n d).length ≤ 180 := by
  have m1 : n / 10 ^ d ≤ n := Nat.div_le_self _ _
  have m3 : n % 10 ^ d ≤ n := Nat.mod_le _ _
  unfold clockL
  generalize n / 10 ^ d = s at *
  generalize n % 10 ^ d = r at *
  have q1 : s / 3600 ≤ s := Nat.div_le_self _ _
  have g := glue_len ((s / 3600 : Nat) : Int) ((s / 60 % 60 : Nat) : Int) ((s % 60 : Nat) : Int) (by omega) (by omega) (by omega) (by omega) (by omega) (by omega)
  have p := pad_len (r : Int) d (by omega) (by omega) (by omega)
  rw [List.length_append]
  split
  · rw [List.length_cons]; omega
  · simp only [List.length_nil]; omega
/-- The text of a right ascension: so many digits. -/
def raL (a : Int) (d : Nat) : List UInt8 := clockL (rndN (a % 1296000000000).toNat (15000000 / 10 ^ d) % (86400 * 10 ^ d)) d
theorem ra_letters (a : Int) (d : Nat) (hd : d ≤ 6) : ∃ p u m r n : Nat, 10 ^ d = p ∧ 15000000 / p = u ∧ (a % 1296000000000) = (m : Int) ∧ rndN m u = r ∧ r % (86400 * p) = n ∧ 1 ≤ p ∧ p ≤ 1000000 ∧ 1 ≤ u ∧ u ≤ 15000000 ∧ m < 1296000000000 ∧ r ≤ 1296000000000 ∧ n ≤ 86400000000 ∧ raL a d = clockL n d := by
  have hm := Int.emod_nonneg a (show (1296000000000 : Int) ≠ 0 by omega)
  have hm2 := Int.emod_lt_of_pos a (show (0 : Int) < 1296000000000 by omega)
  have hp : ∀ d : Nat, d ≤ 6 → 1 ≤ 10 ^ d ∧ 10 ^ d ≤ 1000000 ∧ 1 ≤ 15000000 / 10 ^ d ∧ 15000000 / 10 ^ d ≤ 15000000 := by decide
  obtain ⟨h1, h2, h3, h4⟩ := hp d hd
  have hr := rndN_le (a % 1296000000000).toNat (15000000 / 10 ^ d) h3
  have hn : rndN (a % 1296000000000).toNat (15000000 / 10 ^ d) % (86400 * 10 ^ d) ≤ 86400000000 := by
    have := Nat.mod_lt (rndN (a % 1296000000000).toNat (15000000 / 10 ^ d)) (show 0 < 86400 * 10 ^ d by omega)
    omega
  exact ⟨_, _, (a % 1296000000000).toNat, _, _, rfl, rfl, by omega, rfl, rfl, h1, h2, h3, h4, by omega, by omega, hn, rfl⟩
/-- The text of a declination. -/
def decL (a : Int) (d : Nat) : List UInt8 := (if a < 0 then 45 else 43) :: clockL (rndN a.natAbs (1000000 / 10 ^ d)) d
theorem dec_lets (m d : Nat) (hm : m ≤ 324000000000) (hd : d ≤ 6) : ∃ p u r : Nat, 10 ^ d = p ∧ 1000000 / p = u ∧ rndN m u = r ∧ 1 ≤ p ∧ p ≤ 1000000 ∧ 1 ≤ u ∧ u ≤ 1000000 ∧ r ≤ 324000000001 ∧ rndN m (1000000 / 10 ^ d) = r := by
  have hp : ∀ d : Nat, d ≤ 6 → 1 ≤ 10 ^ d ∧ 10 ^ d ≤ 1000000 ∧ 1 ≤ 1000000 / 10 ^ d ∧ 1000000 / 10 ^ d ≤ 1000000 := by decide
  obtain ⟨h1, h2, h3, h4⟩ := hp d hd
  have hr := rndN_le m (1000000 / 10 ^ d) h3
  exact ⟨_, _, _, rfl, rfl, rfl, h1, h2, h3, h4, by omega, rfl⟩
end Gt
end Go.Proofs.YtafeigpmldgifaaDoor
/-
  The walk of magText of package obs.
-/
namespace Go.Proofs.YtafeigpmldgifaaDoor
namespace Ow
open Go.RowKit Lw Go.Proofs.YtafeigpmldgifaaDoor.Ap Go.Proofs.YtafeigpmldgifaaDoor.Op Go.Proofs.YtafeigpmldgifaaDoor.Mp Go.Proofs.YtafeigpmldgifaaDoor.Mw Go.Proofs.YtafeigpmldgifaaDoor.At

theorem itoa_dg (n : Nat) (h : n < 10) : Lib.itoa (n : Int) = [dg n] := by
  unfold Lib.itoa
  rw [if_neg (by omega), Int.toNat_natCast, Lib.decDigits_one h]
  rfl
theorem sp_rep (k : Nat) : Lib.repeatL [32] k = spL k := by
  induction k with
  | zero => rfl
  | succ k ih => simp_all [Lib.repeatL, spL, List.replicate_succ]
theorem decL_two (n : Nat) : decL n 2 = [dg (n / 10 % 10), dg (n % 10)] := rfl
theorem itoa_any (n : Int) (w : World) (hT : Gt.Tab w) (h0 : 0 ≤ n) (h1 : n ≤ 1000000000000000000) :
    Calls Tryd.prog 36 #[.int .i64 n] w fun e w' => e = .returned (.string ⟨(Lib.itoa n).toArray⟩) ∧ Below w.heap.size w w' :=
  (Tryd.strconv_Itoa n (by omega) (by omega) w hT).mono fun _ _ ⟨x, k, os, y⟩ => ⟨x, by rw [y]; exact Gt.below_grow w k os⟩
theorem size_mk (l : List UInt8) : (⟨l.toArray⟩ : ByteArray).size = l.length := by simp [ByteArray.size]
theorem str_app (a b : List UInt8) : ((⟨a.toArray⟩ : ByteArray) ++ ⟨b.toArray⟩) = ⟨(a ++ b).toArray⟩ := by
  apply ByteArray.ext
  simp [ByteArray.data_append]
theorem add_L (a b : List UInt8) (h : a.length + b.length ≤ 9223372036854775807) : ∀ w' : World, (Op.stringOp .add (⟨a.toArray⟩ : ByteArray) ⟨b.toArray⟩).run Tryd.prog w' = .ok (.string ⟨(a ++ b).toArray⟩) w' := fun w' => by
  rw [run_string_add_sum (P := Tryd.prog) (w := w') _ _ (by rw [size_mk, size_mk]; exact h), str_app]

end Ow
end Go.Proofs.YtafeigpmldgifaaDoor
/-
  The walk of blank of package obs.
-/
namespace Go.Proofs.YtafeigpmldgifaaDoor
namespace Ow
open Go.RowKit Lw Go.Proofs.YtafeigpmldgifaaDoor.Ap Go.Proofs.YtafeigpmldgifaaDoor.Op Go.Proofs.YtafeigpmldgifaaDoor.Mp Go.Proofs.YtafeigpmldgifaaDoor.Mw Go.Proofs.YtafeigpmldgifaaDoor.At

theorem dropWhile_nil {p : UInt8 → Bool} : ∀ l : List UInt8, l.dropWhile p = [] ↔ ∀ c ∈ l, p c = true
  | [] => by simp
  | x :: l => by
    by_cases h : p x = true
    · rw [List.dropWhile_cons_of_pos h, dropWhile_nil l]; simp [h]
    · rw [List.dropWhile_cons_of_neg h]
      exact ⟨fun g => (by cases g), fun g => absurd (g x (by simp)) h⟩
theorem trim_blank (s : ByteArray) : Lib.trimB s.data.toList 32 = [] ↔ blankP s := by
  unfold Lib.trimB Lib.trimLeftB Lib.trimRightB blankP
  rw [dropWhile_nil]
  constructor
  · intro h
    by_cases e : s.data.toList.reverse.dropWhile (· == 32) = []
    · intro c hc
      have := (dropWhile_nil _).1 e c (by simpa using hc)
      simpa using this
    · exfalso
      have hh := List.head_dropWhile_not (fun c : UInt8 => c == 32) e
      have := h _ (List.mem_reverse.2 (List.head_mem e))
      simp_all
  · intro h c hc
    have := h c (by
      have := List.mem_reverse.1 hc
      exact List.mem_reverse.1 ((List.dropWhile_sublist _).subset this))
    simp [this]
end Ow
end Go.Proofs.YtafeigpmldgifaaDoor
/-
  The walk of trim of package obs.
-/
namespace Go.Proofs.YtafeigpmldgifaaDoor
namespace Ow
open Go.RowKit Lw Go.Proofs.YtafeigpmldgifaaDoor.Ap Go.Proofs.YtafeigpmldgifaaDoor.Op Go.Proofs.YtafeigpmldgifaaDoor.Mp Go.Proofs.YtafeigpmldgifaaDoor.Mw Go.Proofs.YtafeigpmldgifaaDoor.At

theorem cutS_trim (s : ByteArray) : (⟨(Lib.trimRightB s.data.toList 32).toArray⟩ : ByteArray) = cutS s := rfl
theorem cutS_le (s : ByteArray) : (cutS s).size ≤ s.size := by
  rw [← cutS_trim, size_mk]
  unfold Lib.trimRightB
  have := (List.dropWhile_sublist (· == 32) (l := s.data.toList.reverse)).length_le
  simp only [List.length_reverse] at this ⊢
  have e : s.data.toList.length = s.size := Array.length_toList (xs := s.data)
  omega
theorem tlP_decs (s : ByteArray) : ((tlP s).size : Int) = (decs s : Nat) := by
  have h := ptS_le s
  unfold tlP decs
  split
  · rw [ByteArray.size_extract]; omega
  · rw [show (⟨#[]⟩ : ByteArray).size = 0 from rfl]; omega
end Ow
end Go.Proofs.YtafeigpmldgifaaDoor
/-
  Signs and points of a text: strings.TrimLeft, CutPrefix and Cut at this program.
-/
namespace Go.Proofs.YtafeigpmldgifaaDoor
namespace Gp
open Go.RowKit Lw

theorem arr_str (s : ByteArray) : (⟨s.data.toList.toArray⟩ : ByteArray) = s := by cases s; simp
theorem sign_iff (c : UInt8) : List.contains [43, 45] c = true ↔ (((c.toNat : Nat) : Int) = 43 ∨ ((c.toNat : Nat) : Int) = 45) := by
  have e : ∀ d : UInt8, c = d ↔ c.toNat = d.toNat := fun d => UInt8.toNat_inj.symm
  have h43 : (43 : UInt8).toNat = 43 := rfl
  have h45 : (45 : UInt8).toNat = 45 := rfl
  simp only [List.contains_cons, List.contains_nil, Bool.or_false, Bool.or_eq_true, beq_iff_eq, e, h43, h45]
  omega
theorem len_dw (p : UInt8 → Bool) : ∀ l : List UInt8, (l.dropWhile p).length ≤ l.length
  | [] => Nat.le_refl _
  | a :: l => by
    rw [List.dropWhile_cons]
    split
    · have := len_dw p l
      simp; omega
    · exact Nat.le_refl _
theorem mk_list (l : List UInt8) : (⟨l.toArray⟩ : ByteArray).data.toList = l := by simp
theorem get0 (c : UInt8) (r : List UInt8) : (⟨(c :: r).toArray⟩ : ByteArray).get! 0 = c := by simp [ByteArray.get!]
theorem tail_mk (c : UInt8) (r : List UInt8) : tailOf ⟨(c :: r).toArray⟩ = ⟨r.toArray⟩ := by
  unfold tailOf
  apply ByteArray.ext
  apply Array.toList_inj.1
  rw [Lib.extract_to_end, mk_list]
  simp
theorem size_mk (l : List UInt8) : (⟨l.toArray⟩ : ByteArray).size = l.length := by simp [ByteArray.size]
theorem numV_sign (c : UInt8) (r : List UInt8) (h : List.contains [43, 45] c = true) : numV (c :: r) = -1 := by
  unfold numV
  rw [if_neg]
  intro g
  have := g c (by simp)
  have := (sign_iff c).1 h
  omega
theorem two_mk (c : UInt8) (r : List UInt8) : two ⟨(c :: r).toArray⟩ 0 = numV (c :: r.take 1) := by
  rw [two_eq, mk_list]; rfl
/-- What is left where the leading signs are cut off, and it is shorter by one. -/
theorem trim_l (l : List UInt8) : ((((l.dropWhile (List.contains [43, 45])).length : Nat) : Int) = l.length - 1 → signP ⟨l.toArray⟩ ∧ l.dropWhile (List.contains [43, 45]) = l.drop 1) ∧
    (¬ (((l.dropWhile (List.contains [43, 45])).length : Nat) : Int) = l.length - 1 → ¬ (signP ⟨l.toArray⟩ ∧ validP (tailOf ⟨l.toArray⟩))) := by
  cases l with
  | nil => exact ⟨fun h => by simp at h, fun _ g => by have := g.1.1; simp [ByteArray.size] at this⟩
  | cons c r =>
    by_cases hc : List.contains [43, 45] c = true
    · rw [List.dropWhile_cons, if_pos hc]
      have sg : signP ⟨(c :: r).toArray⟩ := ⟨by rw [size_mk]; simp, by rw [get0]; exact (sign_iff c).1 hc⟩
      cases r with
      | nil => exact ⟨fun _ => ⟨sg, rfl⟩, fun h => absurd rfl h⟩
      | cons d q =>
        by_cases hd : List.contains [43, 45] d = true
        · rw [List.dropWhile_cons, if_pos hd]
          have := len_dw (List.contains [43, 45]) q
          refine ⟨fun h => ?_, fun _ g => ?_⟩
          · simp only [List.length_cons] at h; omega
          · have := g.2.2.1
            rw [tail_mk, two_mk, numV_sign d _ hd] at this
            omega
        · rw [List.dropWhile_cons, if_neg hd]
          exact ⟨fun _ => ⟨sg, rfl⟩, fun h => absurd (by simp) h⟩
    · rw [List.dropWhile_cons, if_neg hc]
      refine ⟨fun h => by omega, fun _ g => ?_⟩
      have := g.1.2
      rw [get0] at this
      exact hc ((sign_iff c).2 this)
theorem trim_one (s t : ByteArray) (h : t = ⟨(Lib.trimLeftS s.data.toList [43, 45]).toArray⟩) (hs : (t.size : Int) = s.size - 1) : signP s ∧ t = tailOf s := by
  obtain ⟨l, rfl⟩ : ∃ l : List UInt8, s = ⟨l.toArray⟩ := ⟨s.data.toList, (arr_str s).symm⟩
  rw [mk_list] at h
  rw [h, size_mk, size_mk] at hs
  have := (trim_l l).1 hs
  refine ⟨this.1, ?_⟩
  rw [h]
  show (⟨(l.dropWhile (List.contains [43, 45])).toArray⟩ : ByteArray) = _
  rw [this.2]
  cases l with
  | nil => simp [signP, ByteArray.size] at this
  | cons c r => rw [tail_mk]; rfl
theorem trim_not (s t : ByteArray) (h : t = ⟨(Lib.trimLeftS s.data.toList [43, 45]).toArray⟩) (hs : ¬ (t.size : Int) = s.size - 1) : ¬ (signP s ∧ validP (tailOf s)) := by
  obtain ⟨l, rfl⟩ : ∃ l : List UInt8, s = ⟨l.toArray⟩ := ⟨s.data.toList, (arr_str s).symm⟩
  rw [mk_list] at h
  rw [h, size_mk, size_mk] at hs
  exact (trim_l l).2 hs
end Gp
end Go.Proofs.YtafeigpmldgifaaDoor
