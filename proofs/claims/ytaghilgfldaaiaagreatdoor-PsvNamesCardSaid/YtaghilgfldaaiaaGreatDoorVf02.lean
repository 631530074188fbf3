/-
  Lemmas and walks, texts joined: VMg, VRNt, VNm2, VOrPl, VNms.
-/
import Derived.Carry
import Derived.RegionTactic
import Derived.BigRegion
import Derived.StillTailTactics
import Derived.Deep.RegionHeld3
import Derived.Test.YtaghilgfldaaiaaGreatDoorVf01
import Derived.Test.YtaghilgfldaaiaaGreatDoorVb01
import Derived.Test.YtaghilgfldaaiaaGreatDoorVb02
import Derived.Test.YtaghilgfldaaiaaGreatDoorVb03
import Derived.Test.YtaghilgfldaaiaaGreatDoorVb04
import Derived.Test.YtaghilgfldaaiaaGreatDoorVb05
import Derived.Test.YtaghilgfldaaiaaGreatDoorVb06
import Derived.Test.YtaghilgfldaaiaaGreatDoorVb07
import Derived.Test.YtaghilgfldaaiaaGreatDoorVb08
import Derived.Test.YtaghilgfldaaiaaGreatDoorVb09
set_option linter.unusedSimpArgs false
set_option linter.unusedVariables false
/-
  The walk of Merge of psv.
-/
namespace Go.Proofs.YtaghilgfldaaiaaGreatDoor
namespace Vw
open Go.RowKit Lw Go.Proofs.YtaghilgfldaaiaaGreatDoor.Ap Go.Proofs.YtaghilgfldaaiaaGreatDoor.Vp Go.Proofs.YtaghilgfldaaiaaGreatDoor.Op Go.Proofs.YtaghilgfldaaiaaGreatDoor.Ow Go.Proofs.YtaghilgfldaaiaaGreatDoor.Mp Go.Proofs.YtaghilgfldaaiaaGreatDoor.Mw Go.Proofs.YtaghilgfldaaiaaGreatDoor.At Go.Maps

abbrev kyC (k : Ky) : List Value := [.string k.name, .string k.site, .int .i64 k.t]
theorem infoKy : (Tryz.prog.info? 65).map (·.size) = some 3 := by kernel_rfl
theorem good_key {o : Ob} (ok : okO o) (hb : OB o) : goodK (kyOf o) := by
  obtain ⟨ot, on, os, ow, _⟩ := ok
  have z0 : o.name.size ≤ 7 := by
    rcases on with ⟨h, _⟩ | ⟨_, h, _⟩
    · omega
    · exact h
  exact ⟨by show o.name.size ≤ 1000; omega, by show o.site.size ≤ 1000; omega, hb.t0, hb.t1⟩
def MergePost (l : List Ob) (w : World) (e : Ending) (w' : World) : Prop := ∃ (v d : Value) (kept : List Ob) (dropped : List Nat) (c : Int), e = .returned (.tuple #[v, d, .int .i64 c]) ∧ MergeIs l kept dropped c ∧ SlV w' v kept ∧ IntV w' d dropped ∧ Below w.heap.size w w'
theorem turned_only {w w' : World} {b : Nat} (h : w.mapTurned w' b) (hb : b < w.heap.size) : Only b w w' := ⟨h.grown.size, fun k hk hne => h.grown.block k hk (fun e => hne (Option.some.inj e)), turned_below h (Nat.le_refl _) (Nat.le_of_lt hb)⟩
set_option maxRecDepth 100000 in
set_option maxHeartbeats 16000000 in
theorem merge_any (x : Option Addr) (cap : Nat) (l : List Ob) (w : World) (hE : ES w) (hl : SlA w x l) (hm : l.length ≤ 1000000) (hb : OBs l) :
    Calls Tryz.prog 10 #[.slice x l.length cap] w (MergePost l w) := by
  have HL := Lib.hid (fun w' (h : Below w.heap.size w w') => hl.below h)
  have HE := Lib.hid (fun w' (h : Below w.heap.size w w') => hE.below h)
  have SO := Lib.hid (sort_any x cap l w hE hl hm hb)
  have hmm := @run_makeMap Tryz.prog
  obtain ⟨n, hnl⟩ : ∃ n, l.length = n := ⟨_, rfl⟩
  by_cases hz : allC l = 0
  · have n5 : n ≤ 500 := by have := (allC_ok hz).1; omega
    have KEYS := Lib.hid (fun i (h : i < l.length) => good_key ((allC_ok hz).2 _ (List.getElem_mem h)) (hb i h))
    have ZK := Lib.hid (fun i (h : i ≤ l.length) => kept_ok hz i h)
    have KB : Hid (OBs (keptTo l n)) := Lib.hid (fun i hi => by
      obtain ⟨j, hj, _, _, e⟩ := keptTo_mem (List.getElem_mem hi)
      rw [← e]
      exact hb j hj)
    have FIN : Hid (∀ y, y.Perm (keptTo l n) → ordL y → MergeIs l y (dropTo l n) 0) := Lib.hid (fun y h g => by
      subst hnl
      exact Or.inl ⟨hz, h, g, rfl, rfl⟩)
    have LN := Lib.hid (fun i => keptTo_len l i)
    rw [hnl] at SO ⊢
    have NL := Lib.hid hnl
    have HZ := Lib.hid hz
    clear hl hE hb hnl hm hz
    go_enter Tryz.func10, Tryz.ntmps10
    go_wp2_with fail
    refine SO.out.mono ?_
    rintro e w1 ⟨v0, s, c, rfl, hs, hv, hb1⟩
    obtain ⟨sa, sc, rfl, hsl⟩ := hv
    obtain ⟨sp, so, rfl⟩ : s.Perm l ∧ ordL s ∧ c = 0 := by
      rcases hs with ⟨_, h1, h2, h3⟩ | ⟨h1, _⟩
      · exact ⟨h1, h2, h3⟩
      · exact absurd HZ.out h1
    have sl : s.length = n := by rw [sp.length_eq]; exact NL.out
    rw [sl]
    have SL := Lib.hid (fun w' (h : Below w1.heap.size w1 w') => hsl.below h)
    have SP := Lib.hid sp
    have SD := Lib.hid so
    have SN := Lib.hid sl
    have B1 := Lib.hid hb1
    have SK : Hid (∀ i (h : i < s.length), goodK (kyOf (s[i]'h))) := Lib.hid (fun i h => by
      obtain ⟨j, hj, e⟩ := List.getElem_of_mem (sp.mem_iff.1 (List.getElem_mem h))
      rw [← e]
      exact KEYS.out j hj)
    clear hs hsl sp so sl hb1 SO
    have M0 := Lib.hid (OMg.made (P := Tryz.prog) (K := 65) (kv := kyV) (vv := obsV) (good := goodK) w1)
    have B2 := Lib.hid ((Below.refl w1.heap.size w1).alloc (Nat.le_refl _) (.map #[] 0))
    obtain ⟨mb, hmb⟩ : ∃ m, w1.heap.size = m := ⟨_, rfl⟩
    go_upto_region 5 with fail
    rw [hmb] at M0 B2
    try rw [hmb]
    have MB := Lib.hid hmb
    clear hmb
    obtain ⟨w2, hw2⟩ : ∃ v, w1.alloc (.map #[] 0) = v := ⟨_, rfl⟩
    rw [hw2] at M0 B2 ⊢
    clear hw2
    go_wp2_with fail
    go_loopw [28] (fun i wr => ∃ (j : Nat) (f : Ky → Option Ob), j ≤ n ∧ i = .int .i64 j ∧ Hid (OM wr mb j f) ∧ Hid (∀ k, BstOf (s.take j) k (f k)) ∧ Hid (Below mb w1 wr)) (fun i _ => n - (intOf i).toNat)
    case atStart => exact ⟨0, fun _ => none, Nat.zero_le _, rfl, M0, Lib.hid (fun k => BstOf.nil k), B2⟩
    case round =>
      obtain ⟨j, f, hj, rfl, M, H, B⟩ := hrel
      clear M0 B2
      by_cases hlt : j < n
      · have hjl : j < s.length := by rw [SN.out]; exact hlt
        have BW : Below w1.heap.size w1 wr := by rw [MB.out]; exact B.out
        obtain ⟨b, off, rfl, lt, row⟩ := (SL.out _ BW).get hjl
        have R := Lib.hid (row j hjl)
        have GK := Lib.hid (SK.out j hjl)
        obtain ⟨o, ho⟩ : ∃ o, s[j]'hjl = o := ⟨_, rfl⟩
        have HO := Lib.hid ho
        rw [ho] at R GK
        have i1 : (j : Int) < (n : Int) := by omega
        have n6 : j < 1000000 := by omega
        have NLT := Lib.hid n6
        have LE := Lib.hid (show mb ≤ wr.heap.size by rw [← MB.out]; exact BW.size)
        clear row lt BW ho KEYS SK n6
        have r8 := Rw.new wr (obsC o) 33
        have l8 := (Below.refl wr.heap.size wr).alloc (Nat.le_refl _) (.cells (obsC o).toArray 33)
        obtain ⟨v1, hv1⟩ : ∃ v, wr.alloc (.cells (obsC o).toArray 33) = v := ⟨_, rfl⟩
        rw [hv1] at r8 l8
        have V1 := Lib.hid hv1
        have R8 := Lib.hid r8
        have L8 := Lib.hid l8
        clear r8 l8 hv1
        go_upto_region 8 with (first | (refine wpList_store_new rfl _ (.tmp 8) (.tmp 31) rfl _ _ rfl rfl info8 rfl ?_ ?_; simp [Value.oneCell']) | (refine wpList_load_mid rfl _ (.tmp 30) rfl b (off + j * 8) rfl (obsC o) _ R.out Tryz.underlying33 rfl info8 ?_))
        rw [show wr.alloc (.cells #[.string o.name, .string o.site, .int .i64 o.t, .int .i64 o.ra, .int .i64 o.dec, .int .i64 o.sg, .int .i64 o.mag, .int .u8 o.band] 33) = v1 from V1.out]
        clear V1 R
        have c0 := R8.out.cell (j := 0) (v := _) rfl
        have c1 := R8.out.cell (j := 1) (v := _) rfl
        have c2 := R8.out.cell (j := 2) (v := _) rfl
        have r9 := Rw.new v1 (kyC (kyOf o)) 65
        have l9 := (Below.refl v1.heap.size v1).alloc (Nat.le_refl _) (.cells (kyC (kyOf o)).toArray 65)
        obtain ⟨v2, hv2⟩ : ∃ v, v1.alloc (.cells (kyC (kyOf o)).toArray 65) = v := ⟨_, rfl⟩
        rw [hv2] at r9 l9
        obtain ⟨q1, hq1⟩ : ∃ q, v1.heap.size = q := ⟨_, rfl⟩
        have r9' : Rw v2 q1 (kyC (kyOf o)) := by rw [← hq1]; exact r9
        have V2 := Lib.hid hv2
        have R9 := Lib.hid r9'
        have L9 := Lib.hid (below_then L8.out l9)
        have R8b := Lib.hid (R8.out.call l9)
        clear r9 r9' l9 hv2 L8 R8
        go_upto_region 9 with (refine wpList_store_new rfl _ (.tmp 9) (.tmp 38) rfl _ (kyC (kyOf o)).toArray rfl rfl infoKy rfl ?_ ?_; simp [Value.oneCell'])
        rw [show v1.alloc (.cells #[.string o.name, .string o.site, .int .i64 o.t] 65) = v2 from V2.out]
        clear V2
        have M2 := Lib.hid (M.out.below L9.out)
        cases hf : f (kyOf o) with
        | none =>
          have HF := Lib.hid hf
          have H2 := Lib.hid (bsts_first hjl HO.out H.out hf)
          clear hf H
          have r10 := Rw.new v2 (obsC zeroO) 33
          have l10 := (Below.refl v2.heap.size v2).alloc (Nat.le_refl _) (.cells (obsC zeroO).toArray 33)
          obtain ⟨v3, hv3⟩ : ∃ v, v2.alloc (.cells (obsC zeroO).toArray 33) = v := ⟨_, rfl⟩
          rw [hv3] at r10 l10
          have V3 := Lib.hid hv3
          have R10 := Lib.hid r10
          have L10 := Lib.hid (below_then L9.out l10)
          have R8c := Lib.hid (R8b.out.call l10)
          have R9c := Lib.hid (R9.out.call l10)
          have M3 := Lib.hid (M2.out.below l10)
          clear r10 l10 hv3
          go_upto_region 10 with (first | (refine wpList_load_mid rfl _ (.tmp 9) rfl q1 0 rfl (kyC (kyOf o)) _ R9.out.row Tryz.underlying65 rfl infoKy ?_) | (at_lookup; refine wp_mlook_no _ rfl (.tmp 40) (.tmp 41) rfl mapK rfl M2.out (kyOf o) rfl GK.out HF.out ?_) | (refine wpList_store_new rfl _ (.tmp 10) (.tmp 43) rfl _ _ rfl rfl info8 rfl ?_ ?_; simp [Value.oneCell']))
          rw [show v2.alloc (.cells #[.string zeroO.name, .string zeroO.site, .int .i64 zeroO.t, .int .i64 zeroO.ra, .int .i64 zeroO.dec, .int .i64 zeroO.sg, .int .i64 zeroO.mag, .int .u8 zeroO.band] 33) = v3 from V3.out]
          clear V3 M2 L9 R8b R9
          go_wp2_with (first | (refine wpList_load_mid rfl _ (.tmp 9) rfl q1 0 rfl (kyC (kyOf o)) _ R9c.out.row Tryz.underlying65 rfl infoKy ?_) | (refine wpList_load_mid rfl _ (.tmp 8) rfl wr.heap.size 0 rfl (obsC o) _ R8c.out.row Tryz.underlying33 rfl info8 ?_) | (at_mapUpdate; refine wp_mstore _ rfl (.tmp 54) (.tmp 55) (.tmp 56) rfl mapK rfl M3.out (kyOf o) rfl GK.out o rfl NLT.out ?_; intro w6 hm6 ht6))
          have B6 := Lib.hid ((B.out.trans (L10.out.mono LE.out)).trans (turned_below ht6 (Nat.le_refl _) (Nat.le_trans LE.out L10.out.size)))
          have M6 := Lib.hid hm6
          clear hm6 ht6 M3 L10 R10 R8c R9c B M
          go_wp2_with fail
          go_roundw
          case rel => exact ⟨j + 1, _, by omega, by go_num, M6, H2, B6⟩
          case measure => simp [intOf]; omega
        | some b0 =>
          have HF := Lib.hid hf
          have r10 := Rw.new v2 (obsC b0) 33
          have l10 := (Below.refl v2.heap.size v2).alloc (Nat.le_refl _) (.cells (obsC b0).toArray 33)
          obtain ⟨v3, hv3⟩ : ∃ v, v2.alloc (.cells (obsC b0).toArray 33) = v := ⟨_, rfl⟩
          rw [hv3] at r10 l10
          have V3 := Lib.hid hv3
          have R10 := Lib.hid r10
          have L10 := Lib.hid (below_then L9.out l10)
          have R8c := Lib.hid (R8b.out.call l10)
          have R9c := Lib.hid (R9.out.call l10)
          have M3 := Lib.hid (M2.out.below l10)
          clear r10 l10 hv3
          go_upto_region 10 with (first | (refine wpList_load_mid rfl _ (.tmp 9) rfl q1 0 rfl (kyC (kyOf o)) _ R9.out.row Tryz.underlying65 rfl infoKy ?_) | (at_lookup; refine wp_mlook_yes _ rfl (.tmp 40) (.tmp 41) rfl mapK rfl M2.out (kyOf o) rfl GK.out _ HF.out ?_) | (refine wpList_store_new rfl _ (.tmp 10) (.tmp 43) rfl _ _ rfl rfl info8 rfl ?_ ?_; simp [Value.oneCell']))
          rw [show v2.alloc (.cells #[.string b0.name, .string b0.site, .int .i64 b0.t, .int .i64 b0.ra, .int .i64 b0.dec, .int .i64 b0.sg, .int .i64 b0.mag, .int .u8 b0.band] 33) = v3 from V3.out]
          clear V3 M2 L9 R8b R9
          have d5 := R8c.out.cell (j := 5) (v := _) rfl
          have e5 := R10.out.cell (j := 5) (v := _) rfl
          by_cases g : o.sg < b0.sg
          · have H2 := Lib.hid (bsts_less hjl HO.out H.out hf g)
            clear hf H
            go_wp2_with (first | (refine wpList_load_mid rfl _ (.tmp 9) rfl q1 0 rfl (kyC (kyOf o)) _ R9c.out.row Tryz.underlying65 rfl infoKy ?_) | (refine wpList_load_mid rfl _ (.tmp 8) rfl wr.heap.size 0 rfl (obsC o) _ R8c.out.row Tryz.underlying33 rfl info8 ?_) | (at_mapUpdate; refine wp_mstore _ rfl (.tmp 54) (.tmp 55) (.tmp 56) rfl mapK rfl M3.out (kyOf o) rfl GK.out o rfl NLT.out ?_; intro w6 hm6 ht6))
            have B6 := Lib.hid ((B.out.trans (L10.out.mono LE.out)).trans (turned_below ht6 (Nat.le_refl _) (Nat.le_trans LE.out L10.out.size)))
            have M6 := Lib.hid hm6
            clear hm6 ht6 M3 L10 R10 R8c R9c B M
            go_wp2_with fail
            go_roundw
            case rel => exact ⟨j + 1, _, by omega, by go_num, M6, H2, B6⟩
            case measure => simp [intOf]; omega
          · have H2 := Lib.hid (bsts_keep hjl SD.out HO.out H.out hf g)
            have B6 := Lib.hid (B.out.trans (L10.out.mono LE.out))
            have M6 := Lib.hid (show OM v3 mb (j + 1) f from (M3.out.mono (Nat.le_succ j)))
            clear hf H M3 L10 R10 R8c R9c B M
            go_wp2_with fail
            go_roundw
            case rel => exact ⟨j + 1, f, by omega, by go_num, M6, H2, B6⟩
            case measure => simp [intOf]; omega
      · obtain rfl : j = n := by omega
        have tk : s.take j = s := by rw [← SN.out, List.take_length]
        have h1 := H.out
        rw [tk] at h1
        have BW : Below w1.heap.size w1 wr := by rw [MB.out]; exact B.out
        have H0 := Lib.hid (lefts_start SP.out h1)
        have B0 := Lib.hid (below_then B1.out BW)
        have M0 : Hid (M3 w.heap.size mb j f (.slice none 0 0) (keptTo l 0) (.slice none 0 0) (dropTo l 0) wr) := Lib.hid ⟨W2.nil _ _ B0.out.size, M.out, by simp [Value.ownBlock], by simp [Value.ownBlock]⟩
        have MW := Lib.hid (show w.heap.size ≤ mb by rw [← MB.out]; exact B1.out.size)
        clear h1 tk BW H B M SL SP SD SN SK B1 MB
        go_wp2_with fail
        go_loopw [2, 3, 60] (fun vk vd i wr => ∃ (k : Nat) (g : Ky → Option Ob), k ≤ j ∧ i = .int .i64 k ∧ Hid (M3 w.heap.size mb j g vk (keptTo l k) vd (dropTo l k) wr) ∧ Hid (∀ q, LeftOf l k q (g q)) ∧ Hid (Below w.heap.size w wr)) (fun _ _ i _ => j - (intOf i).toNat)
        case atStart => exact ⟨0, f, Nat.zero_le _, rfl, M0, H0, B0⟩
        case round =>
          obtain ⟨k, g, hk, rfl, M, H, B⟩ := hrel
          clear M0 H0 B0
          by_cases hlt : k < j
          · have hkl : k < l.length := by rw [NL.out]; exact hlt
            obtain ⟨b, off, rfl, lt, row⟩ := (HL.out _ B.out).get hkl
            have R := Lib.hid (row k hkl)
            have GK := Lib.hid (KEYS.out k hkl)
            obtain ⟨o, ho⟩ : ∃ o, l[k]'hkl = o := ⟨_, rfl⟩
            rw [ho] at R GK
            have YES := Lib.hid (fun h => lefts_kept hkl ho H.out h)
            have NOT := Lib.hid (fun h => lefts_dropped hkl ho H.out h)
            have i1 : (k : Int) < (j : Int) := by omega
            have ll := (LN.out k).1
            have KL := Lib.hid (show (keptTo l k).length ≤ 1000000 by omega)
            have DL := Lib.hid (show (dropTo l k).length ≤ 1000000 by omega)
            have MN := Lib.hid (show mb < wr.heap.size from M.out.mp.lt)
            have LE := Lib.hid B.out.size
            clear row lt ho KEYS H ll
            have r8 := Rw.new wr (obsC o) 33
            have l8 := (Below.refl wr.heap.size wr).alloc (Nat.le_refl _) (.cells (obsC o).toArray 33)
            obtain ⟨v1, hv1⟩ : ∃ v, wr.alloc (.cells (obsC o).toArray 33) = v := ⟨_, rfl⟩
            rw [hv1] at r8 l8
            have V1 := Lib.hid hv1
            have R8 := Lib.hid r8
            have L8 := Lib.hid l8
            clear r8 l8 hv1
            go_upto_region 16 with (first | (refine wpList_store_new rfl _ (.tmp 13) (.tmp 64) rfl _ _ rfl rfl info8 rfl ?_ ?_; simp [Value.oneCell']) | (refine wpList_load_mid rfl _ (.tmp 63) rfl b (off + k * 8) rfl (obsC o) _ R.out Tryz.underlying33 rfl info8 ?_))
            rw [show wr.alloc (.cells #[.string o.name, .string o.site, .int .i64 o.t, .int .i64 o.ra, .int .i64 o.dec, .int .i64 o.sg, .int .i64 o.mag, .int .u8 o.band] 33) = v1 from V1.out]
            clear V1 R
            have c0 := R8.out.cell (j := 0) (v := _) rfl
            have c1 := R8.out.cell (j := 1) (v := _) rfl
            have c2 := R8.out.cell (j := 2) (v := _) rfl
            have r9 := Rw.new v1 (kyC (kyOf o)) 65
            have l9 := (Below.refl v1.heap.size v1).alloc (Nat.le_refl _) (.cells (kyC (kyOf o)).toArray 65)
            obtain ⟨v2, hv2⟩ : ∃ v, v1.alloc (.cells (kyC (kyOf o)).toArray 65) = v := ⟨_, rfl⟩
            rw [hv2] at r9 l9
            obtain ⟨q1, hq1⟩ : ∃ q, v1.heap.size = q := ⟨_, rfl⟩
            have r9' : Rw v2 q1 (kyC (kyOf o)) := by rw [← hq1]; exact r9
            have V2 := Lib.hid hv2
            have R9 := Lib.hid r9'
            have L9 := Lib.hid (below_then L8.out l9)
            have R8b := Lib.hid (R8.out.call l9)
            clear r9 r9' l9 hv2 L8 R8
            go_upto_region 17 with (refine wpList_store_new rfl _ (.tmp 14) (.tmp 71) rfl _ (kyC (kyOf o)).toArray rfl rfl infoKy rfl ?_ ?_; simp [Value.oneCell'])
            rw [show v1.alloc (.cells #[.string o.name, .string o.site, .int .i64 o.t] 65) = v2 from V2.out]
            clear V2 c0 c1 c2
            have M2 := Lib.hid (M.out.below L9.out)
            cases hf : g (kyOf o) with
            | none =>
              have HF := Lib.hid hf
              have NE : Hid (g (kyOf o) ≠ some o) := Lib.hid (by rw [hf]; simp)
              clear hf
              have r10 := Rw.new v2 (obsC zeroO) 33
              have l10 := (Below.refl v2.heap.size v2).alloc (Nat.le_refl _) (.cells (obsC zeroO).toArray 33)
              obtain ⟨v3, hv3⟩ : ∃ v, v2.alloc (.cells (obsC zeroO).toArray 33) = v := ⟨_, rfl⟩
              rw [hv3] at r10 l10
              have V3 := Lib.hid hv3
              have R10 := Lib.hid r10
              have L10 := Lib.hid (below_then L9.out l10)
              have R8c := Lib.hid (R8b.out.call l10)
              have R9c := Lib.hid (R9.out.call l10)
              have M3 := Lib.hid (M2.out.below l10)
              have B3 := Lib.hid (below_then B.out L10.out)
              clear r10 l10 hv3
              go_upto_region 18 with (first | (refine wpList_load_mid rfl _ (.tmp 14) rfl q1 0 rfl (kyC (kyOf o)) _ R9.out.row Tryz.underlying65 rfl infoKy ?_) | (at_lookup; refine wp_mlook_no _ rfl (.tmp 73) (.tmp 74) rfl mapK rfl M2.out.mp (kyOf o) rfl GK.out HF.out ?_) | (refine wpList_store_new rfl _ (.tmp 15) (.tmp 76) rfl _ _ rfl rfl info8 rfl ?_ ?_; simp [Value.oneCell']))
              rw [show v2.alloc (.cells #[.string zeroO.name, .string zeroO.site, .int .i64 zeroO.t, .int .i64 zeroO.ra, .int .i64 zeroO.dec, .int .i64 zeroO.sg, .int .i64 zeroO.mag, .int .u8 zeroO.band] 33) = v3 from V3.out]
              clear V3 M2 L9 R8b R9 M B
              obtain ⟨H2, E1, E2⟩ := NOT.out NE.out
              have H3 := Lib.hid H2
              have E3 := Lib.hid E1
              have E4 := Lib.hid E2
              have TW := Lib.hid M3.out.two
              clear H2 E1 E2 YES NOT NE HF R8c R9c R10 L10
              go_wp2_with (at_builtin; refine wp_drop _ rfl (.tmp 85) (.tmp 87) rfl w.heap.size _ _ (keptTo l k) (dropTo l k) k rfl (by first | rfl | simp [Act.eval]) TW.out DL.out ?_; intro v' w7 h7 hg7 hat7 hb7)
              have M7 := Lib.hid (M3.out.drop h7 hg7 hat7)
              have B7 := Lib.hid (B3.out.trans hb7)
              clear h7 hg7 hat7 hb7 M3 B3 TW
              go_wp2_with fail
              go_roundw
              case rel => exact ⟨k + 1, g, by omega, by go_num, Lib.hid (by rw [E3.out, E4.out]; exact M7.out), H3, B7⟩
              case measure => simp [intOf]; omega
            | some b0 =>
              have HF := Lib.hid hf
              have r10 := Rw.new v2 (obsC b0) 33
              have l10 := (Below.refl v2.heap.size v2).alloc (Nat.le_refl _) (.cells (obsC b0).toArray 33)
              obtain ⟨v3, hv3⟩ : ∃ v, v2.alloc (.cells (obsC b0).toArray 33) = v := ⟨_, rfl⟩
              rw [hv3] at r10 l10
              have V3 := Lib.hid hv3
              have R10 := Lib.hid r10
              have L10 := Lib.hid (below_then L9.out l10)
              have R8c := Lib.hid (R8b.out.call l10)
              have R9c := Lib.hid (R9.out.call l10)
              have M3 := Lib.hid (M2.out.below l10)
              have B3 := Lib.hid (below_then B.out L10.out)
              clear r10 l10 hv3
              go_upto_region 18 with (first | (refine wpList_load_mid rfl _ (.tmp 14) rfl q1 0 rfl (kyC (kyOf o)) _ R9.out.row Tryz.underlying65 rfl infoKy ?_) | (at_lookup; refine wp_mlook_yes _ rfl (.tmp 73) (.tmp 74) rfl mapK rfl M2.out.mp (kyOf o) rfl GK.out _ HF.out ?_) | (refine wpList_store_new rfl _ (.tmp 15) (.tmp 76) rfl _ _ rfl rfl info8 rfl ?_ ?_; simp [Value.oneCell']))
              rw [show v2.alloc (.cells #[.string b0.name, .string b0.site, .int .i64 b0.t, .int .i64 b0.ra, .int .i64 b0.dec, .int .i64 b0.sg, .int .i64 b0.mag, .int .u8 b0.band] 33) = v3 from V3.out]
              clear V3 M2 L9 R8b R9 M B
              have d0 := R8c.out.cell (j := 0) (v := _) rfl
              have d1 := R8c.out.cell (j := 1) (v := _) rfl
              have d2 := R8c.out.cell (j := 2) (v := _) rfl
              have d3 := R8c.out.cell (j := 3) (v := _) rfl
              have d4 := R8c.out.cell (j := 4) (v := _) rfl
              have d5 := R8c.out.cell (j := 5) (v := _) rfl
              have d6 := R8c.out.cell (j := 6) (v := _) rfl
              have d7 := R8c.out.cell (j := 7) (v := _) rfl
              have e0 := R10.out.cell (j := 0) (v := _) rfl
              have e1 := R10.out.cell (j := 1) (v := _) rfl
              have e2 := R10.out.cell (j := 2) (v := _) rfl
              have e3 := R10.out.cell (j := 3) (v := _) rfl
              have e4 := R10.out.cell (j := 4) (v := _) rfl
              have e5 := R10.out.cell (j := 5) (v := _) rfl
              have e6 := R10.out.cell (j := 6) (v := _) rfl
              have e7 := R10.out.cell (j := 7) (v := _) rfl
              by_cases eo : b0 = o
              · have EQ : ∀ w', (Go.Op.equalIn 10000 33 (.agg #[.string b0.name, .string b0.site, .int .i64 b0.t, .int .i64 b0.ra, .int .i64 b0.dec, .int .i64 b0.sg, .int .i64 b0.mag, .int .u8 b0.band]) (.agg #[.string o.name, .string o.site, .int .i64 o.t, .int .i64 o.ra, .int .i64 o.dec, .int .i64 o.sg, .int .i64 o.mag, .int .u8 o.band])).run Tryz.prog w' = .ok true w' := fun w' => by
                  have := obs_eql b0 o w'
                  rw [decide_eq_true eo] at this
                  exact this
                obtain ⟨H2, E1, E2⟩ := YES.out (by rw [hf, eo])
                have H3 := Lib.hid H2
                have E3 := Lib.hid E1
                have E4 := Lib.hid E2
                clear H2 E1 E2 YES NOT hf eo
                go_upto_region 20 with fail
                clear EQ d0 e0 d1 e1 d2 e2 d3 e3 d4 e4 d5 e5 d6 e6 d7 e7
                go_upto_region 21 with (first | (refine wpList_load_mid rfl _ (.tmp 14) rfl q1 0 rfl (kyC (kyOf o)) _ R9c.out.row Tryz.underlying65 rfl infoKy ?_) | (at_delete; refine wp_mdrop _ rfl (.tmp 89) (.tmp 90) rfl mapK rfl M3.out.mp (kyOf o) rfl GK.out ?_; intro w6 hm6 ht6))
                have ltm := M3.out.mp.lt
                have R11 := Lib.hid (R8c.out.only (turned_only ht6 ltm) (Nat.ne_of_gt MN.out))
                have M6 := Lib.hid (M3.out.turned ht6 hm6)
                have B6 := Lib.hid (B3.out.trans (turned_below ht6 MW.out (Nat.le_trans MW.out (Nat.le_of_lt ltm))))
                have TW := Lib.hid M6.out.two
                clear hm6 ht6 ltm M3 B3 R8c R9c R10 L10
                go_wp2_with (first | (refine wpList_load_mid rfl _ (.tmp 13) rfl wr.heap.size 0 rfl (obsC o) _ R11.out.row Tryz.underlying33 rfl info8 ?_) | (at_builtin; refine wp_keep _ rfl (.tmp 91) (.tmp 93) rfl w.heap.size _ _ (keptTo l k) (dropTo l k) o rfl (by first | rfl | simp [Act.eval]) TW.out KL.out ?_; intro v' w7 h7 hg7 hat7 hb7))
                have M7 := Lib.hid (M6.out.keep h7 hg7 hat7)
                have B7 := Lib.hid (B6.out.trans hb7)
                clear h7 hg7 hat7 hb7 M6 B6 TW R11
                go_wp2_with fail
                go_roundw
                case rel => exact ⟨k + 1, _, by omega, by go_num, Lib.hid (by rw [E3.out, E4.out]; exact M7.out), H3, B7⟩
                case measure => simp [intOf]; omega
              · have EQ : ∀ w', (Go.Op.equalIn 10000 33 (.agg #[.string b0.name, .string b0.site, .int .i64 b0.t, .int .i64 b0.ra, .int .i64 b0.dec, .int .i64 b0.sg, .int .i64 b0.mag, .int .u8 b0.band]) (.agg #[.string o.name, .string o.site, .int .i64 o.t, .int .i64 o.ra, .int .i64 o.dec, .int .i64 o.sg, .int .i64 o.mag, .int .u8 o.band])).run Tryz.prog w' = .ok false w' := fun w' => by
                  have := obs_eql b0 o w'
                  rw [decide_eq_false eo] at this
                  exact this
                have NE : Hid (g (kyOf o) ≠ some o) := Lib.hid (by rw [hf]; exact fun h => eo (Option.some.inj h))
                clear hf eo
                go_upto_region 19 with fail
                clear EQ d0 e0 d1 e1 d2 e2 d3 e3 d4 e4 d5 e5 d6 e6 d7 e7
                obtain ⟨H2, E1, E2⟩ := NOT.out NE.out
                have H3 := Lib.hid H2
                have E3 := Lib.hid E1
                have E4 := Lib.hid E2
                have TW := Lib.hid M3.out.two
                clear H2 E1 E2 YES NOT NE HF R8c R9c R10 L10
                go_wp2_with (at_builtin; refine wp_drop _ rfl (.tmp 85) (.tmp 87) rfl w.heap.size _ _ (keptTo l k) (dropTo l k) k rfl (by first | rfl | simp [Act.eval]) TW.out DL.out ?_; intro v' w7 h7 hg7 hat7 hb7)
                have M7 := Lib.hid (M3.out.drop h7 hg7 hat7)
                have B7 := Lib.hid (B3.out.trans hb7)
                clear h7 hg7 hat7 hb7 M3 B3 TW
                go_wp2_with fail
                go_roundw
                case rel => exact ⟨k + 1, g, by omega, by go_num, Lib.hid (by rw [E3.out, E4.out]; exact M7.out), H3, B7⟩
                case measure => simp [intOf]; omega
          · obtain rfl : k = j := by omega
            have hsv := slV_of M.out.two.kp.1
            have IV := Lib.hid (Own1.intV M.out.two.dp)
            obtain ⟨ka, kc, rfl, hsl⟩ := hsv
            have zk : (keptTo l k).length ≤ 1000000 := by have := (LN.out k).1; omega
            have SO := Lib.hid (sort_any ka kc (keptTo l k) wr (HE.out _ B.out) hsl zk KB.out)
            have KZ := Lib.hid (ZK.out k (by have := NL.out; omega))
            clear hsl M H HL HE KEYS ZK KB LN zk
            go_wp2_with fail
            refine SO.out.mono ?_
            rintro e w8 ⟨v8, y, c, rfl, hs, hv, hb8⟩
            obtain ⟨sp, so, rfl⟩ : y.Perm (keptTo l k) ∧ ordL y ∧ c = 0 := by
              rcases hs with ⟨_, h1, h2, h3⟩ | ⟨h1, _⟩
              · exact ⟨h1, h2, h3⟩
              · exact absurd KZ.out h1
            have F := Lib.hid (FIN.out y sp so)
            have V8 := Lib.hid hv
            have I8 := Lib.hid (IV.out.below hb8)
            have B8 := Lib.hid (below_then B.out hb8)
            clear hs hv hb8 sp so IV B SO FIN KZ
            go_wp2_with fail
            go_ret3
            exact ⟨_, _, y, _, 0, rfl, F.out, V8.out, I8.out, B8.out⟩
  · have FIN := Lib.hid (show MergeIs l [] [] (allC l) from Or.inr ⟨hz, rfl, rfl, rfl⟩)
    have hnz : (allC l != 0) = true := by rw [bne, beq_eq_false_iff_ne.2 hz]; rfl
    have SA : Hid (∀ y c, SortIs l y c → c = allC l) := Lib.hid (fun y c h => by
      rcases h with ⟨h, _⟩ | ⟨_, _, h⟩
      · exact absurd h hz
      · exact h)
    clear hl hE hb hnl hm HL HE hz
    generalize allC l = K at *
    go_enter Tryz.func10, Tryz.ntmps10
    go_wp2_with fail
    refine SO.out.mono ?_
    rintro e w1 ⟨v0, s, c, rfl, hs, hv, hb1⟩
    obtain rfl := SA.out s c hs
    have B1 := Lib.hid hb1
    clear hs hv hb1 SO SA
    go_wp2_with fail
    go_ret3
    exact ⟨_, _, [], [], _, rfl, FIN.out, SlV.nil _, IntV.nil _, B1.out⟩
end Vw
end Go.Proofs.YtaghilgfldaaiaaGreatDoor
/-
  The walks of the reference's trim, note, Check, SameTexts and GreatNotes.
-/
namespace Go.Proofs.YtaghilgfldaaiaaGreatDoor
namespace Vw
open Go.RowKit Lw Go.Proofs.YtaghilgfldaaiaaGreatDoor.Ap Go.Proofs.YtaghilgfldaaiaaGreatDoor.Vp Go.Proofs.YtaghilgfldaaiaaGreatDoor.Op Go.Proofs.YtaghilgfldaaiaaGreatDoor.Ow Go.Proofs.YtaghilgfldaaiaaGreatDoor.Mp Go.Proofs.YtaghilgfldaaiaaGreatDoor.Mw Go.Proofs.YtaghilgfldaaiaaGreatDoor.At

theorem StA.get1 {w : World} {x : Option Addr} {l : List ByteArray} (h : StA w x l) {i : Nat} (hi : i < l.length) : ∃ b off, x = some ⟨b, off, none⟩ ∧ b < w.heap.size ∧ w.cell? ⟨b, off + i, none⟩ = some (.string (l[i]'hi)) := by
  rcases h with rfl | ⟨b, off, h1, h2, h3⟩
  · simp at hi
  · exact ⟨b, off, h1, h2, h3 i hi⟩
set_option maxRecDepth 100000 in
set_option maxHeartbeats 4000000 in
theorem sametexts_any (x y : Option Addr) (c d : Nat) (l : List ByteArray) (w : World) (hx : StA w x l) (hy : StA w y l) (hm : l.length ≤ 1000000) :
    Calls Tryz.prog 24 #[.slice x l.length c, .slice y l.length d] w fun e w' => e = .returned (.bool true) ∧ Below w.heap.size w w' := by
  have HX := Lib.hid (fun w' (h : Below w.heap.size w w') => hx.below h)
  have HY := Lib.hid (fun w' (h : Below w.heap.size w w') => hy.below h)
  obtain ⟨n, hnl⟩ : ∃ n, l.length = n := ⟨_, rfl⟩
  rw [hnl] at hm ⊢
  have NL := Lib.hid hnl
  clear hx hy hnl
  go_enter Tryz.func24, Tryz.ntmps24
  go_wp2_with fail
  go_loopw [5] (fun i wr => ∃ k : Nat, k ≤ n ∧ i = .int .i64 k ∧ Hid (Below w.heap.size w wr)) (fun i _ => n - (intOf i).toNat)
  case atStart => exact ⟨0, Nat.zero_le _, rfl, Lib.hid (Below.refl _ _)⟩
  case round =>
    obtain ⟨k, hk, rfl, B⟩ := hrel
    by_cases hlt : k < n
    · have hkl : k < l.length := by rw [NL.out]; exact hlt
      obtain ⟨b1, o1, rfl, lt1, r1⟩ := (HX.out _ B.out).get1 hkl
      obtain ⟨b2, o2, rfl, lt2, r2⟩ := (HY.out _ B.out).get1 hkl
      have i1 : (k : Int) < (n : Int) := by omega
      have i0 : (0 : Int) ≤ (k : Int) := by omega
      generalize l[k]'hkl = v at *
      clear lt1 lt2
      go_wp2_with fail
      go_quiet (fail)
      have B2 := Lib.hid (B.out.trans (drewN_below2 ((Below.refl _ _).mono B.out.size) nq))
      clear B
      go_wp2_with fail
      go_roundw
      case rel => exact ⟨k + 1, by omega, by go_num, B2⟩
      case measure => simp [intOf] <;> omega
    · obtain rfl : k = n := by omega
      go_wp2_with fail
      go_ret
      exact ⟨rfl, B.out⟩
end Vw
end Go.Proofs.YtaghilgfldaaiaaGreatDoor
/-
  What the law PsvNames needs of slices of zeros and of its other tables.
-/
namespace Go.Proofs.YtaghilgfldaaiaaGreatDoor
namespace Vw
open Go.RowKit Lw Go.Proofs.YtaghilgfldaaiaaGreatDoor.Ap Go.Proofs.YtaghilgfldaaiaaGreatDoor.Vp Go.Proofs.YtaghilgfldaaiaaGreatDoor.Op Go.Proofs.YtaghilgfldaaiaaGreatDoor.Ow Go.Proofs.YtaghilgfldaaiaaGreatDoor.Mp Go.Proofs.YtaghilgfldaaiaaGreatDoor.Mw Go.Proofs.YtaghilgfldaaiaaGreatDoor.At

theorem infoS1 : (Tryz.prog.info? 9).map (fun i => (i.zero, i.size, i.bytes)) = some (some (.string ⟨#[]⟩), 1, 16) := by kernel_rfl
def zS51 : Array Value := madeCells #[.string ⟨#[]⟩] 51
theorem make_S (w : World) : (Instr.makeSlice 42 (.int .i64 51) (.int .i64 51)).run Tryz.prog w = .ok (.slice (some ⟨w.heap.size, 0, none⟩) 51 51) (w.alloc (.cells zS51 9)) := by
  obtain ⟨i, hi, hzz⟩ := Option.map_eq_some_iff.1 infoS1
  simp only [Prod.mk.injEq] at hzz
  obtain ⟨hz, hs, hb⟩ := hzz
  have h := run_make (P := Tryz.prog) w 42 9 i _ Tryz.underlying42 hi hz .i64 .i64 (51 : Int) (51 : Int) (by omega) (Int.le_refl _) (by rw [hb]; omega) (by omega)
  rw [hs] at h
  exact h
def no51 : List ByteArray := List.replicate 51 ⟨#[]⟩
theorem zeros_st (w : World) : StA (w.alloc (.cells zS51 9)) (some ⟨w.heap.size, 0, none⟩) no51 := by
  refine Or.inr ⟨w.heap.size, 0, rfl, by simp, fun i hi => ?_⟩
  have hl : no51.length = 51 := List.length_replicate ..
  have hi2 : i < 51 := by omega
  have e : no51[i]'hi = ⟨#[]⟩ := List.getElem_replicate ..
  rw [World.cell?_alloc_at _ _ _ _ rfl, Nat.zero_add, e]
  have k : ∀ i, i < 51 → zS51[i]? = some (.string ⟨#[]⟩) := by
    intro i hi
    unfold zS51 madeCells
    rw [Array.getElem?_map, show (Array.range 51)[i]? = some i by simp [hi]]
    show some ((#[Value.string ⟨#[]⟩])[i % 1]!) = _
    rw [Nat.mod_one]
    rfl
  exact k i hi2
theorem sz51 : SzS no51 := fun s hs => by
  rw [List.eq_of_mem_replicate hs]
  decide
theorem many51 : checkN no51 = 4 := checkN_many (by unfold no51; rw [List.length_replicate]; omega)
def bA : ByteArray := ⟨#[32, 97]⟩
theorem bad_a : checkN [bA] = 8 := checkN_bad (by decide) (by decide)
def bL : ByteArray := stL (repB ⟨#[97]⟩ 101)
theorem bad_l : checkN [bL] = 8 := checkN_bad (by decide) (fun h => by
  have := (h bL (List.mem_singleton.2 rfl)).2.1
  have z : bL.size = 101 * 1 := repB_len ⟨#[97]⟩ 101
  omega)
def nA : List ByteArray := [⟨#[102, 105, 114, 115, 116, 32, 110, 111, 116, 101]⟩, ⟨#[]⟩]
def sM : ByteArray := ⟨([35, 32, 102, 105, 114, 115, 116, 32, 110, 111, 116, 101, 10, 35, 10, 110, 97, 109, 101, 124, 115, 116, 110, 124, 111, 98, 115, 84, 105, 109, 101, 124, 114, 97, 124, 100, 101, 99, 124, 115, 105, 103, 109, 97, 124, 109, 97, 103, 124, 98, 97, 110, 100, 10, 120, 124, 70, 53, 49, 124, 50, 48, 50, 54].append ([45, 49, 49, 45, 49, 54, 84, 48, 51, 58, 48, 48, 58, 48, 48, 46, 48, 48, 48, 48, 48, 48, 90, 124, 49, 53, 46, 48, 48, 48, 48, 48].append [48, 48, 48, 48, 124, 45, 49, 46, 48, 48, 48, 48, 48, 48, 48, 48, 48, 124, 49, 48, 48, 48, 48, 48, 48, 124, 45, 48, 46, 48, 53, 124, 10])).toArray⟩
theorem k_okM : okO oM := by decide +kernel
theorem k_printM : PrintTIs nA [oM] sM 0 := Or.inl ⟨by decide, by decide +kernel, rfl, [joinC 124 ((fieldL oM tG6).map (·.data.toList))], ⟨rfl, fun i h _ => by
  have : i = 0 := by simpa using h
  subst this
  exact ⟨tG6, k_textG, rfl⟩⟩, by decide +kernel⟩
theorem k_sM : ParseTIs sM nA [oM] 0 := tab_k (by decide +kernel) (by decide +kernel) (by decide) (by decide)
theorem small_sM : SmallC sM := small_k (by decide +kernel)
def sE : ByteArray := ⟨#[35, 10, 110, 97, 109, 101, 124, 115, 116, 110, 124, 111, 98, 115, 84, 105, 109, 101, 124, 114, 97, 124, 100, 101, 99, 124, 115, 105, 103, 109, 97, 124, 109, 97, 103, 124, 98, 97, 110, 100, 10]⟩
theorem k_sE : ParseTIs sE [⟨#[]⟩] [] 0 := tab_k (by decide +kernel) (by decide +kernel) (by decide) (by decide)
theorem small_sE : SmallC sE := small_k (by decide +kernel)
def hdS : ByteArray := ⟨#[110, 97, 109, 101, 124, 115, 116, 110, 124, 111, 98, 115, 84, 105, 109, 101, 124, 114, 97, 124, 100, 101, 99, 124, 115, 105, 103, 109, 97, 124, 109, 97, 103, 124, 98, 97, 110, 100, 10]⟩
def sF : ByteArray := stL (repB ⟨#[35, 32, 97, 10]⟩ 51 ++ hdS.data.toList)
theorem sF_is : stL (repB ⟨#[35, 32, 97, 10]⟩ 51) ++ hdS = sF := by
  apply str_toL
  simp [ByteArray.data_append, stL, sF]
theorem k_sF : ParseTIs sF [] [] 4 := Or.inr (Or.inl ⟨sF.data.toList.dropLast, List.replicate 51 ⟨#[97]⟩, [], by decide +kernel, by decide +kernel, Or.inl (by decide), rfl, rfl, rfl⟩)
theorem small_sF : SmallC sF := small_k (by decide +kernel)
theorem size_sF : sF.size ≤ 1000000 := by decide +kernel
theorem print_bad {n : List ByteArray} {l : List Ob} {s : ByteArray} {c : Int} (h : PrintTIs n l s c) (g : checkN n ≠ 0) : s = ByteArray.empty ∧ c = checkN n := by
  rcases h with ⟨k, _⟩ | ⟨_, a, b⟩ | ⟨k, _⟩
  · exact absurd k g
  · exact ⟨a, b⟩
  · exact absurd k g
theorem print_bad2 {l : List Ob} {s : ByteArray} {c : Int} (h : PrintTIs [] l s c) (g : allC l ≠ 0) : s = ByteArray.empty ∧ c = allC l := by
  rcases h with ⟨_, k, _⟩ | ⟨k, _⟩ | ⟨_, _, a, b⟩
  · exact absurd k g
  · exact absurd (by decide) k
  · exact ⟨a, b⟩
end Vw
end Go.Proofs.YtaghilgfldaaiaaGreatDoor
/-
  Plain law of tables: columns in any order; columns that are not there; no walk here.
-/
namespace Go.Proofs.YtaghilgfldaaiaaGreatDoor
namespace Vp
open Go.RowKit Lw Go.Proofs.YtaghilgfldaaiaaGreatDoor.Ap Go.Proofs.YtaghilgfldaaiaaGreatDoor.Op Go.Proofs.YtaghilgfldaaiaaGreatDoor.Mp Go.Proofs.YtaghilgfldaaiaaGreatDoor.Mw Go.Proofs.YtaghilgfldaaiaaGreatDoor.At

def ord8 : List Nat := [0, 1, 2, 3, 4, 5, 6, 7]
/-! ### The text of a table whose columns are exchanged -/
/-! ### The columns that must be there alone -/
end Vp
end Go.Proofs.YtaghilgfldaaiaaGreatDoor
/-
  The walk of the law PsvNames.
-/
namespace Go.Proofs.YtaghilgfldaaiaaGreatDoor
namespace Vw
open Go.RowKit Lw Go.Proofs.YtaghilgfldaaiaaGreatDoor.Ap Go.Proofs.YtaghilgfldaaiaaGreatDoor.Vp Go.Proofs.YtaghilgfldaaiaaGreatDoor.Op Go.Proofs.YtaghilgfldaaiaaGreatDoor.Ow Go.Proofs.YtaghilgfldaaiaaGreatDoor.Mp Go.Proofs.YtaghilgfldaaiaaGreatDoor.Mw Go.Proofs.YtaghilgfldaaiaaGreatDoor.At

/-- The law's boxes, the newest first. -/
structure NB (w0 : World) (bs : List (Nat × Ob)) (w : World) : Prop where
  below : Below w0.heap.size w0 w
  bx : ∀ p ∈ bs, Rw w p.1 (obsC p.2)
  srt : bs.Pairwise fun p q => q.1 < p.1
  ge : ∀ p ∈ bs, w0.heap.size ≤ p.1
theorem NB.nil {w0 w : World} (h : Below w0.heap.size w0 w) : NB w0 [] w := ⟨h, (fun _ h => by cases h), List.Pairwise.nil, (fun _ h => by cases h)⟩
theorem NB.call {w0 w w' : World} {bs : List (Nat × Ob)} (h : NB w0 bs w) (hb : Below w.heap.size w w') : NB w0 bs w' := ⟨below_then h.below hb, fun p hp => (h.bx p hp).call hb, h.srt, h.ge⟩
theorem NB.new {w0 w : World} {bs : List (Nat × Ob)} (h : NB w0 bs w) (o : Ob) : NB w0 ((w.heap.size, o) :: bs) (w.alloc (.cells (obsC o).toArray 33)) := by
  have hb := (Below.refl w.heap.size w).alloc (Nat.le_refl _) (.cells (obsC o).toArray 33)
  have h2 := h.call hb
  refine ⟨h2.below, fun p hp => ?_, List.pairwise_cons.2 ⟨fun p hp => (h.bx p hp).lt, h.srt⟩, fun p hp => ?_⟩
  · rcases List.mem_cons.1 hp with rfl | hp
    · exact Rw.new w (obsC o) 33
    · exact h2.bx p hp
  · rcases List.mem_cons.1 hp with rfl | hp
    · exact h.below.size
    · exact h.ge p hp
theorem NB.set {w0 w : World} {bs : List (Nat × Ob)} {b : Nat} {o : Ob} (h : NB w0 ((b, o) :: bs) w) (i : Nat) (v : Value) (o' : Ob) (hi : i < 8) (e : obsC o' = (obsC o).set i v) : NB w0 ((b, o') :: bs) (w.setCell ⟨b, i, none⟩ v) := by
  have hg : w0.heap.size ≤ b := h.ge _ (List.mem_cons_self ..)
  have hs := List.pairwise_cons.1 h.srt
  refine ⟨below_setCells b hg [v] i w h.below, fun p hp => ?_, List.pairwise_cons.2 ⟨hs.1, hs.2⟩, fun p hp => ?_⟩
  · rcases List.mem_cons.1 hp with rfl | hp
    · have := (h.bx _ (List.mem_cons_self ..)).set i v hi
      rw [← e] at this
      exact this
    · exact (h.bx p (List.mem_cons_of_mem _ hp)).apart (Nat.ne_of_lt (hs.1 p hp)) i v
  · rcases List.mem_cons.1 hp with rfl | hp
    · exact hg
    · exact h.ge p (List.mem_cons_of_mem _ hp)
theorem sz_nA : SzS nA := show ∀ s ∈ nA, s.size ≤ maxLen by decide
theorem st_new (w : World) (l : List ByteArray) : StA (w.alloc (.cells (strC l).toArray 9)) (some ⟨w.heap.size, 0, none⟩) l :=
  CA.stA ⟨by simp, fun j v hj => (Rw.new w (strC l) 9).cell hj⟩
theorem sl_new (w : World) (o : Ob) : SlA (w.alloc (.cells (obsC o).toArray 33)) (some ⟨w.heap.size, 0, none⟩) [o] := Or.inr ⟨w.heap.size, 0, rfl, by simp, fun i hi => by
  have : i = 0 := by simpa using hi
  subst this
  exact rangeAt_new w _ _⟩
theorem obs_one {o : Ob} (h : OB o) : OBs [o] := fun i hi => by
  have : i = 0 := by simpa using hi
  subst this
  exact h
/-- What stays while the first table is looked at. -/
structure N9 (w0 : World) (bs : List (Nat × Ob)) (x1 : Option Addr) (be oe : Nat) (e : Ob) (w : World) : Prop where
  nb : NB w0 bs w
  st : StA w x1 nA
  re : w.rangeAt be oe (obsC e)
  le : be < w.heap.size
theorem N9.call {w0 w w' : World} {bs : List (Nat × Ob)} {x1 : Option Addr} {be oe : Nat} {e : Ob} (h : N9 w0 bs x1 be oe e w) (hb : Below w.heap.size w w') : N9 w0 bs x1 be oe e w' := ⟨h.nb.call hb, h.st.below hb, rangeAt_below h.re hb h.le, Nat.lt_of_lt_of_le h.le hb.size⟩
theorem zQ_len (n : Nat) : (List.replicate n zQ).length = n := List.length_replicate ..
theorem print_zeros27 (n : Nat) (c : Int) (hn : n ≤ 2000) (hc : allC (List.replicate n zQ) = c) (h0 : c ≠ 0) (w : World) (hT : Gt.Tab w) (hE : ES w) : Calls Tryz.prog 22 #[.slice none 0 0, .slice (some ⟨w.heap.size, 0, none⟩) n n] (w.alloc (.cells (zC n) 33)) fun e w' => e = .returned (.tuple #[.string ByteArray.empty, .int .i64 c]) ∧ Below w.heap.size w w' := by
  have bl := (Below.refl w.heap.size w).alloc (Nat.le_refl _) (.cells (zC n) 33)
  have h := vprint_any none 0 [] (some ⟨w.heap.size, 0, none⟩) n (List.replicate n zQ) _ (hT.below bl) (hE.below bl) (Or.inl rfl) (zeros_at w n) (fun _ h => by cases h) (by decide) (by rw [zQ_len]; omega) (zeros_ob n)
  rw [zQ_len] at h
  refine h.mono ?_
  rintro e w1 ⟨s, c', rfl, hP, hb⟩
  obtain ⟨rfl, rfl⟩ := print_bad2 hP (by rw [hc]; exact h0)
  exact ⟨by rw [hc], below_then bl hb⟩
theorem merge_bad {l k : List Ob} {dr : List Nat} {c a : Int} (h : MergeIs l k dr c) (ha : allC l = a) (n : a ≠ 0) : k = [] ∧ dr = [] ∧ c = a := by
  rcases h with ⟨h, _⟩ | ⟨_, h2, h3, h4⟩
  · exact absurd (ha.symm.trans h) n
  · exact ⟨h2, h3, h4.trans ha⟩
theorem merge_zeros (w : World) (hE : ES w) : Calls Tryz.prog 10 #[.slice (some ⟨w.heap.size, 0, none⟩) 501 501] (w.alloc (.cells (zC 501) 33)) fun e w' => (∃ x y cx cy, e = .returned (.tuple #[.slice x 0 cx, .slice y 0 cy, .int .i64 4])) ∧ Below w.heap.size w w' := by
  have bl := (Below.refl w.heap.size w).alloc (Nat.le_refl _) (.cells (zC 501) 33)
  have h := merge_any (some ⟨w.heap.size, 0, none⟩) 501 (List.replicate 501 zQ) _ (hE.below bl) (zeros_at w 501) (by rw [zQ_len]; omega) (zeros_ob 501)
  rw [zQ_len] at h
  refine h.mono ?_
  rintro e w1 ⟨v, d, k, dr, c, rfl, hP, hv, hd, hb⟩
  obtain ⟨rfl, rfl, rfl⟩ := merge_bad hP zeros_many (by decide)
  obtain ⟨x, cx, rfl, _⟩ := hv
  obtain ⟨y, cy, rfl, _⟩ := hd
  exact ⟨⟨x, y, cx, cy, rfl⟩, below_then bl hb⟩
theorem round_zero (w : World) (hT : Gt.Tab w) (hE : ES w) (hM : MX w) : Calls Tryz.prog 14 #[obsV zQ] w fun e w' => (∃ q, e = .returned (.tuple #[obsV q, .int .i64 8])) ∧ Below w.heap.size w w' := by
  refine (vround_any zQ w hT hE hM (zeros_ob 1 0 (by decide))).mono ?_
  rintro e w1 ⟨q, c, rfl, hP, hb⟩
  rcases hP with ⟨h, _⟩ | ⟨_, _, rfl⟩
  · exact absurd h (by decide)
  · exact ⟨⟨q, rfl⟩, hb⟩
set_option maxRecDepth 100000 in
set_option maxHeartbeats 100000000 in
theorem psvnames_any (w : World) (hT : Gt.Tab w) (hE : ES w) (hM : MX w) : Calls Tryz.prog 8 #[] w fun e w' => e = .returned (.bool true) ∧ Below w.heap.size w w' := by
  have HT := Lib.hid (fun w' (h : Below w.heap.size w w') => hT.below h)
  have HE := Lib.hid (fun w' (h : Below w.heap.size w w') => hE.below h)
  have HM := Lib.hid (fun w' (h : Below w.heap.size w w') => hM.below h)
  have GV := Lib.hid (fun w' => given27_any w')
  have WI := Lib.hid (fun x y w' (h : x.size ≤ 100) (g : y.size ≤ 100) => with27_any x y w' h g)
  clear hT hE hM
  obtain ⟨o, ho⟩ : ∃ o, o = oG := ⟨_, rfl⟩
  obtain ⟨z1, h1⟩ : ∃ z, z = { { { o with sg := 1000000 } with mag := 1850 } with band := 86 } := ⟨_, rfl⟩
  obtain ⟨z2, h2⟩ : ∃ z, z = { z1 with band := 32 } := ⟨_, rfl⟩
  obtain ⟨z3, h3⟩ : ∃ z, z = { z2 with mag := -5 } := ⟨_, rfl⟩
  obtain ⟨z4, h4⟩ : ∃ z, z = { z2 with mag := 1800 } := ⟨_, rfl⟩
  obtain ⟨z5, h5⟩ : ∃ z, z = { z2 with ra := 0 } := ⟨_, rfl⟩
  have E1 : Hid (z1 = oV) := Lib.hid (by rw [h1, ho]; rfl)
  have E2 : Hid (z2 = oP) := Lib.hid (by rw [h2, E1.out]; rfl)
  have E3 : Hid (z3 = oM) := Lib.hid (by rw [h3, E2.out]; rfl)
  have E4 : Hid (z4 = oT) := Lib.hid (by rw [h4, E2.out]; rfl)
  have E5 : Hid (z5 = Vp.oR) := Lib.hid (by rw [h5, E2.out]; rfl)
  rw [← ho] at GV
  have H1 := Lib.hid h1
  have H2 := Lib.hid h2
  have H3 := Lib.hid h3
  have H4 := Lib.hid h4
  have H5 := Lib.hid h5
  clear ho h1 h2 h3 h4 h5
  go_enter Tryz.func8, Tryz.ntmps8
  go_wp2_with fail
  refine (GV.out _).mono ?_
  rintro e w1 ⟨rfl, hb⟩
  have N0 := NB.nil hb
  have N1 := Lib.hid (N0.new o)
  obtain ⟨v1, hv1⟩ : ∃ v, w1.alloc (.cells (obsC o).toArray 33) = v := ⟨_, rfl⟩
  rw [hv1] at N1
  have Qv1 := Lib.hid hv1
  clear hv1
  go_upto_region 2 with (refine wpList_store_new rfl _ (.tmp 1) (.tmp 36) rfl _ _ rfl rfl info8 rfl ?_ ?_; simp [Value.oneCell'])
  rw [show w1.alloc (.cells #[.string o.name, .string o.site, .int .i64 o.t, .int .i64 o.ra, .int .i64 o.dec, .int .i64 o.sg, .int .i64 o.mag, .int .u8 o.band] 33) = v1 from Qv1.out]
  obtain ⟨b1, hb1⟩ : ∃ n, w1.heap.size = n := ⟨_, rfl⟩
  rw [hb1] at N1
  try rw [hb1]
  clear hb1 Qv1
  clear N0 hb
  have q5 := (N1.out.bx _ (List.mem_cons_self ..)).cell (j := 5) (v := _) rfl
  have f5 : v1.frozen? ⟨b1, 5, none⟩ = false := (N1.out.bx _ (List.mem_cons_self ..)).free (by show 5 < 8; omega)
  have q6 := (N1.out.bx _ (List.mem_cons_self ..)).cell (j := 6) (v := _) rfl
  have f6 : v1.frozen? ⟨b1, 6, none⟩ = false := (N1.out.bx _ (List.mem_cons_self ..)).free (by show 6 < 8; omega)
  have q7 := (N1.out.bx _ (List.mem_cons_self ..)).cell (j := 7) (v := _) rfl
  have f7 : v1.frozen? ⟨b1, 7, none⟩ = false := (N1.out.bx _ (List.mem_cons_self ..)).free (by show 7 < 8; omega)
  have N2 := Lib.hid (((N1.out.set 5 (.int .i64 1000000) { o with sg := 1000000 } (by omega) rfl).set 6 (.int .i64 1850) { { o with sg := 1000000 } with mag := 1850 } (by omega) rfl).set 7 (.int .u8 86) { { { o with sg := 1000000 } with mag := 1850 } with band := 86 } (by omega) rfl)
  rw [← H1.out] at N2
  clear N1
  go_upto_region 3 with fail
  obtain ⟨v2, hv2⟩ : ∃ v, (((v1.setCell ⟨b1, 5, none⟩ (.int .i64 1000000)).setCell ⟨b1, 6, none⟩ (.int .i64 1850)).setCell ⟨b1, 7, none⟩ (.int .u8 86)) = v := ⟨_, rfl⟩
  rw [hv2] at N2
  try rw [hv2]
  clear hv2 q5 f5 q6 f6 q7 f7
  have R1 := Lib.hid (N2.out.bx (b1, z1) (by simp)).row
  have N3 := Lib.hid (N2.out.new z1)
  obtain ⟨v3, hv3⟩ : ∃ v, v2.alloc (.cells (obsC z1).toArray 33) = v := ⟨_, rfl⟩
  rw [hv3] at N3
  have Qv3 := Lib.hid hv3
  clear hv3
  go_upto_region 4 with (first | (refine wpList_store_new rfl _ (.tmp 2) (.tmp 40) rfl _ _ rfl rfl info8 rfl ?_ ?_; simp [Value.oneCell']) | (refine wpList_load_mid rfl _ (.tmp 1) rfl b1 0 rfl (obsC z1) _ R1.out Tryz.underlying33 rfl info8 ?_))
  rw [show v2.alloc (.cells #[.string z1.name, .string z1.site, .int .i64 z1.t, .int .i64 z1.ra, .int .i64 z1.dec, .int .i64 z1.sg, .int .i64 z1.mag, .int .u8 z1.band] 33) = v3 from Qv3.out]
  obtain ⟨b2, hb2⟩ : ∃ n, v2.heap.size = n := ⟨_, rfl⟩
  rw [hb2] at N3
  try rw [hb2]
  clear hb2 Qv3
  clear N2 R1
  have q7 := (N3.out.bx _ (List.mem_cons_self ..)).cell (j := 7) (v := _) rfl
  have f7 : v3.frozen? ⟨b2, 7, none⟩ = false := (N3.out.bx _ (List.mem_cons_self ..)).free (by show 7 < 8; omega)
  have N4 := Lib.hid (N3.out.set 7 (.int .u8 32) { z1 with band := 32 } (by omega) rfl)
  rw [← H2.out] at N4
  clear N3
  go_upto_region 5 with fail
  obtain ⟨v4, hv4⟩ : ∃ v, (v3.setCell ⟨b2, 7, none⟩ (.int .u8 32)) = v := ⟨_, rfl⟩
  rw [hv4] at N4
  try rw [hv4]
  clear hv4 q7 f7
  have R1 := Lib.hid (N4.out.bx (b2, z2) (by simp)).row
  have N5 := Lib.hid (N4.out.new z2)
  obtain ⟨v5, hv5⟩ : ∃ v, v4.alloc (.cells (obsC z2).toArray 33) = v := ⟨_, rfl⟩
  rw [hv5] at N5
  have Qv5 := Lib.hid hv5
  clear hv5
  go_upto_region 6 with (first | (refine wpList_store_new rfl _ (.tmp 3) (.tmp 42) rfl _ _ rfl rfl info8 rfl ?_ ?_; simp [Value.oneCell']) | (refine wpList_load_mid rfl _ (.tmp 2) rfl b2 0 rfl (obsC z2) _ R1.out Tryz.underlying33 rfl info8 ?_))
  rw [show v4.alloc (.cells #[.string z2.name, .string z2.site, .int .i64 z2.t, .int .i64 z2.ra, .int .i64 z2.dec, .int .i64 z2.sg, .int .i64 z2.mag, .int .u8 z2.band] 33) = v5 from Qv5.out]
  obtain ⟨b3, hb3⟩ : ∃ n, v4.heap.size = n := ⟨_, rfl⟩
  rw [hb3] at N5
  try rw [hb3]
  clear hb3 Qv5
  clear N4 R1
  have q6 := (N5.out.bx _ (List.mem_cons_self ..)).cell (j := 6) (v := _) rfl
  have f6 : v5.frozen? ⟨b3, 6, none⟩ = false := (N5.out.bx _ (List.mem_cons_self ..)).free (by show 6 < 8; omega)
  have N6 := Lib.hid (N5.out.set 6 (.int .i64 (-5)) { z2 with mag := -5 } (by omega) rfl)
  rw [← H3.out] at N6
  clear N5
  go_upto_region 7 with fail
  obtain ⟨v6, hv6⟩ : ∃ v, (v5.setCell ⟨b3, 6, none⟩ (.int .i64 (-5))) = v := ⟨_, rfl⟩
  rw [hv6] at N6
  try rw [hv6]
  clear hv6 q6 f6
  have a7 := (Below.refl v6.heap.size v6).alloc (Nat.le_refl _) (.cells (strC nA).toArray 9)
  have N7 := Lib.hid (N6.out.call a7)
  have T7 := Lib.hid (st_new v6 nA)
  obtain ⟨v7, hv7⟩ : ∃ v, v6.alloc (.cells (strC nA).toArray 9) = v := ⟨_, rfl⟩
  rw [hv7] at N7 T7
  have Q7 := Lib.hid hv7
  have R7 := Lib.hid (N7.out.bx (b3, z3) (by simp)).row
  clear a7 hv7 N6
  go_wp2_with (first | (rw [show v6.alloc (.cells #[.string ⟨#[102, 105, 114, 115, 116, 32, 110, 111, 116, 101]⟩, .string ⟨#[]⟩] 9) = v7 from Q7.out]; refine wpList_load_mid rfl _ (.tmp 3) rfl b3 0 rfl (obsC z3) _ R7.out Tryz.underlying33 rfl info8 ?_) | (refine wpList_load_mid rfl _ (.tmp 3) rfl b3 0 rfl (obsC z3) _ R7.out Tryz.underlying33 rfl info8 ?_))
  have a8 := (Below.refl v7.heap.size v7).alloc (Nat.le_refl _) (.cells (obsC z3).toArray 33)
  have N8 := N7.out.call a8
  have obm : OB z3 := by rw [E3.out]; exact ok_ob k_okM
  have P1 := vprint_any (some ⟨v6.heap.size, 0, none⟩) 2 nA (some ⟨v7.heap.size, 0, none⟩) 1 [z3] _ (HT.out _ N8.below) (HE.out _ N8.below) (T7.out.below a8) (sl_new v7 z3) sz_nA (by decide) (by simp) (obs_one obm)
  refine P1.mono ?_
  rintro e w8 ⟨s, c, rfl, hP, hb⟩
  rw [E3.out] at hP
  obtain ⟨rfl, rfl⟩ := hP.uniq k_printM
  have N9 := Lib.hid (N8.call hb)
  clear hP hb P1 N8 a8 obm N7 T7 R7 Q7
  go_wp2_with fail
  refine (vparse_any sM _ (HE.out _ N9.out.below) (HM.out _ N9.out.below) (by decide) small_sM).mono ?_
  rintro e w9 ⟨x, d, n, m, c, rfl, hP, hv, hd, hb⟩
  obtain ⟨rfl, rfl, rfl⟩ := k_sM.uniq hP
  obtain ⟨xn, cn, rfl, hxn⟩ := hv
  obtain ⟨xo, co, rfl, hxo⟩ := hd
  obtain ⟨be, oe, rfl, le, row⟩ := hxo.get (i := 0) (by simp)
  have X := Lib.hid (show Vw.N9 w [(b3, z3), (b2, z2), (b1, z1)] xn be oe z3 w9 from ⟨N9.out.call hb, hxn, by rw [E3.out]; exact row 0 (by simp), le⟩)
  clear hP hb N9 hxn hxo le row
  have EQ : ∀ w', (Go.Op.equalIn 10000 33 (.agg #[.string z3.name, .string z3.site, .int .i64 z3.t, .int .i64 z3.ra, .int .i64 z3.dec, .int .i64 z3.sg, .int .i64 z3.mag, .int .u8 z3.band]) (.agg #[.string z3.name, .string z3.site, .int .i64 z3.t, .int .i64 z3.ra, .int .i64 z3.dec, .int .i64 z3.sg, .int .i64 z3.mag, .int .u8 z3.band])).run Tryz.prog w' = .ok true w' := fun w' => by
    have := obs_eql z3 z3 w'
    rw [decide_eq_true rfl] at this
    exact this
  have nM : (sM.toList == [35, 32, 102, 105, 114, 115, 116, 32, 110, 111, 116, 101, 10, 35, 10, 110, 97, 109, 101, 124, 115, 116, 110, 124, 111, 98, 115, 84, 105, 109, 101, 124, 114, 97, 124, 100, 101, 99, 124, 115, 105, 103, 109, 97, 124, 109, 97, 103, 124, 98, 97, 110, 100, 10, 120, 124, 70, 53, 49, 124, 50, 48, 50, 54, 45, 49, 49, 45, 49, 54, 84, 48, 51, 58, 48, 48, 58, 48, 48, 46, 48, 48, 48, 48, 48, 48, 90, 124, 49, 53, 46, 48, 48, 48, 48, 48, 48, 48, 48, 48, 124, 45, 49, 46, 48, 48, 48, 48, 48, 48, 48, 48, 48, 124, 49, 48, 48, 48, 48, 48, 48, 124, 45, 48, 46, 48, 53, 124, 10]) = true := by rw [Lib.toList_data]; rfl
  go_upto_region 9 with fail
  replace X := Lib.hid (X.out.call (Below.refl _ _).drew)
  refine wp_region_held_drew (S := fun wx => Vw.N9 w [(b3, z3), (b2, z2), (b1, z1)] xn be oe z3 wx) (by kernel_rfl) X.out (fun hHeld => ?_)
  refine wpAnyH_take (i := 0) (oi := ?oi0x1) (v := ?v0x1) ?hi0x1 (by kernel_rfl) (by kernel_rfl) (by kernel_rfl) ?hq0x1 ?hy0x1 hHeld ?rest0x1
  case hi0x1 => ((try simp only [List.getElem?_toArray, List.getElem?_cons_succ, List.getElem?_cons_zero]); (try rfl))
  case hq0x1 => exact fun _ _ _ h => h
  case hy0x1 => exact Or.inl ⟨by rfl, by intro w hSw; clear hSw; go_simp; try with_reducible rfl⟩
  try simp only [Act.put, List.setIfInBounds_toArray, List.set_cons_zero, List.set_cons_succ]
  refine wpAnyH_take (i := 1) (oi := ?oi1x2) (v := ?v1x2) ?hi1x2 (by kernel_rfl) (by kernel_rfl) (by kernel_rfl) ?hq1x2 ?hy1x2 hHeld ?rest1x2
  case hi1x2 => ((try simp only [List.getElem?_toArray, List.getElem?_cons_succ, List.getElem?_cons_zero]); (try rfl))
  case hq1x2 => exact fun _ _ _ h => h
  case hy1x2 => exact Or.inl ⟨by rfl, by intro w hSw; clear hSw; go_simp; try with_reducible rfl⟩
  try simp only [Act.put, List.setIfInBounds_toArray, List.set_cons_zero, List.set_cons_succ]
  refine wpAnyH_take (i := 2) (oi := ?oi2x3) (v := ?v2x3) ?hi2x3 (by kernel_rfl) (by kernel_rfl) (by kernel_rfl) ?hq2x3 ?hy2x3 hHeld ?rest2x3
  case hi2x3 => ((try simp only [List.getElem?_toArray, List.getElem?_cons_succ, List.getElem?_cons_zero]); (try rfl))
  case hq2x3 => exact fun _ _ _ h => h
  case hy2x3 => exact Or.inl ⟨by rfl, by intro w hSw; clear hSw; go_simp; try with_reducible rfl⟩
  try simp only [Act.put, List.setIfInBounds_toArray, List.set_cons_zero, List.set_cons_succ]
  refine wpAnyH_take (i := 3) (oi := ?oi3x4) (v := ?v3x4) ?hi3x4 (by kernel_rfl) (by kernel_rfl) (by kernel_rfl) ?hq3x4 ?hy3x4 hHeld ?rest3x4
  case hi3x4 => ((try simp only [List.getElem?_toArray, List.getElem?_cons_succ, List.getElem?_cons_zero]); (try rfl))
  case hq3x4 => exact fun _ _ _ h => h
  case hy3x4 => exact Or.inl ⟨by rfl, by intro w hSw; clear hSw; go_simp; try with_reducible rfl⟩
  try simp only [Act.put, List.setIfInBounds_toArray, List.set_cons_zero, List.set_cons_succ]
  refine wpAnyH_take (i := 4) (oi := ?oi4x5) (v := ?v4x5) ?hi4x5 (by kernel_rfl) (by kernel_rfl) (by kernel_rfl) ?hq4x5 ?hy4x5 hHeld ?rest4x5
  case hi4x5 => ((try simp only [List.getElem?_toArray, List.getElem?_cons_succ, List.getElem?_cons_zero]); (try rfl))
  case hq4x5 => exact fun _ _ _ h => h
  case hy4x5 => exact Or.inl ⟨by rfl, by intro w hSw; clear hSw; go_simp; try with_reducible rfl⟩
  try simp only [Act.put, List.setIfInBounds_toArray, List.set_cons_zero, List.set_cons_succ]
  refine wpAnyH_take (i := 5) (oi := ?oi5x6) (v := ?v5x6) ?hi5x6 (by kernel_rfl) (by kernel_rfl) (by kernel_rfl) ?hq5x6 ?hy5x6 hHeld ?rest5x6
  case hi5x6 => ((try simp only [List.getElem?_toArray, List.getElem?_cons_succ, List.getElem?_cons_zero]); (try rfl))
  case hq5x6 => exact fun _ _ _ h => h
  case hy5x6 => exact Or.inl ⟨by rfl, by intro w hSw; clear hSw; go_simp; try with_reducible rfl⟩
  try simp only [Act.put, List.setIfInBounds_toArray, List.set_cons_zero, List.set_cons_succ]
  refine wpAnyH_take (i := 6) (oi := ?oi6x7) (v := ?v6x7) ?hi6x7 (by kernel_rfl) (by kernel_rfl) (by kernel_rfl) ?hq6x7 ?hy6x7 hHeld ?rest6x7
  case hi6x7 => ((try simp only [List.getElem?_toArray, List.getElem?_cons_succ, List.getElem?_cons_zero]); (try rfl))
  case hq6x7 => exact fun _ _ _ h => h
  case hy6x7 => exact Or.inl ⟨by rfl, by intro w hSw; clear hSw; go_simp; try with_reducible rfl⟩
  try simp only [Act.put, List.setIfInBounds_toArray, List.set_cons_zero, List.set_cons_succ]
  refine wpAnyH_take (i := 7) (oi := ?oi7x8) (v := ?v7x8) ?hi7x8 (by kernel_rfl) (by kernel_rfl) (by kernel_rfl) ?hq7x8 ?hy7x8 hHeld ?rest7x8
  case hi7x8 => ((try simp only [List.getElem?_toArray, List.getElem?_cons_succ, List.getElem?_cons_zero]); (try rfl))
  case hq7x8 => exact fun _ _ _ h => h
  case hy7x8 => exact Or.inl ⟨by rfl, by intro w hSw; clear hSw; go_simp; try with_reducible rfl⟩
  try simp only [Act.put, List.setIfInBounds_toArray, List.set_cons_zero, List.set_cons_succ]
  refine wpAnyH_take (i := 8) (oi := ?oi8x9) (v := ?v8x9) ?hi8x9 (by kernel_rfl) (by kernel_rfl) (by kernel_rfl) ?hq8x9 ?hy8x9 hHeld ?rest8x9
  case hi8x9 => ((try simp only [List.getElem?_toArray, List.getElem?_cons_succ, List.getElem?_cons_zero]); (try rfl))
  case hq8x9 => exact fun _ _ _ h => h
  case hy8x9 => exact Or.inl ⟨by rfl, by intro w hSw; clear hSw; go_simp; try with_reducible rfl⟩
  try simp only [Act.put, List.setIfInBounds_toArray, List.set_cons_zero, List.set_cons_succ]
  refine wpAnyH_take (i := 9) (oi := ?oi9x10) (v := ?v9x10) ?hi9x10 (by kernel_rfl) (by kernel_rfl) (by kernel_rfl) ?hq9x10 ?hy9x10 hHeld ?rest9x10
  case hi9x10 => ((try simp only [List.getElem?_toArray, List.getElem?_cons_succ, List.getElem?_cons_zero]); (try rfl))
  case hq9x10 => exact fun _ _ _ h => h
  case hy9x10 => exact Or.inl ⟨by rfl, by intro w hSw; clear hSw; go_simp; try with_reducible rfl⟩
  try simp only [Act.put, List.setIfInBounds_toArray, List.set_cons_zero, List.set_cons_succ]
  refine wpAnyH_take (i := 10) (oi := ?oi10x11) (v := ?v10x11) ?hi10x11 (by kernel_rfl) (by kernel_rfl) (by kernel_rfl) ?hq10x11 ?hy10x11 hHeld ?rest10x11
  case hi10x11 => ((try simp only [List.getElem?_toArray, List.getElem?_cons_succ, List.getElem?_cons_zero]); (try rfl))
  case hq10x11 => exact fun _ _ _ h => h
  case hy10x11 => exact Or.inl ⟨by rfl, by intro w hSw; clear hSw; go_simp; try with_reducible rfl⟩
  try simp only [Act.put, List.setIfInBounds_toArray, List.set_cons_zero, List.set_cons_succ]
  refine wpAnyH_take (i := 11) (oi := ?oi11x12) (v := ?v11x12) ?hi11x12 (by kernel_rfl) (by kernel_rfl) (by kernel_rfl) ?hq11x12 ?hy11x12 hHeld ?rest11x12
  case hi11x12 => ((try simp only [List.getElem?_toArray, List.getElem?_cons_succ, List.getElem?_cons_zero]); (try rfl))
  case hq11x12 => exact fun _ _ _ h => h
  case hy11x12 => exact Or.inl ⟨by rfl, by intro w hSw; clear hSw; go_simp; try with_reducible rfl⟩
  try simp only [Act.put, List.setIfInBounds_toArray, List.set_cons_zero, List.set_cons_succ]
  refine wpAnyH_ready (rs := [12]) (by kernel_rfl) (by simp) ?_
  refine AllReadyH.cons rfl (fun K' hK => ?_) AllReadyH.nil
  clear hHeld
  go_simp
  have a9 := (Below.refl w9.drew.heap.size w9.drew).alloc (Nat.le_refl _) (.cells (strC nA).toArray 9)
  replace X := Lib.hid (X.out.call a9)
  have ST := Lib.hid (st_new w9.drew nA)
  clear a9
  refine hK.out _ _ X.out (fun hHeld => ?_)
  clear hK
  try simp only [Act.put, List.setIfInBounds_toArray, List.set_cons_zero, List.set_cons_succ]
  refine wpAnyH_ready (rs := [13]) (by kernel_rfl) (by simp) ?_
  refine AllReadyH.cons rfl (fun K' hK => ?_) AllReadyH.nil
  clear hHeld
  go_simp
  refine (sametexts_any xn (some ⟨w9.drew.heap.size, 0, none⟩) cn 2 nA _ X.out.st ST.out (by decide)).mono ?_
  rintro e w10 ⟨rfl, hb⟩
  replace X := Lib.hid (X.out.call hb)
  clear hb ST
  refine hK.out _ _ X.out (fun hHeld => ?_)
  clear hK
  try simp only [Act.put, List.setIfInBounds_toArray, List.set_cons_zero, List.set_cons_succ]
  refine wpAnyH_take (i := 14) (oi := ?oi14x13) (v := ?v14x13) ?hi14x13 (by kernel_rfl) (by kernel_rfl) (by kernel_rfl) ?hq14x13 ?hy14x13 hHeld ?rest14x13
  case hi14x13 => ((try simp only [List.getElem?_toArray, List.getElem?_cons_succ, List.getElem?_cons_zero]); (try rfl))
  case hq14x13 => exact fun _ _ _ h => h
  case hy14x13 => exact Or.inl ⟨by rfl, by intro w hSw; clear hSw; go_simp; try with_reducible rfl⟩
  try simp only [Act.put, List.setIfInBounds_toArray, List.set_cons_zero, List.set_cons_succ]
  refine wpAnyH_take (i := 15) (oi := ?oi15x14) (v := ?v15x14) ?hi15x14 (by kernel_rfl) (by kernel_rfl) (by kernel_rfl) ?hq15x14 ?hy15x14 hHeld ?rest15x14
  case hi15x14 => ((try simp only [List.getElem?_toArray, List.getElem?_cons_succ, List.getElem?_cons_zero]); (try rfl))
  case hq15x14 => exact fun _ _ _ h => h
  case hy15x14 => exact Or.inl ⟨by rfl, by intro w hSw; clear hSw; go_simp; try with_reducible rfl⟩
  try simp only [Act.put, List.setIfInBounds_toArray, List.set_cons_zero, List.set_cons_succ]
  refine wpAnyH_take (i := 16) (oi := ?oi16x15) (v := ?v16x15) ?hi16x15 (by kernel_rfl) (by kernel_rfl) (by kernel_rfl) ?hq16x15 ?hy16x15 hHeld ?rest16x15
  case hi16x15 => ((try simp only [List.getElem?_toArray, List.getElem?_cons_succ, List.getElem?_cons_zero]); (try rfl))
  case hq16x15 => exact fun _ _ _ h => h
  case hy16x15 => exact Or.inl ⟨by rfl, by intro w hSw; clear hSw; go_simp; try with_reducible rfl⟩
  try simp only [Act.put, List.setIfInBounds_toArray, List.set_cons_zero, List.set_cons_succ]
  refine wpAnyH_take (i := 17) (oi := ?oi17x16) (v := ?v17x16) ?hi17x16 (by kernel_rfl) (by kernel_rfl) (by kernel_rfl) ?hq17x16 ?hy17x16 hHeld ?rest17x16
  case hi17x16 => ((try simp only [List.getElem?_toArray, List.getElem?_cons_succ, List.getElem?_cons_zero]); (try rfl))
  case hq17x16 => exact fun _ _ _ h => h
  case hy17x16 => exact Or.inl ⟨by rfl, by intro w hSw; clear hSw; go_simp; try with_reducible rfl⟩
  try simp only [Act.put, List.setIfInBounds_toArray, List.set_cons_zero, List.set_cons_succ]
  refine wpAnyH_take (i := 18) (oi := ?oi18x17) (v := ?v18x17) ?hi18x17 (by kernel_rfl) (by kernel_rfl) (by kernel_rfl) ?hq18x17 ?hy18x17 hHeld ?rest18x17
  case hi18x17 => ((try simp only [List.getElem?_toArray, List.getElem?_cons_succ, List.getElem?_cons_zero]); (try rfl))
  case hq18x17 => exact fun _ _ _ h => h
  case hy18x17 => exact Or.inl ⟨by rfl, by intro w hSw; clear hSw; go_simp; try with_reducible rfl⟩
  try simp only [Act.put, List.setIfInBounds_toArray, List.set_cons_zero, List.set_cons_succ]
  refine wpAnyH_take (i := 19) (oi := ?oi19x18) (v := ?v19x18) ?hi19x18 (by kernel_rfl) (by kernel_rfl) (by kernel_rfl) ?hq19x18 ?hy19x18 hHeld ?rest19x18
  case hi19x18 => ((try simp only [List.getElem?_toArray, List.getElem?_cons_succ, List.getElem?_cons_zero]); (try rfl))
  case hq19x18 => exact fun _ _ _ h => h
  case hy19x18 => exact Or.inl ⟨by rfl, by intro w hSw; clear hSw; go_simp; try with_reducible rfl⟩
  try simp only [Act.put, List.setIfInBounds_toArray, List.set_cons_zero, List.set_cons_succ]
  refine wpAnyH_take (i := 20) (oi := ?oi20x19) (v := ?v20x19) ?hi20x19 (by kernel_rfl) (by kernel_rfl) (by kernel_rfl) ?hq20x19 ?hy20x19 hHeld ?rest20x19
  case hi20x19 => ((try simp only [List.getElem?_toArray, List.getElem?_cons_succ, List.getElem?_cons_zero]); (try rfl))
  case hq20x19 => exact fun _ _ _ h => h
  case hy20x19 => exact Or.inl ⟨by rfl, by intro w hSw; clear hSw; go_simp; try with_reducible rfl⟩
  try simp only [Act.put, List.setIfInBounds_toArray, List.set_cons_zero, List.set_cons_succ]
  refine wpAnyH_take (i := 21) (oi := ?oi21x20) (v := ?v21x20) ?hi21x20 (by kernel_rfl) (by kernel_rfl) (by kernel_rfl) ?hq21x20 ?hy21x20 hHeld ?rest21x20
  case hi21x20 => ((try simp only [List.getElem?_toArray, List.getElem?_cons_succ, List.getElem?_cons_zero]); (try rfl))
  case hq21x20 => exact fun _ _ _ h => h
  case hy21x20 => exact Or.inl ⟨by rfl, by intro w hSw; clear hSw; go_simp; try with_reducible rfl⟩
  try simp only [Act.put, List.setIfInBounds_toArray, List.set_cons_zero, List.set_cons_succ]
  refine wpAnyH_take (i := 22) (oi := ?oi22x21) (v := ?v22x21) ?hi22x21 (by kernel_rfl) (by kernel_rfl) (by kernel_rfl) ?hq22x21 ?hy22x21 hHeld ?rest22x21
  case hi22x21 => ((try simp only [List.getElem?_toArray, List.getElem?_cons_succ, List.getElem?_cons_zero]); (try rfl))
  case hq22x21 => exact fun _ _ _ h => h
  case hy22x21 => exact Or.inl ⟨by rfl, by intro w hSw; clear hSw; go_simp; try with_reducible rfl⟩
  try simp only [Act.put, List.setIfInBounds_toArray, List.set_cons_zero, List.set_cons_succ]
  refine wpAnyH_take (i := 23) (oi := ?oi23x22) (v := ?v23x22) ?hi23x22 (by kernel_rfl) (by kernel_rfl) (by kernel_rfl) ?hq23x22 ?hy23x22 hHeld ?rest23x22
  case hi23x22 => ((try simp only [List.getElem?_toArray, List.getElem?_cons_succ, List.getElem?_cons_zero]); (try rfl))
  case hq23x22 => exact fun _ _ _ h => h
  case hy23x22 =>
    refine' yieldsIf_load_mid ?_ 33 (.tmp 79) ?_ be oe ?_ (obsC z3) _ ?_ Tryz.underlying33 ?_ info8
    · rfl
    · rfl
    · rfl
    · exact fun _ h => h.re
    · rfl
  try simp only [Act.put, List.setIfInBounds_toArray, List.set_cons_zero, List.set_cons_succ]
  refine wpAnyH_take (i := 24) (oi := ?oi24x23) (v := ?v24x23) ?hi24x23 (by kernel_rfl) (by kernel_rfl) (by kernel_rfl) ?hq24x23 ?hy24x23 hHeld ?rest24x23
  case hi24x23 => ((try simp only [List.getElem?_toArray, List.getElem?_cons_succ, List.getElem?_cons_zero]); (try rfl))
  case hq24x23 => exact fun _ _ _ h => h
  case hy24x23 =>
    refine' yieldsIf_load_mid ?_ 33 (.tmp 3) ?_ b3 0 ?_ (obsC z3) _ ?_ Tryz.underlying33 ?_ info8
    · rfl
    · rfl
    · rfl
    · exact fun _ h => (h.nb.bx (b3, z3) (by simp)).row
    · rfl
  try simp only [Act.put, List.setIfInBounds_toArray, List.set_cons_zero, List.set_cons_succ]
  refine wpAnyH_take (i := 25) (oi := ?oi25x24) (v := ?v25x24) ?hi25x24 (by kernel_rfl) (by kernel_rfl) (by kernel_rfl) ?hq25x24 ?hy25x24 hHeld ?rest25x24
  case hi25x24 => ((try simp only [List.getElem?_toArray, List.getElem?_cons_succ, List.getElem?_cons_zero]); (try rfl))
  case hq25x24 => exact fun _ _ _ h => h
  case hy25x24 => exact Or.inl ⟨by rfl, by intro w hSw; clear hSw; go_simp; try with_reducible rfl⟩
  try simp only [Act.put, List.setIfInBounds_toArray, List.set_cons_zero, List.set_cons_succ]
  refine wpAnyH_take (i := 26) (oi := ?oi26x25) (v := ?v26x25) ?hi26x25 (by kernel_rfl) (by kernel_rfl) (by kernel_rfl) ?hq26x25 ?hy26x25 hHeld ?rest26x25
  case hi26x25 => ((try simp only [List.getElem?_toArray, List.getElem?_cons_succ, List.getElem?_cons_zero]); (try rfl))
  case hq26x25 => exact fun _ _ _ h => h
  case hy26x25 => exact Or.inl ⟨by rfl, by intro w hSw; clear hSw; go_simp; try with_reducible rfl⟩
  try simp only [Act.put, List.setIfInBounds_toArray, List.set_cons_zero, List.set_cons_succ]
  refine wpAnyH_take (i := 27) (oi := ?oi27x26) (v := ?v27x26) ?hi27x26 (by kernel_rfl) (by kernel_rfl) (by kernel_rfl) ?hq27x26 ?hy27x26 hHeld ?rest27x26
  case hi27x26 => ((try simp only [List.getElem?_toArray, List.getElem?_cons_succ, List.getElem?_cons_zero]); (try rfl))
  case hq27x26 => exact fun _ _ _ h => h
  case hy27x26 => exact Or.inl ⟨by rfl, by intro w hSw; clear hSw; go_simp; try with_reducible rfl⟩
  try simp only [Act.put, List.setIfInBounds_toArray, List.set_cons_zero, List.set_cons_succ]
  refine wpAnyH_done (by kernel_rfl) ?_ _
  clear hHeld EQ nM
  have N10 := Lib.hid X.out.nb
  clear X
  have R1 := Lib.hid (N10.out.bx (b2, z2) (by simp)).row
  have N11 := Lib.hid (N10.out.new z2)
  obtain ⟨v11, hv11⟩ : ∃ v, w10.alloc (.cells (obsC z2).toArray 33) = v := ⟨_, rfl⟩
  rw [hv11] at N11
  have Qv11 := Lib.hid hv11
  clear hv11
  go_upto_region 11 with (first | (refine wpList_store_new rfl _ (.tmp 10) (.tmp 84) rfl _ _ rfl rfl info8 rfl ?_ ?_; simp [Value.oneCell']) | (refine wpList_load_mid rfl _ (.tmp 2) rfl b2 0 rfl (obsC z2) _ R1.out Tryz.underlying33 rfl info8 ?_))
  rw [show w10.alloc (.cells #[.string z2.name, .string z2.site, .int .i64 z2.t, .int .i64 z2.ra, .int .i64 z2.dec, .int .i64 z2.sg, .int .i64 z2.mag, .int .u8 z2.band] 33) = v11 from Qv11.out]
  obtain ⟨b4, hb4⟩ : ∃ n, w10.heap.size = n := ⟨_, rfl⟩
  rw [hb4] at N11
  try rw [hb4]
  clear hb4 Qv11
  clear N10 R1
  have q6 := (N11.out.bx _ (List.mem_cons_self ..)).cell (j := 6) (v := _) rfl
  have f6 : v11.frozen? ⟨b4, 6, none⟩ = false := (N11.out.bx _ (List.mem_cons_self ..)).free (by show 6 < 8; omega)
  have N12 := Lib.hid (N11.out.set 6 (.int .i64 1800) { z2 with mag := 1800 } (by omega) rfl)
  rw [← H4.out] at N12
  clear N11
  go_upto_region 12 with fail
  obtain ⟨v12, hv12⟩ : ∃ v, (v11.setCell ⟨b4, 6, none⟩ (.int .i64 1800)) = v := ⟨_, rfl⟩
  rw [hv12] at N12
  try rw [hv12]
  clear hv12 q6 f6
  have RY0 := Lib.hid (fun w' (h : ES w') (g : MX w') => reads27_any sY0 z1 w' h g size_sY0 small_sY0 (by rw [E1.out]; exact k_sY0))
  have RY1 := Lib.hid (fun w' (h : ES w') (g : MX w') => reads27_any sY1 z1 w' h g size_sY1 small_sY1 (by rw [E1.out]; exact k_sY1))
  have RY2 := Lib.hid (fun w' (h : ES w') (g : MX w') => reads27_any sY2 z4 w' h g size_sY2 small_sY2 (by rw [E4.out]; exact k_sY2))
  have RY3 := Lib.hid (fun w' (h : ES w') (g : MX w') => reads27_any sY3 z3 w' h g size_sY3 small_sY3 (by rw [E3.out]; exact k_sY3))
  have X := Lib.hid (N12.out.call (Below.refl _ _).drew)
  clear N12
  refine wp_region_held_drew (S := fun wx => NB w [(b4, z4), (b3, z3), (b2, z2), (b1, z1)] wx) (by kernel_rfl) X.out (fun hHeld => ?_)
  refine wpAnyH_take (i := 1) (oi := ?oi1x27) (v := ?v1x27) ?hi1x27 (by kernel_rfl) (by kernel_rfl) (by kernel_rfl) ?hq1x27 ?hy1x27 hHeld ?rest1x27
  case hi1x27 => ((try simp only [List.getElem?_toArray, List.getElem?_cons_succ, List.getElem?_cons_zero]); (try rfl))
  case hq1x27 => exact fun _ _ _ h => h
  case hy1x27 =>
    refine' yieldsIf_load_mid ?_ 33 (.tmp 1) ?_ b1 0 ?_ (obsC z1) _ ?_ Tryz.underlying33 ?_ info8
    · rfl
    · rfl
    · rfl
    · exact fun _ h => (h.bx (b1, z1) (by simp)).row
    · rfl
  try simp only [Act.put, List.setIfInBounds_toArray, List.set_cons_zero, List.set_cons_succ]
  refine wpAnyH_ready (rs := [0]) (by kernel_rfl) (by simp) ?_
  refine AllReadyH.cons rfl (fun K' hK => ?_) AllReadyH.nil
  clear hHeld
  go_simp
  refine (WI.out ⟨#[49, 56, 46, 53, 48]⟩ ⟨#[86]⟩ _ (by decide) (by decide)).mono ?_
  rintro e wx ⟨rfl, rfl⟩
  refine hK.out _ _ X.out (fun hHeld => ?_)
  clear hK
  try simp only [Act.put, List.setIfInBounds_toArray, List.set_cons_zero, List.set_cons_succ]
  refine wpAnyH_ready (rs := [2]) (by kernel_rfl) (by simp) ?_
  refine AllReadyH.cons rfl (fun K' hK => ?_) AllReadyH.nil
  clear hHeld
  go_simp
  refine (RY0.out _ (HE.out _ X.out.below) (HM.out _ X.out.below)).mono ?_
  rintro e wx ⟨rfl, hb⟩
  replace X := Lib.hid (X.out.call hb)
  clear hb
  refine hK.out _ _ X.out (fun hHeld => ?_)
  clear hK
  try simp only [Act.put, List.setIfInBounds_toArray, List.set_cons_zero, List.set_cons_succ]
  refine wpAnyH_take (i := 3) (oi := ?oi3x28) (v := ?v3x28) ?hi3x28 (by kernel_rfl) (by kernel_rfl) (by kernel_rfl) ?hq3x28 ?hy3x28 hHeld ?rest3x28
  case hi3x28 => ((try simp only [List.getElem?_toArray, List.getElem?_cons_succ, List.getElem?_cons_zero]); (try rfl))
  case hq3x28 => exact fun _ _ _ h => h
  case hy3x28 => exact Or.inl ⟨by rfl, by intro w hSw; clear hSw; go_simp; try with_reducible rfl⟩
  try simp only [Act.put, List.setIfInBounds_toArray, List.set_cons_zero, List.set_cons_succ]
  refine wpAnyH_take (i := 5) (oi := ?oi5x29) (v := ?v5x29) ?hi5x29 (by kernel_rfl) (by kernel_rfl) (by kernel_rfl) ?hq5x29 ?hy5x29 hHeld ?rest5x29
  case hi5x29 => ((try simp only [List.getElem?_toArray, List.getElem?_cons_succ, List.getElem?_cons_zero]); (try rfl))
  case hq5x29 => exact fun _ _ _ h => h
  case hy5x29 =>
    refine' yieldsIf_load_mid ?_ 33 (.tmp 1) ?_ b1 0 ?_ (obsC z1) _ ?_ Tryz.underlying33 ?_ info8
    · rfl
    · rfl
    · rfl
    · exact fun _ h => (h.bx (b1, z1) (by simp)).row
    · rfl
  try simp only [Act.put, List.setIfInBounds_toArray, List.set_cons_zero, List.set_cons_succ]
  refine wpAnyH_ready (rs := [4]) (by kernel_rfl) (by simp) ?_
  refine AllReadyH.cons rfl (fun K' hK => ?_) AllReadyH.nil
  clear hHeld
  go_simp
  refine (WI.out ⟨#[49, 56, 46, 53]⟩ ⟨#[32, 86, 32]⟩ _ (by decide) (by decide)).mono ?_
  rintro e wx ⟨rfl, rfl⟩
  refine hK.out _ _ X.out (fun hHeld => ?_)
  clear hK
  try simp only [Act.put, List.setIfInBounds_toArray, List.set_cons_zero, List.set_cons_succ]
  refine wpAnyH_ready (rs := [6]) (by kernel_rfl) (by simp) ?_
  refine AllReadyH.cons rfl (fun K' hK => ?_) AllReadyH.nil
  clear hHeld
  go_simp
  refine (RY1.out _ (HE.out _ X.out.below) (HM.out _ X.out.below)).mono ?_
  rintro e wx ⟨rfl, hb⟩
  replace X := Lib.hid (X.out.call hb)
  clear hb
  refine hK.out _ _ X.out (fun hHeld => ?_)
  clear hK
  try simp only [Act.put, List.setIfInBounds_toArray, List.set_cons_zero, List.set_cons_succ]
  refine wpAnyH_take (i := 7) (oi := ?oi7x30) (v := ?v7x30) ?hi7x30 (by kernel_rfl) (by kernel_rfl) (by kernel_rfl) ?hq7x30 ?hy7x30 hHeld ?rest7x30
  case hi7x30 => ((try simp only [List.getElem?_toArray, List.getElem?_cons_succ, List.getElem?_cons_zero]); (try rfl))
  case hq7x30 => exact fun _ _ _ h => h
  case hy7x30 => exact Or.inl ⟨by rfl, by intro w hSw; clear hSw; go_simp; try with_reducible rfl⟩
  try simp only [Act.put, List.setIfInBounds_toArray, List.set_cons_zero, List.set_cons_succ]
  refine wpAnyH_take (i := 8) (oi := ?oi8x31) (v := ?v8x31) ?hi8x31 (by kernel_rfl) (by kernel_rfl) (by kernel_rfl) ?hq8x31 ?hy8x31 hHeld ?rest8x31
  case hi8x31 => ((try simp only [List.getElem?_toArray, List.getElem?_cons_succ, List.getElem?_cons_zero]); (try rfl))
  case hq8x31 => exact fun _ _ _ h => h
  case hy8x31 => exact Or.inl ⟨by rfl, by intro w hSw; clear hSw; go_simp; try with_reducible rfl⟩
  try simp only [Act.put, List.setIfInBounds_toArray, List.set_cons_zero, List.set_cons_succ]
  refine wpAnyH_take (i := 10) (oi := ?oi10x32) (v := ?v10x32) ?hi10x32 (by kernel_rfl) (by kernel_rfl) (by kernel_rfl) ?hq10x32 ?hy10x32 hHeld ?rest10x32
  case hi10x32 => ((try simp only [List.getElem?_toArray, List.getElem?_cons_succ, List.getElem?_cons_zero]); (try rfl))
  case hq10x32 => exact fun _ _ _ h => h
  case hy10x32 =>
    refine' yieldsIf_load_mid ?_ 33 (.tmp 10) ?_ b4 0 ?_ (obsC z4) _ ?_ Tryz.underlying33 ?_ info8
    · rfl
    · rfl
    · rfl
    · exact fun _ h => (h.bx (b4, z4) (by simp)).row
    · rfl
  try simp only [Act.put, List.setIfInBounds_toArray, List.set_cons_zero, List.set_cons_succ]
  refine wpAnyH_ready (rs := [9]) (by kernel_rfl) (by simp) ?_
  refine AllReadyH.cons rfl (fun K' hK => ?_) AllReadyH.nil
  clear hHeld
  go_simp
  refine (WI.out ⟨#[49, 56]⟩ ⟨#[]⟩ _ (by decide) (by decide)).mono ?_
  rintro e wx ⟨rfl, rfl⟩
  refine hK.out _ _ X.out (fun hHeld => ?_)
  clear hK
  try simp only [Act.put, List.setIfInBounds_toArray, List.set_cons_zero, List.set_cons_succ]
  refine wpAnyH_ready (rs := [11]) (by kernel_rfl) (by simp) ?_
  refine AllReadyH.cons rfl (fun K' hK => ?_) AllReadyH.nil
  clear hHeld
  go_simp
  refine (RY2.out _ (HE.out _ X.out.below) (HM.out _ X.out.below)).mono ?_
  rintro e wx ⟨rfl, hb⟩
  replace X := Lib.hid (X.out.call hb)
  clear hb
  refine hK.out _ _ X.out (fun hHeld => ?_)
  clear hK
  try simp only [Act.put, List.setIfInBounds_toArray, List.set_cons_zero, List.set_cons_succ]
  refine wpAnyH_take (i := 12) (oi := ?oi12x33) (v := ?v12x33) ?hi12x33 (by kernel_rfl) (by kernel_rfl) (by kernel_rfl) ?hq12x33 ?hy12x33 hHeld ?rest12x33
  case hi12x33 => ((try simp only [List.getElem?_toArray, List.getElem?_cons_succ, List.getElem?_cons_zero]); (try rfl))
  case hq12x33 => exact fun _ _ _ h => h
  case hy12x33 => exact Or.inl ⟨by rfl, by intro w hSw; clear hSw; go_simp; try with_reducible rfl⟩
  try simp only [Act.put, List.setIfInBounds_toArray, List.set_cons_zero, List.set_cons_succ]
  refine wpAnyH_take (i := 13) (oi := ?oi13x34) (v := ?v13x34) ?hi13x34 (by kernel_rfl) (by kernel_rfl) (by kernel_rfl) ?hq13x34 ?hy13x34 hHeld ?rest13x34
  case hi13x34 => ((try simp only [List.getElem?_toArray, List.getElem?_cons_succ, List.getElem?_cons_zero]); (try rfl))
  case hq13x34 => exact fun _ _ _ h => h
  case hy13x34 => exact Or.inl ⟨by rfl, by intro w hSw; clear hSw; go_simp; try with_reducible rfl⟩
  try simp only [Act.put, List.setIfInBounds_toArray, List.set_cons_zero, List.set_cons_succ]
  refine wpAnyH_take (i := 15) (oi := ?oi15x35) (v := ?v15x35) ?hi15x35 (by kernel_rfl) (by kernel_rfl) (by kernel_rfl) ?hq15x35 ?hy15x35 hHeld ?rest15x35
  case hi15x35 => ((try simp only [List.getElem?_toArray, List.getElem?_cons_succ, List.getElem?_cons_zero]); (try rfl))
  case hq15x35 => exact fun _ _ _ h => h
  case hy15x35 =>
    refine' yieldsIf_load_mid ?_ 33 (.tmp 3) ?_ b3 0 ?_ (obsC z3) _ ?_ Tryz.underlying33 ?_ info8
    · rfl
    · rfl
    · rfl
    · exact fun _ h => (h.bx (b3, z3) (by simp)).row
    · rfl
  try simp only [Act.put, List.setIfInBounds_toArray, List.set_cons_zero, List.set_cons_succ]
  refine wpAnyH_ready (rs := [14]) (by kernel_rfl) (by simp) ?_
  refine AllReadyH.cons rfl (fun K' hK => ?_) AllReadyH.nil
  clear hHeld
  go_simp
  refine (WI.out ⟨#[45, 48, 46, 48, 53]⟩ ⟨#[]⟩ _ (by decide) (by decide)).mono ?_
  rintro e wx ⟨rfl, rfl⟩
  refine hK.out _ _ X.out (fun hHeld => ?_)
  clear hK
  try simp only [Act.put, List.setIfInBounds_toArray, List.set_cons_zero, List.set_cons_succ]
  refine wpAnyH_ready (rs := [16]) (by kernel_rfl) (by simp) ?_
  refine AllReadyH.cons rfl (fun K' hK => ?_) AllReadyH.nil
  clear hHeld
  go_simp
  refine (RY3.out _ (HE.out _ X.out.below) (HM.out _ X.out.below)).mono ?_
  rintro e wx ⟨rfl, hb⟩
  replace X := Lib.hid (X.out.call hb)
  clear hb
  refine hK.out _ _ X.out (fun hHeld => ?_)
  clear hK
  try simp only [Act.put, List.setIfInBounds_toArray, List.set_cons_zero, List.set_cons_succ]
  refine wpAnyH_take (i := 17) (oi := ?oi17x36) (v := ?v17x36) ?hi17x36 (by kernel_rfl) (by kernel_rfl) (by kernel_rfl) ?hq17x36 ?hy17x36 hHeld ?rest17x36
  case hi17x36 => ((try simp only [List.getElem?_toArray, List.getElem?_cons_succ, List.getElem?_cons_zero]); (try rfl))
  case hq17x36 => exact fun _ _ _ h => h
  case hy17x36 => exact Or.inl ⟨by rfl, by intro w hSw; clear hSw; go_simp; try with_reducible rfl⟩
  try simp only [Act.put, List.setIfInBounds_toArray, List.set_cons_zero, List.set_cons_succ]
  refine wpAnyH_take (i := 18) (oi := ?oi18x37) (v := ?v18x37) ?hi18x37 (by kernel_rfl) (by kernel_rfl) (by kernel_rfl) ?hq18x37 ?hy18x37 hHeld ?rest18x37
  case hi18x37 => ((try simp only [List.getElem?_toArray, List.getElem?_cons_succ, List.getElem?_cons_zero]); (try rfl))
  case hq18x37 => exact fun _ _ _ h => h
  case hy18x37 => exact Or.inl ⟨by rfl, by intro w hSw; clear hSw; go_simp; try with_reducible rfl⟩
  try simp only [Act.put, List.setIfInBounds_toArray, List.set_cons_zero, List.set_cons_succ]
  refine wpAnyH_done (by kernel_rfl) ?_ _
  clear hHeld RY0 RY1 RY2 RY3
  have R1 := Lib.hid (X.out.bx (b2, z2) (by simp)).row
  have N13 := Lib.hid (X.out.new z2)
  obtain ⟨v13, hv13⟩ : ∃ v, wx.alloc (.cells (obsC z2).toArray 33) = v := ⟨_, rfl⟩
  rw [hv13] at N13
  have Qv13 := Lib.hid hv13
  clear hv13
  go_upto_region 14 with (first | (refine wpList_store_new rfl _ (.tmp 12) (.tmp 104) rfl _ _ rfl rfl info8 rfl ?_ ?_; simp [Value.oneCell']) | (refine wpList_load_mid rfl _ (.tmp 2) rfl b2 0 rfl (obsC z2) _ R1.out Tryz.underlying33 rfl info8 ?_))
  rw [show wx.alloc (.cells #[.string z2.name, .string z2.site, .int .i64 z2.t, .int .i64 z2.ra, .int .i64 z2.dec, .int .i64 z2.sg, .int .i64 z2.mag, .int .u8 z2.band] 33) = v13 from Qv13.out]
  obtain ⟨b5, hb5⟩ : ∃ n, wx.heap.size = n := ⟨_, rfl⟩
  rw [hb5] at N13
  try rw [hb5]
  clear hb5 Qv13
  clear X R1
  have q3 := (N13.out.bx _ (List.mem_cons_self ..)).cell (j := 3) (v := _) rfl
  have f3 : v13.frozen? ⟨b5, 3, none⟩ = false := (N13.out.bx _ (List.mem_cons_self ..)).free (by show 3 < 8; omega)
  have N14 := Lib.hid (N13.out.set 3 (.int .i64 0) { z2 with ra := 0 } (by omega) rfl)
  rw [← H5.out] at N14
  clear N13
  go_upto_region 15 with fail
  obtain ⟨v14, hv14⟩ : ∃ v, (v13.setCell ⟨b5, 3, none⟩ (.int .i64 0)) = v := ⟨_, rfl⟩
  rw [hv14] at N14
  try rw [hv14]
  clear hv14 q3 f3
  have BX := N14.out.bx (b5, z5) (by simp)
  have q0 := BX.cell (j := 0) (v := _) rfl
  have q1 := BX.cell (j := 1) (v := _) rfl
  have q2 := BX.cell (j := 2) (v := _) rfl
  have q3 := BX.cell (j := 3) (v := _) rfl
  have q4 := BX.cell (j := 4) (v := _) rfl
  have q5 := BX.cell (j := 5) (v := _) rfl
  have q6 := BX.cell (j := 6) (v := _) rfl
  have q7 := BX.cell (j := 7) (v := _) rfl
  have lt5 := BX.lt
  have B := Lib.hid N14.out.below
  clear BX N14 H1 H2 H3 H4 H5 E1 E2 E3 E4
  have ex : (⟨#[110, 97, 109, 101, 124, 115, 116, 110, 124, 111, 98, 115, 84, 105, 109, 101, 124, 114, 97, 124, 100, 101, 99, 124, 115, 105, 103, 109, 97, 124, 109, 97, 103, 124, 98, 97, 110, 100, 10]⟩ : ByteArray).extract 0 38 = sN1 := by decide +kernel
  go_wp2_with fail
  refine (reads27_any sY4 z5 _ (HE.out _ B.out) (HM.out _ B.out) size_sY4 small_sY4 (by rw [E5.out]; exact k_sY4)).mono ?_
  rintro e wk ⟨rfl, hb⟩
  replace B := Lib.hid (below_then B.out hb)
  clear hb q0 q1 q2 q3 q4 q5 q6 q7 lt5 E5
  go_wp2_with fail
  refine (wrong27_any sN0 _ (HE.out _ B.out) (HM.out _ B.out) size_sN0 small_sN0 k_sN0).mono ?_
  rintro e wk ⟨rfl, hb⟩
  replace B := Lib.hid (below_then B.out hb)
  clear hb
  go_wp2_with fail
  refine (wrong27_any sN1 _ (HE.out _ B.out) (HM.out _ B.out) size_sN1 small_sN1 k_sN1).mono ?_
  rintro e wk ⟨rfl, hb⟩
  replace B := Lib.hid (below_then B.out hb)
  clear hb
  go_wp2_with fail
  refine (wrong27_any sN2 _ (HE.out _ B.out) (HM.out _ B.out) size_sN2 small_sN2 k_sN2).mono ?_
  rintro e wk ⟨rfl, hb⟩
  replace B := Lib.hid (below_then B.out hb)
  clear hb
  go_wp2_with fail
  refine (wrong27_any sN3 _ (HE.out _ B.out) (HM.out _ B.out) size_sN3 small_sN3 k_sN3).mono ?_
  rintro e wk ⟨rfl, hb⟩
  replace B := Lib.hid (below_then B.out hb)
  clear hb
  go_wp2_with fail
  refine (wrong27_any sN4 _ (HE.out _ B.out) (HM.out _ B.out) size_sN4 small_sN4 k_sN4).mono ?_
  rintro e wk ⟨rfl, hb⟩
  replace B := Lib.hid (below_then B.out hb)
  clear hb
  go_wp2_with fail
  refine (wrong27_any sN5 _ (HE.out _ B.out) (HM.out _ B.out) size_sN5 small_sN5 k_sN5).mono ?_
  rintro e wk ⟨rfl, hb⟩
  replace B := Lib.hid (below_then B.out hb)
  clear hb
  go_wp2_with fail
  refine (wrong27_any sN6 _ (HE.out _ B.out) (HM.out _ B.out) size_sN6 small_sN6 k_sN6).mono ?_
  rintro e wk ⟨rfl, hb⟩
  replace B := Lib.hid (below_then B.out hb)
  clear hb
  go_wp2_with fail
  refine (wrong27_any sN7 _ (HE.out _ B.out) (HM.out _ B.out) size_sN7 small_sN7 k_sN7).mono ?_
  rintro e wk ⟨rfl, hb⟩
  replace B := Lib.hid (below_then B.out hb)
  clear hb
  go_wp2_with fail
  refine (WI.out ⟨#[45, 48]⟩ ⟨#[]⟩ _ (by decide) (by decide)).mono ?_
  rintro e wx ⟨rfl, rfl⟩
  go_wp2_with fail
  refine (wrong27_any sN8 _ (HE.out _ B.out) (HM.out _ B.out) size_sN8 small_sN8 k_sN8).mono ?_
  rintro e wk ⟨rfl, hb⟩
  replace B := Lib.hid (below_then B.out hb)
  clear hb
  go_wp2_with fail
  refine (WI.out ⟨#[]⟩ ⟨#[86]⟩ _ (by decide) (by decide)).mono ?_
  rintro e wx ⟨rfl, rfl⟩
  go_wp2_with fail
  refine (wrong27_any sN9 _ (HE.out _ B.out) (HM.out _ B.out) size_sN9 small_sN9 k_sN9).mono ?_
  rintro e wk ⟨rfl, hb⟩
  replace B := Lib.hid (below_then B.out hb)
  clear hb
  go_wp2_with fail
  refine (WI.out ⟨#[49, 56, 46, 53, 48, 48]⟩ ⟨#[86]⟩ _ (by decide) (by decide)).mono ?_
  rintro e wx ⟨rfl, rfl⟩
  go_wp2_with fail
  refine (wrong27_any sN10 _ (HE.out _ B.out) (HM.out _ B.out) size_sN10 small_sN10 k_sN10).mono ?_
  rintro e wk ⟨rfl, hb⟩
  replace B := Lib.hid (below_then B.out hb)
  clear hb
  go_wp2_with fail
  refine (WI.out ⟨#[49, 49, 56]⟩ ⟨#[86]⟩ _ (by decide) (by decide)).mono ?_
  rintro e wx ⟨rfl, rfl⟩
  go_wp2_with fail
  refine (wrong27_any sN11 _ (HE.out _ B.out) (HM.out _ B.out) size_sN11 small_sN11 k_sN11).mono ?_
  rintro e wk ⟨rfl, hb⟩
  replace B := Lib.hid (below_then B.out hb)
  clear hb
  go_wp2_with fail
  refine (WI.out ⟨#[49, 56, 46]⟩ ⟨#[86]⟩ _ (by decide) (by decide)).mono ?_
  rintro e wx ⟨rfl, rfl⟩
  go_wp2_with fail
  refine (wrong27_any sN12 _ (HE.out _ B.out) (HM.out _ B.out) size_sN12 small_sN12 k_sN12).mono ?_
  rintro e wk ⟨rfl, hb⟩
  replace B := Lib.hid (below_then B.out hb)
  clear hb
  go_wp2_with fail
  refine (WI.out ⟨#[57, 57, 46, 57, 57]⟩ ⟨#[]⟩ _ (by decide) (by decide)).mono ?_
  rintro e wx ⟨rfl, rfl⟩
  go_wp2_with fail
  refine (wrong27_any sN13 _ (HE.out _ B.out) (HM.out _ B.out) size_sN13 small_sN13 k_sN13).mono ?_
  rintro e wk ⟨rfl, hb⟩
  replace B := Lib.hid (below_then B.out hb)
  clear hb
  go_wp2_with fail
  refine (WI.out ⟨#[51, 48, 46, 48, 49]⟩ ⟨#[86]⟩ _ (by decide) (by decide)).mono ?_
  rintro e wx ⟨rfl, rfl⟩
  go_wp2_with fail
  refine (wrong27_any sN14 _ (HE.out _ B.out) (HM.out _ B.out) size_sN14 small_sN14 k_sN14).mono ?_
  rintro e wk ⟨rfl, hb⟩
  replace B := Lib.hid (below_then B.out hb)
  clear hb
  go_wp2_with fail
  refine (WI.out ⟨#[49, 56]⟩ ⟨#[86, 86]⟩ _ (by decide) (by decide)).mono ?_
  rintro e wx ⟨rfl, rfl⟩
  go_wp2_with fail
  refine (wrong27_any sN15 _ (HE.out _ B.out) (HM.out _ B.out) size_sN15 small_sN15 k_sN15).mono ?_
  rintro e wk ⟨rfl, hb⟩
  replace B := Lib.hid (below_then B.out hb)
  clear hb
  go_wp2_with fail
  refine (WI.out ⟨#[49, 56]⟩ ⟨#[86, 124]⟩ _ (by decide) (by decide)).mono ?_
  rintro e wx ⟨rfl, rfl⟩
  go_wp2_with fail
  refine (wrong27_any sN16 _ (HE.out _ B.out) (HM.out _ B.out) size_sN16 small_sN16 k_sN16).mono ?_
  rintro e wk ⟨rfl, hb⟩
  replace B := Lib.hid (below_then B.out hb)
  clear hb
  go_wp2_with fail
  refine (wrong27_any sN17 _ (HE.out _ B.out) (HM.out _ B.out) size_sN17 small_sN17 k_sN17).mono ?_
  rintro e wk ⟨rfl, hb⟩
  replace B := Lib.hid (below_then B.out hb)
  clear hb
  go_wp2_with fail
  refine (wrong27_any sN18 _ (HE.out _ B.out) (HM.out _ B.out) size_sN18 small_sN18 k_sN18).mono ?_
  rintro e wk ⟨rfl, hb⟩
  replace B := Lib.hid (below_then B.out hb)
  clear hb
  go_wp2_with fail
  refine (wrong27_any sN19 _ (HE.out _ B.out) (HM.out _ B.out) size_sN19 small_sN19 k_sN19).mono ?_
  rintro e wk ⟨rfl, hb⟩
  replace B := Lib.hid (below_then B.out hb)
  clear hb
  clear WI ex
  have mS : ∀ w', (Instr.makeSlice 42 (.int .i64 51) (.int .i64 51)).run Tryz.prog w' = .ok (.slice (some ⟨w'.heap.size, 0, none⟩) 51 51) (w'.alloc (.cells zS51 9)) := make_S
  have m501 : ∀ w', (Instr.makeSlice 22 (.int .i64 501) (.int .i64 501)).run Tryz.prog w' = .ok (.slice (some ⟨w'.heap.size, 0, none⟩) 501 501) (w'.alloc (.cells (zC 501) 33)) := fun w' => make_O 501 (by decide) w'
  have m1 : ∀ w', (Instr.makeSlice 22 (.int .i64 1) (.int .i64 1)).run Tryz.prog w' = .ok (.slice (some ⟨w'.heap.size, 0, none⟩) 1 1) (w'.alloc (.cells (zC 1) 33)) := fun w' => make_O 1 (by decide) w'
  obtain ⟨bl, hbl⟩ : ∃ b, b = bL := ⟨_, rfl⟩
  have RP1 : Hid (∀ w', Calls Tryz.prog 31 #[.string ⟨#[97]⟩, .int .i64 101] w' fun e w'' => e = .returned (.string bl) ∧ w' = w'') := Lib.hid (fun w' => by rw [hbl]; exact repeat27_any ⟨#[97]⟩ 101 w' (by decide) (by decide))
  have cbl := Lib.hid (show checkN [bl] = 8 by rw [hbl]; exact bad_l)
  have zbl : bl.size ≤ 101 := by rw [hbl]; exact Nat.le_of_eq (repB_len ⟨#[97]⟩ 101)
  obtain ⟨rp, hrp⟩ : ∃ b, b = stL (repB ⟨#[35, 32, 97, 10]⟩ 51) := ⟨_, rfl⟩
  have RP2 : Hid (∀ w', Calls Tryz.prog 31 #[.string ⟨#[35, 32, 97, 10]⟩, .int .i64 51] w' fun e w'' => e = .returned (.string rp) ∧ w' = w'') := Lib.hid (fun w' => by rw [hrp]; exact repeat27_any ⟨#[35, 32, 97, 10]⟩ 51 w' (by decide) (by decide))
  have zrp : rp.size = 204 := by rw [hrp]; exact repB_len ⟨#[35, 32, 97, 10]⟩ 51
  have erp := Lib.hid (show rp ++ (⟨#[110, 97, 109, 101, 124, 115, 116, 110, 124, 111, 98, 115, 84, 105, 109, 101, 124, 114, 97, 124, 100, 101, 99, 124, 115, 105, 103, 109, 97, 124, 109, 97, 103, 124, 98, 97, 110, 100, 10]⟩ : ByteArray) = sF by rw [hrp]; exact sF_is)
  have zh : (⟨#[110, 97, 109, 101, 124, 115, 116, 110, 124, 111, 98, 115, 84, 105, 109, 101, 124, 114, 97, 124, 100, 101, 99, 124, 115, 105, 103, 109, 97, 124, 109, 97, 103, 124, 98, 97, 110, 100, 10]⟩ : ByteArray).size = 39 := rfl
  have zrh : (rp ++ (⟨#[110, 97, 109, 101, 124, 115, 116, 110, 124, 111, 98, 115, 84, 105, 109, 101, 124, 114, 97, 124, 100, 101, 99, 124, 115, 105, 103, 109, 97, 124, 109, 97, 103, 124, 98, 97, 110, 100, 10]⟩ : ByteArray)).size ≤ 300 := by rw [ByteArray.size_append]; omega
  have PF := Lib.hid (fun w' (h : Below w.heap.size w w') => vparse_any sF w' (HE.out _ h) (HM.out _ h) size_sF small_sF)
  rw [← erp.out] at PF
  clear hbl hrp
  go_wp2_with fail
  have al := below_then B.out ((Below.refl wk.heap.size wk).alloc (Nat.le_refl _) (.cells zS51 9))
  refine (vprint_any (some ⟨wk.heap.size, 0, none⟩) 51 no51 none 0 [] _ (HT.out _ al) (HE.out _ al) (zeros_st wk) (Or.inl rfl) sz51 (by decide) (by simp) (fun i hi => by simp at hi)).mono ?_
  rintro e w17 ⟨s, c, rfl, hP, hb⟩
  obtain ⟨rfl, rfl⟩ := print_bad hP (by rw [many51]; decide)
  rw [many51]
  have B17 := Lib.hid (below_then al hb)
  clear hP hb al B
  go_wp2_with fail
  have al := below_then B17.out ((Below.refl w17.heap.size w17).alloc (Nat.le_refl _) (.cells (strC [bA]).toArray 9))
  refine (vprint_any (some ⟨w17.heap.size, 0, none⟩) 1 [bA] none 0 [] _ (HT.out _ al) (HE.out _ al) (st_new w17 [bA]) (Or.inl rfl) (show ∀ s ∈ [bA], s.size ≤ maxLen by decide) (by decide) (by simp) (fun i hi => by simp at hi)).mono ?_
  rintro e w18 ⟨s, c, rfl, hP, hb⟩
  obtain ⟨rfl, rfl⟩ := print_bad hP (by rw [bad_a]; decide)
  rw [bad_a]
  have B18 := Lib.hid (below_then al hb)
  clear hP hb al B17
  go_wp2_with fail
  refine (RP1.out _).mono ?_
  rintro e wx ⟨rfl, rfl⟩
  go_wp2_with fail
  have al := below_then B18.out ((Below.refl w18.heap.size w18).alloc (Nat.le_refl _) (.cells (strC [bl]).toArray 9))
  refine (vprint_any (some ⟨w18.heap.size, 0, none⟩) 1 [bl] none 0 [] _ (HT.out _ al) (HE.out _ al) (st_new w18 [bl]) (Or.inl rfl) (fun s hs => by rw [List.mem_singleton.1 hs]; unfold maxLen; omega) (by simp) (by simp) (fun i hi => by simp at hi)).mono ?_
  rintro e w19 ⟨s, c, rfl, hP, hb⟩
  obtain ⟨rfl, rfl⟩ := print_bad hP (by rw [cbl.out]; decide)
  rw [cbl.out]
  have B19 := Lib.hid (below_then al hb)
  clear hP hb al B18 RP1 cbl zbl
  go_wp2_with fail
  refine (print_zeros27 501 4 (by decide) zeros_many (by decide) w19 (HT.out _ B19.out) (HE.out _ B19.out)).mono ?_
  rintro e w20 ⟨rfl, hb⟩
  have B20 := Lib.hid (below_then B19.out hb)
  clear hb B19
  go_wp2_with fail
  refine (print_zeros27 1 8 (by decide) zeros_one (by decide) w20 (HT.out _ B20.out) (HE.out _ B20.out)).mono ?_
  rintro e w21 ⟨rfl, hb⟩
  have B21 := Lib.hid (below_then B20.out hb)
  clear hb B20
  go_wp2_with fail
  refine (RP2.out _).mono ?_
  rintro e wx ⟨rfl, rfl⟩
  go_wp2_with fail
  refine (PF.out _ B21.out).mono ?_
  rintro e w22 ⟨x, d, n, m, c, rfl, hP, hv, hd, hb⟩
  rw [erp.out] at hP
  obtain ⟨rfl, rfl, rfl⟩ := k_sF.uniq hP
  obtain ⟨xn, cn, rfl, _⟩ := hv
  obtain ⟨xo, co, rfl, _⟩ := hd
  have B22 := Lib.hid (below_then B21.out hb)
  clear hP hb B21 PF RP2 erp zrp zh zrh
  go_wp2_with fail
  refine (vparse_any sE _ (HE.out _ B22.out) (HM.out _ B22.out) (by decide) small_sE).mono ?_
  rintro e w23 ⟨x, d, n, m, c, rfl, hP, hv, hd, hb⟩
  obtain ⟨rfl, rfl, rfl⟩ := k_sE.uniq hP
  obtain ⟨xp, cp, rfl, hxp⟩ := hv
  obtain ⟨xq, cq, rfl, _⟩ := hd
  have S23 := Lib.hid hxp
  have B23 := Lib.hid (below_then B22.out hb)
  clear hP hb B22 hxp
  go_wp2_with fail
  refine (merge_zeros w23 (HE.out _ B23.out)).mono ?_
  rintro e w24 ⟨⟨x1, x2, c1, c2, rfl⟩, hb⟩
  have S24 := Lib.hid (S23.out.below hb)
  have B24 := Lib.hid (below_then B23.out hb)
  clear hb B23 S23
  go_wp2_with fail
  refine (round_zero w24 (HT.out _ B24.out) (HE.out _ B24.out) (HM.out _ B24.out)).mono ?_
  rintro e w25 ⟨⟨q, rfl⟩, hb⟩
  have a5 := (Below.refl w25.heap.size w25).alloc (Nat.le_refl _) (.cells (obsC q).toArray 33)
  have S25 := (S24.out.below hb).below a5
  have B25 := Lib.hid (below_then (below_then B24.out hb) a5)
  obtain ⟨be, oe, rfl, _, c0⟩ := S25.get (k := 0) (by simp)
  have c0 : (w25.alloc (.cells (obsC q).toArray 33)).cell? ⟨be, oe + 0, none⟩ = some (.string ⟨#[]⟩) := c0
  rw [Nat.add_zero] at c0
  have al := Lib.hid (alive27_any _ (HT.out _ B25.out) (HE.out _ B25.out) (HM.out _ B25.out))
  clear hb B24 S24 a5 S25 mS m501 m1
  obtain ⟨v25, hv25⟩ : ∃ v, w25.alloc (.cells (obsC q).toArray 33) = v := ⟨_, rfl⟩
  rw [hv25] at c0 B25 al
  have Q25 := Lib.hid hv25
  clear hv25
  go_upto_region 26 with (refine wpList_store_new rfl _ (.tmp 33) (.tmp 226) rfl _ _ rfl rfl info8 rfl ?_ ?_; simp [Value.oneCell'])
  rw [show w25.alloc (.cells #[.string q.name, .string q.site, .int .i64 q.t, .int .i64 q.ra, .int .i64 q.dec, .int .i64 q.sg, .int .i64 q.mag, .int .u8 q.band] 33) = v25 from Q25.out]
  clear Q25
  go_wp2_with fail
  refine al.out.mono ?_
  rintro e w26 ⟨rfl, hb⟩
  have B26 := Lib.hid (below_then B25.out hb)
  clear hb al c0 B25
  go_wp2_with fail
  go_ret
  exact ⟨rfl, B26.out⟩
end Vw
end Go.Proofs.YtaghilgfldaaiaaGreatDoor
