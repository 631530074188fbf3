/-
  Lemmas and walks, texts joined: RPlusG, RSumG, RZero, RAddG, RFrac, RAdded, MDays.
-/
import Derived.Test.YtmgehfakcnmdnaaGreatDoorTa05
import Derived.Test.YtmgehfakcnmdnaaGreatDoorTa06
import Derived.Test.YtmgehfakcnmdnaaGreatDoorTb02
set_option linter.unusedSimpArgs false
set_option linter.unusedVariables false
/-
  The reference's whole numbers: plus, of any two numbers.
-/
namespace Go.Proofs.YtmgehfakcnmdnaaGreatDoor
namespace Wd
open Go.RowKit Lw

set_option maxRecDepth 100000 in
set_option maxHeartbeats 4000000 in
theorem rplusg_walk (a b : List Nat) (A D : Option Addr) (na ca nb cb : Nat) (w : World) (hA : Lim w A na ca a) (hD : Lim w D nb cb b) (N : Nat) (hNa : na ≤ N) (hNb : nb ≤ N) (hNx : N ≤ na ∨ N ≤ nb) (hn : N + 1 ≤ 1000000) :
    Calls Tryz.prog 114 #[.slice A na ca, .slice D nb cb] w fun e w' => ∃ V L, e = .returned V ∧ L.length = N + 1 ∧ Lb L ∧ val L = val a + val b ∧ OwnL w' w.heap.size V L ∧ Below w.heap.size w w' := by
  have la := hA.len
  have lb := hD.len
  have HA := Lib.hid hA
  have HD := Lib.hid hD
  obtain ⟨i0', hi, hzz⟩ := Option.map_eq_some_iff.1 info4
  simp only [Prod.mk.injEq] at hzz
  obtain ⟨hz0, hz1, hz2⟩ := hzz
  clear hA hD
  go_enter Tryz.func114, Tryz.ntmps114
  go_wp2
  have hA0 : OwnL w w.heap.size (.slice none 0 0) [] := World.ownsRow_nil _ _ _ _
  have hB0 := Below.refl w.heap.size w
  go_loopw [5, 6, 7] (fun V c i wr => ∃ (k cc : Nat) (L : List Nat), k ≤ N ∧ c = .int .u64 cc ∧ i = .int .i64 k ∧ RPIn a b L k cc ∧ OwnL wr w.heap.size V L ∧ Below w.heap.size w wr) (fun _ _ i _ => N - (intOf i).toNat)
  case atStart => exact ⟨0, 0, [], by omega, rfl, rfl, RPIn.zero a b, hA0, hB0⟩
  case round =>
    clear hA0 hB0
    obtain ⟨k, c, L, hk, rfl, rfl, hF, hO, hB⟩ := hrel
    have hL := hF.len
    have hc := hF.c1
    have hsz := hB.size
    have HO := Lib.hid hO
    have HB := Lib.hid hB
    clear hO hB
    by_cases hlt : k < na
    · have hAw := HA.out.below HB.out
      obtain ⟨bA, oA, rfl, -, -⟩ := hAw.row (by omega)
      have cA := hAw.cell (k := k) (by omega)
      have i1 : (k : Int) < (na : Int) := by omega
      have xb := lb_get hAw.lb (k := k) (by omega)
      have st := hF.step hAw.lb HD.out.lb
      have yb := at0_lt HD.out.lb k
      rw [at0_in (b := a) (by omega)] at st
      generalize a[k]'(by omega) = x at cA xb st
      by_cases hib : k < nb
      · have hDw := HD.out.below HB.out
        obtain ⟨bD, oD, rfl, -, -⟩ := hDw.row (by omega)
        have cD := hDw.cell (k := k) (by omega)
        have j1 : (k : Int) < (nb : Int) := by omega
        rw [at0_in (b := b) (by omega)] at st yb
        generalize b[k]'(by omega) = y at cD st yb
        have Ev := Lib.hid (show (((c + x + y) % 4294967296 : Nat) : Int) = ((c : Int) + (x : Int) + (y : Int)) % 4294967296 by omega)
        have Ed := Lib.hid (show (((c + x + y) / 4294967296 : Nat) : Int) = ((c : Int) + (x : Int) + (y : Int)) / 4294967296 by omega)
        have St := Lib.hid st
        clear st hF hAw hDw
        go_wp2_with (at_builtin; refine wpList_append_own _ rfl (.tmp 42) (.tmp 45) 27 rfl w.heap.size 91 i0' (.int .u32 0) 1 4 Tryz.underlying27 hi hz0 hz1 hz2 rfl (by decide) _ _ _ rfl (HO.out.alloc _) ⟨wr.heap.size, 0, none⟩ 1 1 [.int .u32 (((c : Int) + (x : Int) + (y : Int)) % 4294967296)] rfl rfl (by intro j u hj; match j, hj with | 0, hj => (simp at hj; subst hj; simp [Addr.add])) (by intro u hu; simp at hu; subst hu; rfl) (by unfold maxLen; omega) (by omega) (by simp; omega) ?_)
        intro v' w1 hown' hgrow _
        have hB1 := (HB.out.alloc (Nat.le_of_lt_succ (by omega)) (.cells #[.int .u32 (((c : Int) + (x : Int) + (y : Int)) % 4294967296)] 91)).grown hgrow (by simp; omega) (fun k e => (HO.out.lt k e).1)
        rw [← Ev.out] at hown'
        have Fin := Lib.hid (show ∃ (k' c' : Nat) (L' : List Nat), k' ≤ N ∧ Value.int .u64 (((c : Int) + (x : Int) + (y : Int)) / 4294967296) = .int .u64 (c' : Int) ∧ Value.int .i64 ((k : Int) + 1) = .int .i64 (k' : Int) ∧ RPIn a b L' k' c' ∧ OwnL w1 w.heap.size v' L' ∧ Below w.heap.size w w1 from ⟨k + 1, _, _, by omega, by rw [← Ed.out], by simp, St.out, own_snoc (by rw [hL]; exact hown'), hB1⟩)
        clear hown' hgrow hB1
        go_wp2
        go_roundw
        case rel => exact Fin.out
        case measure => simp [intOf]; omega
      · have j1 : ¬ (k : Int) < (nb : Int) := by omega
        rw [at0_out (b := b) (by omega), Nat.add_zero] at st
        have Ev := Lib.hid (show (((c + x) % 4294967296 : Nat) : Int) = ((c : Int) + (x : Int)) % 4294967296 by omega)
        have Ed := Lib.hid (show (((c + x) / 4294967296 : Nat) : Int) = ((c : Int) + (x : Int)) / 4294967296 by omega)
        have St := Lib.hid st
        clear st hF hAw
        go_wp2_with (at_builtin; refine wpList_append_own _ rfl (.tmp 42) (.tmp 45) 27 rfl w.heap.size 91 i0' (.int .u32 0) 1 4 Tryz.underlying27 hi hz0 hz1 hz2 rfl (by decide) _ _ _ rfl (HO.out.alloc _) ⟨wr.heap.size, 0, none⟩ 1 1 [.int .u32 (((c : Int) + (x : Int)) % 4294967296)] rfl rfl (by intro j u hj; match j, hj with | 0, hj => (simp at hj; subst hj; simp [Addr.add])) (by intro u hu; simp at hu; subst hu; rfl) (by unfold maxLen; omega) (by omega) (by simp; omega) ?_)
        intro v' w1 hown' hgrow _
        have hB1 := (HB.out.alloc (Nat.le_of_lt_succ (by omega)) (.cells #[.int .u32 (((c : Int) + (x : Int)) % 4294967296)] 91)).grown hgrow (by simp; omega) (fun k e => (HO.out.lt k e).1)
        rw [← Ev.out] at hown'
        have Fin := Lib.hid (show ∃ (k' c' : Nat) (L' : List Nat), k' ≤ N ∧ Value.int .u64 (((c : Int) + (x : Int)) / 4294967296) = .int .u64 (c' : Int) ∧ Value.int .i64 ((k : Int) + 1) = .int .i64 (k' : Int) ∧ RPIn a b L' k' c' ∧ OwnL w1 w.heap.size v' L' ∧ Below w.heap.size w w1 from ⟨k + 1, _, _, by omega, by rw [← Ed.out], by simp, St.out, own_snoc (by rw [hL]; exact hown'), hB1⟩)
        clear hown' hgrow hB1
        go_wp2
        go_roundw
        case rel => exact Fin.out
        case measure => simp [intOf]; omega
    · by_cases hib : k < nb
      · have hDw := HD.out.below HB.out
        obtain ⟨bD, oD, rfl, -, -⟩ := hDw.row (by omega)
        have cD := hDw.cell (k := k) (by omega)
        have i1 : ¬ (k : Int) < (na : Int) := by omega
        have j1 : (k : Int) < (nb : Int) := by omega
        have st := hF.step HA.out.lb hDw.lb
        have yb := at0_lt HD.out.lb k
        rw [at0_out (b := a) (by omega), at0_in (b := b) (by omega), Nat.add_zero] at st
        rw [at0_in (b := b) (by omega)] at yb
        generalize b[k]'(by omega) = y at cD st yb
        have Ev := Lib.hid (show (((c + y) % 4294967296 : Nat) : Int) = ((c : Int) + (y : Int)) % 4294967296 by omega)
        have Ed := Lib.hid (show (((c + y) / 4294967296 : Nat) : Int) = ((c : Int) + (y : Int)) / 4294967296 by omega)
        have St := Lib.hid st
        clear st hF hDw
        go_wp2_with (at_builtin; refine wpList_append_own _ rfl (.tmp 42) (.tmp 45) 27 rfl w.heap.size 91 i0' (.int .u32 0) 1 4 Tryz.underlying27 hi hz0 hz1 hz2 rfl (by decide) _ _ _ rfl (HO.out.alloc _) ⟨wr.heap.size, 0, none⟩ 1 1 [.int .u32 (((c : Int) + (y : Int)) % 4294967296)] rfl rfl (by intro j u hj; match j, hj with | 0, hj => (simp at hj; subst hj; simp [Addr.add])) (by intro u hu; simp at hu; subst hu; rfl) (by unfold maxLen; omega) (by omega) (by simp; omega) ?_)
        intro v' w1 hown' hgrow _
        have hB1 := (HB.out.alloc (Nat.le_of_lt_succ (by omega)) (.cells #[.int .u32 (((c : Int) + (y : Int)) % 4294967296)] 91)).grown hgrow (by simp; omega) (fun k e => (HO.out.lt k e).1)
        rw [← Ev.out] at hown'
        have Fin := Lib.hid (show ∃ (k' c' : Nat) (L' : List Nat), k' ≤ N ∧ Value.int .u64 (((c : Int) + (y : Int)) / 4294967296) = .int .u64 (c' : Int) ∧ Value.int .i64 ((k : Int) + 1) = .int .i64 (k' : Int) ∧ RPIn a b L' k' c' ∧ OwnL w1 w.heap.size v' L' ∧ Below w.heap.size w w1 from ⟨k + 1, _, _, by omega, by rw [← Ed.out], by simp, St.out, own_snoc (by rw [hL]; exact hown'), hB1⟩)
        clear hown' hgrow hB1
        go_wp2
        go_roundw
        case rel => exact Fin.out
        case measure => simp [intOf]; omega
      · obtain rfl : k = N := by omega
        have hcb : (c : Int) % 4294967296 = c := by omega
        have i1 : ¬ (k : Int) < (na : Int) := by omega
        have j1 : ¬ (k : Int) < (nb : Int) := by omega
        have FF := Lib.hid (hF.fin (a := a) (b := b) (by omega) (by omega))
        clear hF
        go_wp2_with (at_builtin; refine wpList_append_own _ rfl (.tmp 49) (.tmp 52) 27 rfl w.heap.size 91 i0' (.int .u32 0) 1 4 Tryz.underlying27 hi hz0 hz1 hz2 rfl (by decide) _ _ _ rfl (HO.out.alloc _) ⟨wr.heap.size, 0, none⟩ 1 1 [.int .u32 (c : Int)] rfl rfl (by intro j u hj; match j, hj with | 0, hj => (simp at hj; subst hj; simp [Addr.add])) (by intro u hu; simp at hu; subst hu; rfl) (by unfold maxLen; omega) (by omega) (by simp; omega) ?_)
        intro v' w1 hown' hgrow _
        have hB1 := (HB.out.alloc (Nat.le_of_lt_succ (by omega)) (.cells #[.int .u32 (c : Int)] 91)).grown hgrow (by simp; omega) (fun k e => (HO.out.lt k e).1)
        have Fin := Lib.hid (show ∃ V L', Ending.returned v' = .returned V ∧ L'.length = k + 1 ∧ Lb L' ∧ val L' = val a + val b ∧ OwnL w1 w.heap.size V L' ∧ Below w.heap.size w w1 from ⟨v', L ++ [c], rfl, FF.out.2.2, FF.out.2.1, FF.out.1, own_snoc (by rw [hL]; exact hown'), hB1⟩)
        clear hown' hgrow hB1
        go_wp2
        refine bodyPost_ret (results_tmp rfl _ _ _) rfl ?_
        exact Fin.out
end Wd
end Go.Proofs.YtmgehfakcnmdnaaGreatDoor
/-
  The reference's whole numbers: sum, of any two numbers that are not 0.
-/
namespace Go.Proofs.YtmgehfakcnmdnaaGreatDoor
namespace Wd
open Go.RowKit Lw

theorem own_any {w : World} {B : Nat} {V : Value} {L : List Nat} (h : OwnL w B V L) (hl : Lb L) (hs : L.length ≤ 1000000) : ∃ A cp, V = .slice A L.length cp ∧ Lim w A L.length cp L ∧ Adr w A cp := by
  by_cases hn : 0 < L.length
  · obtain ⟨g, cp, rfl, hcp, hg, hrow⟩ := own_row h hn
    exact ⟨_, _, rfl, Row.lim0 hrow hl hcp hs, Or.inl ⟨g, 0, rfl, hrow.lt⟩⟩
  · have e : L = [] := List.length_eq_zero_iff.1 (by omega)
    subst e
    rcases h.2 with ⟨rfl, h0⟩ | ⟨g, cap, cur, rfl, hg, hh, h1, h2, h3, h4⟩
    · exact ⟨none, 0, rfl, Lim.nil w, Or.inr ⟨rfl, rfl⟩⟩
    · refine ⟨_, _, rfl, ⟨rfl, fun _ h => by simp at h, by simp, by omega, fun h => absurd h (by simp)⟩, Or.inl ⟨g, 0, rfl, lt_of_block hh⟩⟩
theorem rplusg_arm (X Y : Nat) (A D : Option Addr) (na ca nb cb : Nat) (w : World) (hA : Lim w A na ca (canon X)) (hD : Lim w D nb cb (canon Y)) (hn : na ≤ 4000) (hm : nb ≤ 4000) :
    Calls Tryz.prog 114 #[.slice A na ca, .slice D nb cb] w fun e w' => ∃ g cp n L, e = .returned (.slice (some ⟨g, 0, none⟩) n cp) ∧ Lim w' (some ⟨g, 0, none⟩) n cp L ∧ g < w'.heap.size ∧ (canon (val L)).length ≤ 4096 ∧ val L = X + Y ∧ Below w.heap.size w w' := by
  refine (rplusg_walk _ _ A D na ca nb cb w hA hD (max na nb) (by omega) (by omega) (by omega) (by omega)).mono ?_
  rintro e w' ⟨V, L, rfl, h1, h2, h3, hO, hb⟩
  obtain ⟨g, cp, rfl, hcp, hg, hrow⟩ := own_row hO (by omega)
  rw [val_canon, val_canon] at h3
  have := canon_le L h2
  exact ⟨g, cp, _, L, rfl, Row.lim0 hrow h2 hcp (by omega), (hO.lt g rfl).2, by omega, h3, hb⟩
theorem rminusg_arm (X Y : Nat) (A D : Option Addr) (na ca nb cb : Nat) (w : World) (hA : Lim w A na ca (canon X)) (hD : Lim w D nb cb (canon Y)) (hp : 0 < na) (hn : na ≤ 4000) (hle : Y ≤ X) :
    Calls Tryz.prog 115 #[.slice A na ca, .slice D nb cb] w fun e w' => ∃ g cp n L, e = .returned (.slice g n cp) ∧ Lim w' g n cp L ∧ Adr w' g cp ∧ (canon (val L)).length ≤ 4096 ∧ val L = X - Y ∧ Below w.heap.size w w' := by
  have la := hA.len
  have lb := hD.len
  have hm := canon_mono hle
  have hm2 := canon_mono (Nat.sub_le X Y)
  refine (rminus_walk _ _ A D na ca nb cb w hA hD hp (by omega) (by rw [val_canon, val_canon]; omega)).mono ?_
  rintro e w' ⟨V, rfl, hO, hb⟩
  rw [val_canon, val_canon] at hO
  obtain ⟨A', cp, rfl, hl, ha⟩ := own_any hO (lb_canon _) (by omega)
  exact ⟨A', cp, _, _, rfl, hl, ha, by rw [val_canon]; omega, val_canon _, hb⟩
set_option maxRecDepth 100000 in
set_option maxHeartbeats 4000000 in
theorem rsumg_walk (V1 V2 : Value) (z1 z2 : Int) (w : World) (h1 : Wide 0 w V1 z1) (h2 : Wide 0 w V2 z2) (hz1 : z1 ≠ 0) (hz2 : z2 ≠ 0) (hn1 : (canon z1.natAbs).length ≤ 4000) (hn2 : (canon z2.natAbs).length ≤ 4000) :
    Calls Tryz.prog 82 #[V1, V2] w (NumPost w (z1 + z2)) := by
  obtain ⟨a, n, ca, rfl, hA, -⟩ := h1
  obtain ⟨d, m, cd, rfl, hD, -⟩ := h2
  have la := hA.len
  have ld := hD.len
  rw [la] at hn1
  rw [ld] at hn2
  have p1 : 0 < n := by rw [← la]; exact (canon_lenpos _).2 (by omega)
  have p2 : 0 < m := by rw [← ld]; exact (canon_lenpos _).2 (by omega)
  have hS0 := BX.new w (decide (z1 < 0)) (decide (z2 < 0)) (.slice a n ca) (.slice d m cd)
  have HA := Lib.hid hA
  have HD := Lib.hid hD
  have HS := Lib.hid hS0
  have SS := Lib.hid (add_same (z1 := z1) (z2 := z2))
  have SD := Lib.hid (add_diff (z1 := z1) (z2 := z2))
  have SR := Lib.hid (add_diff (z1 := z2) (z2 := z1))
  clear hA hD hS0 la ld
  generalize decide (z1 < 0) = n1 at *
  generalize decide (z2 < 0) = n2 at *
  go_enter Tryz.func82, Tryz.ntmps82
  have hS := HS.out
  have hSL := hS.s
  obtain ⟨s1, s2, s3, s4, -⟩ := hSL
  by_cases hq : n1 = n2
  · subst hq
    have T := Lib.hid (SS.out rfl)
    clear SS SD HS
    go_wp2_with fail
    clear s1 s2 s3 s4
    have KA := fun w' (h : BXS w n1 n1 (.slice a n ca) (.slice d m cd) w') => HA.out.below h.2.2.2.2.2.2.2.2.below
    have KD := fun w' (h : BXS w n1 n1 (.slice a n ca) (.slice d m cd) w') => HD.out.below h.2.2.2.2.2.2.2.2.below
    have KC := fun w' w2 (h : BXS w n1 n1 (.slice a n ca) (.slice d m cd) w') (hb : Below w'.heap.size w' w2) => h.2.2.2.2.2.2.2.2.call hb
    go_region_held3 (fun w' => w'.cell? ⟨w.heap.size, 0, none⟩ = some (.bool n1) ∧ w'.cell? ⟨w.heap.size, 1, none⟩ = some (.slice a n ca) ∧ w'.cell? ⟨w.heap.size + 1, 0, none⟩ = some (.bool n1) ∧ w'.cell? ⟨w.heap.size + 1, 1, none⟩ = some (.slice d m cd) ∧ w'.cell? ⟨w.heap.size + 2, 0, none⟩ = some (cellOf w' ⟨w.heap.size + 2, 0, none⟩) ∧ w'.cell? ⟨w.heap.size + 2, 1, none⟩ = some (cellOf w' ⟨w.heap.size + 2, 1, none⟩) ∧ w'.frozen? ⟨w.heap.size + 2, 0, none⟩ = false ∧ w'.frozen? ⟨w.heap.size + 2, 1, none⟩ = false ∧ BX w n1 n1 (.slice a n ca) (.slice d m cd) w') (first | exact BX.s (BX.drew hS) | exact BX.s hS | exact BX.s hk2 | exact BX.s hk | exact BX.s (BX.set (BX.set hk2 _ _) _ _) | exact BX.s (by assumption)) (first | (go_at_call 114; refine (rplusg_arm _ _ _ _ n ca m cd _ (KA _ (by assumption)) (KD _ (by assumption)) hn1 hn2).mono ?_; rintro e w' ⟨g, cp, nn, L, rfl, hL1, hL2, hL4, hL3, hb⟩; have hk := KC _ _ (by assumption) hb; have HL3 := Lib.hid hL3; clear hb hL3) | (go_at_call 58; refine (rmade_walk _ L _ 0 _ _ _ hL1 hL2 hL4).mono ?_; rintro e w' ⟨V, rfl, ⟨a', k', c', rfl, hM, hf⟩, hb⟩; have hk2 := BX.call hk hb; clear hb))
    have e : sgn n1 (val L) = z1 + z2 := by rw [HL3.out, ← T.out.1]; exact T.out.2
    have hs := hS.size
    have hks := hk.size
    rw [e] at hM ⊢
    have FF := Lib.hid (num_fin2 hk2 hM (fun b off e => Nat.le_trans hks (hf b off e)))
    clear hM hf e
    go_wp2_with fail
    exact bodyPost_ret (ret_cell_tmp Tryz.results82 _ _ (w.heap.size + 2) [.bool _, .slice _ _ _] _ rfl FF.out.1 Tryz.underlying29 rfl infoW) rfl FF.out.2
  · have hq2 : ¬ n2 = n1 := fun e => hq e.symm
    have CC := Lib.hid (fun w' (hb : Below w.heap.size w w') => rcompare_walk z1.natAbs z2.natAbs a d n ca m cd w' (HA.out.below hb) (HD.out.below hb))
    go_wp2_with fail
    · exact absurd (eq_of_beq ‹(n1 == n2) = true›) hq
    refine (CC.out _ HS.out.below).mono ?_
    rintro e w1 ⟨rfl, hb⟩
    have hS := HS.out.call hb
    clear hb HS CC s1 s2 s3 s4
    obtain ⟨s1, s2, s3, s4, -⟩ := hS.s
    by_cases hle : z2.natAbs ≤ z1.natAbs
    · have T := Lib.hid (SD.out hq hle)
      have HLT := Lib.hid hle
      have cge : 0 ≤ cmpN z1.natAbs z2.natAbs := by unfold cmpN; split <;> (try split) <;> omega
      clear SS SD SR
      generalize cmpN z1.natAbs z2.natAbs = cm at *
      go_wp2_with fail
      have KA := fun w' (h : BXS w n1 n2 (.slice a n ca) (.slice d m cd) w') => HA.out.below h.2.2.2.2.2.2.2.2.below
      have KD := fun w' (h : BXS w n1 n2 (.slice a n ca) (.slice d m cd) w') => HD.out.below h.2.2.2.2.2.2.2.2.below
      have KC := fun w' w2 (h : BXS w n1 n2 (.slice a n ca) (.slice d m cd) w') (hb : Below w'.heap.size w' w2) => h.2.2.2.2.2.2.2.2.call hb
      go_region_held3 (fun w' => w'.cell? ⟨w.heap.size, 0, none⟩ = some (.bool n1) ∧ w'.cell? ⟨w.heap.size, 1, none⟩ = some (.slice a n ca) ∧ w'.cell? ⟨w.heap.size + 1, 0, none⟩ = some (.bool n2) ∧ w'.cell? ⟨w.heap.size + 1, 1, none⟩ = some (.slice d m cd) ∧ w'.cell? ⟨w.heap.size + 2, 0, none⟩ = some (cellOf w' ⟨w.heap.size + 2, 0, none⟩) ∧ w'.cell? ⟨w.heap.size + 2, 1, none⟩ = some (cellOf w' ⟨w.heap.size + 2, 1, none⟩) ∧ w'.frozen? ⟨w.heap.size + 2, 0, none⟩ = false ∧ w'.frozen? ⟨w.heap.size + 2, 1, none⟩ = false ∧ BX w n1 n2 (.slice a n ca) (.slice d m cd) w') (first | exact BX.s (BX.drew hS) | exact BX.s hS | exact BX.s hk2 | exact BX.s hk | exact BX.s (BX.set (BX.set hk2 _ _) _ _) | exact BX.s (by assumption)) (first | (go_at_call 115; refine (rminusg_arm _ _ _ _ n ca m cd _ (KA _ (by assumption)) (KD _ (by assumption)) p1 hn1 HLT.out).mono ?_; rintro e w' ⟨g, cp, nn, L, rfl, hL1, hL2, hL4, hL3, hb⟩; have hk := KC _ _ (by assumption) hb; have HL3 := Lib.hid hL3; clear hb hL3) | (go_at_call 58; refine (rmade_any _ L _ _ _ _ hL1 hL2 hL4).mono ?_; rintro e w' ⟨V, rfl, ⟨a', k', c', rfl, hM, hf⟩, hb⟩; have hk2 := BX.call hk hb; clear hb))
      have e : sgn n1 (val L) = z1 + z2 := by rw [HL3.out, ← T.out.1]; exact T.out.2
      have hs := hS.size
      have hks := hk.size
      rw [e] at hM ⊢
      have FF := Lib.hid (num_fin2 hk2 hM (fun b off e => Nat.le_trans hks (hf b off e)))
      clear hM hf e
      go_wp2_with fail
      exact bodyPost_ret (ret_cell_tmp Tryz.results82 _ _ (w.heap.size + 2) [.bool _, .slice _ _ _] _ rfl FF.out.1 Tryz.underlying29 rfl infoW) rfl FF.out.2
    · have T := Lib.hid (SR.out hq2 (by omega))
      have HLT := Lib.hid (show z1.natAbs ≤ z2.natAbs by omega)
      have cge : ¬ 0 ≤ cmpN z1.natAbs z2.natAbs := by rw [cmp_lt (by omega)]; omega
      clear SS SD SR
      generalize cmpN z1.natAbs z2.natAbs = cm at *
      go_wp2_with fail
      have KA := fun w' (h : BXS w n1 n2 (.slice a n ca) (.slice d m cd) w') => HA.out.below h.2.2.2.2.2.2.2.2.below
      have KD := fun w' (h : BXS w n1 n2 (.slice a n ca) (.slice d m cd) w') => HD.out.below h.2.2.2.2.2.2.2.2.below
      have KC := fun w' w2 (h : BXS w n1 n2 (.slice a n ca) (.slice d m cd) w') (hb : Below w'.heap.size w' w2) => h.2.2.2.2.2.2.2.2.call hb
      go_region_held3 (fun w' => w'.cell? ⟨w.heap.size, 0, none⟩ = some (.bool n1) ∧ w'.cell? ⟨w.heap.size, 1, none⟩ = some (.slice a n ca) ∧ w'.cell? ⟨w.heap.size + 1, 0, none⟩ = some (.bool n2) ∧ w'.cell? ⟨w.heap.size + 1, 1, none⟩ = some (.slice d m cd) ∧ w'.cell? ⟨w.heap.size + 2, 0, none⟩ = some (cellOf w' ⟨w.heap.size + 2, 0, none⟩) ∧ w'.cell? ⟨w.heap.size + 2, 1, none⟩ = some (cellOf w' ⟨w.heap.size + 2, 1, none⟩) ∧ w'.frozen? ⟨w.heap.size + 2, 0, none⟩ = false ∧ w'.frozen? ⟨w.heap.size + 2, 1, none⟩ = false ∧ BX w n1 n2 (.slice a n ca) (.slice d m cd) w') (first | exact BX.s (BX.drew hS) | exact BX.s hS | exact BX.s hk2 | exact BX.s hk | exact BX.s (BX.set (BX.set hk2 _ _) _ _) | exact BX.s (by assumption)) (first | (go_at_call 115; refine (rminusg_arm _ _ _ _ m cd n ca _ (KD _ (by assumption)) (KA _ (by assumption)) p2 hn2 HLT.out).mono ?_; rintro e w' ⟨g, cp, nn, L, rfl, hL1, hL2, hL4, hL3, hb⟩; have hk := KC _ _ (by assumption) hb; have HL3 := Lib.hid hL3; clear hb hL3) | (go_at_call 58; refine (rmade_any _ L _ _ _ _ hL1 hL2 hL4).mono ?_; rintro e w' ⟨V, rfl, ⟨a', k', c', rfl, hM, hf⟩, hb⟩; have hk2 := BX.call hk hb; clear hb))
      have e : sgn n2 (val L) = z1 + z2 := by rw [HL3.out, ← T.out.1, T.out.2, Int.add_comm]
      have hs := hS.size
      have hks := hk.size
      rw [e] at hM ⊢
      have FF := Lib.hid (num_fin2 hk2 hM (fun b off e => Nat.le_trans hks (hf b off e)))
      clear hM hf e
      go_wp2_with fail
      exact bodyPost_ret (ret_cell_tmp Tryz.results82 _ _ (w.heap.size + 2) [.bool _, .slice _ _ _] _ rfl FF.out.1 Tryz.underlying29 rfl infoW) rfl FF.out.2
end Wd
end Go.Proofs.YtmgehfakcnmdnaaGreatDoor
/-
  The reference's whole numbers at 0: trim and over of no limbs; over of any number.
-/
namespace Go.Proofs.YtmgehfakcnmdnaaGreatDoor
namespace Wd
open Go.RowKit Lw

set_option maxRecDepth 100000 in
set_option maxHeartbeats 1000000 in
theorem rtrim_zero (A : Option Addr) (cap : Nat) (w : World) : Calls Tryz.prog 87 #[.slice A 0 cap] w (RowPost w []) := by
  obtain ⟨i0', hi, hzz⟩ := Option.map_eq_some_iff.1 info4
  simp only [Prod.mk.injEq] at hzz
  obtain ⟨hz0, hz1, hz2⟩ := hzz
  have HO := Lib.hid (World.ownsRow_made w #[] 0 (base := w.heap.size) (e := 91) (size := 1) (Nat.le_refl _) (by unfold maxLen; omega) rfl)
  have HB := Lib.hid ((Below.refl w.heap.size w).alloc (Nat.le_refl _) (.cells #[] 91))
  cases A with
  | none =>
    go_enter Tryz.func87, Tryz.ntmps87
    go_wp2
    go_loopw [3] (fun i wr => i = .int .i64 0 ∧ wr = w) (fun i _ => (intOf i).toNat)
    case atStart => exact ⟨rfl, rfl⟩
    case round =>
      obtain ⟨rfl, rfl⟩ := hrel
      go_wp2_with (at_builtin; refine wpList_append_own_none rfl (.tmp 18) (.tmp 21) 27 rfl wr.heap.size 91 i0' 1 Tryz.underlying27 hi _ _ _ rfl HO.out rfl ?_)
      refine bodyPost_ret (results_tmp rfl _ _ _) rfl ?_
      exact RowPost.of (L := []) HO.out (by intro e; cases e) (by intro x hx; cases hx) (by simp) HB.out
  | some ad =>
    have ht := take_run (some ad) 0 cap 0 (by omega)
    go_enter Tryz.func87, Tryz.ntmps87
    go_wp2
    go_loopw [3] (fun i wr => i = .int .i64 0 ∧ wr = w) (fun i _ => (intOf i).toNat)
    case atStart => exact ⟨rfl, rfl⟩
    case round =>
      obtain ⟨rfl, rfl⟩ := hrel
      go_wp2_with (at_builtin; refine wpList_append_own _ rfl (.tmp 18) (.tmp 21) 27 rfl wr.heap.size 91 i0' (.int .u32 0) 1 4 Tryz.underlying27 hi hz0 hz1 hz2 rfl (by decide) _ _ _ rfl HO.out ad _ _ (us []) rfl (by rw [us_len]; rfl) (by intro j u hu; simp [us] at hu) (us_one _) (by unfold maxLen; omega) (by omega) (by simp) ?_)
      intro v' w1 hown' hgrow hnn
      have hne : v' ≠ .slice none 0 0 := hnn
      have hB1 := HB.out.grown hgrow (by simp) (fun k e => (HO.out.lt k e).1)
      have hO1 : OwnL w1 wr.heap.size v' [] := by
        show w1.ownsRow _ _ 1 v' ([] : List Nat).length (us [])
        simpa using hown'
      have Fin := Lib.hid (RowPost.of hO1 hne (by intro x hx; cases hx) (by simp) hB1)
      clear hown' hgrow hB1 hO1 hne hnn
      go_wp2
      refine bodyPost_ret (results_tmp rfl _ _ _) rfl ?_
      exact Fin.out
set_option maxRecDepth 100000 in
set_option maxHeartbeats 4000000 in
theorem rover_zero (Y : Nat) (A D : Option Addr) (ca nb cb : Nat) (w : World) (hA : Lim w A 0 ca (canon 0)) (hD : Lim w D nb cb (canon Y)) (h : 0 < Y) :
    Calls Tryz.prog 85 #[.slice A 0 ca, .slice D nb cb] w (TwoPost w (canon (0 / Y)) (canon (0 % Y))) := by
  have hc := rcompare_walk 0 Y A D 0 ca nb cb w hA hD
  rw [cmp_lt h] at hc
  have tr := fun w' (_ : Below w.heap.size w w') => rtrim_zero A ca w'
  have e0 : 0 / Y = 0 := Nat.div_eq_of_lt h
  have e1 : 0 % Y = 0 := Nat.mod_eq_of_lt h
  have Tr := Lib.hid tr
  clear tr hA hD
  rw [e0, e1, canon_zero]
  go_enter Tryz.func85, Tryz.ntmps85
  go_wp2_with (first | (go_at_call 83; refine hc.mono ?_; rintro e w1 ⟨rfl, hb⟩; have HB := Lib.hid hb; clear hb) | (go_at_call 87; refine (Tr.out _ HB.out).mono ?_; rintro e w2 ⟨g, cp, rfl, -, hL, -, hg, hb⟩; have HB2 := Lib.hid (below_then HB.out hb); have HL := Lib.hid hL; clear hb hL))
  exact bodyPost_ret (results_tmp2 rfl _ _ _) rfl ⟨none, 0, _, cp, rfl, Lim.nil _, HL.out, Or.inr ⟨rfl, rfl⟩, Or.inl ⟨g, 0, rfl, hg⟩, HB2.out⟩
theorem rover_all (X Y : Nat) (A D : Option Addr) (na ca nb cb : Nat) (w : World) (hA : Lim w A na ca (canon X)) (hD : Lim w D nb cb (canon Y)) (hY : 0 < Y) (hn : na + 10 ≤ 1000000) :
    Calls Tryz.prog 85 #[.slice A na ca, .slice D nb cb] w (TwoPost w (canon (X / Y)) (canon (X % Y))) := by
  rcases Nat.eq_zero_or_pos X with h | h
  · subst h
    have l := hA.len
    rw [canon_zero] at l
    obtain rfl : na = 0 := l.symm
    exact rover_zero Y A D ca nb cb w hA hD hY
  · have l := hA.len
    have := (canon_lenpos X).2 h
    exact rover_any X Y A D na ca nb cb w hA hD (hA.adr (by omega)) hY hn
set_option maxRecDepth 100000 in
set_option maxHeartbeats 4000000 in
theorem rgcdg_walk (V1 V2 : Value) (z1 z2 : Int) (w : World) (h1 : Wide 0 w V1 z1) (h2 : Wide 0 w V2 z2) (hz : z2 ≠ 0) (hx : (canon z1.natAbs).length ≤ 4000) (hy : (canon z2.natAbs).length ≤ 4000) :
    Calls Tryz.prog 54 #[V1, V2] w (NumPost w ((Nat.gcd z1.natAbs z2.natAbs : Nat) : Int)) := by
  have RB := Lib.hid (fun w' (hb : Below w.heap.size w w') => rboth_walk V1 V2 z1 z2 w' (h1.below hb) (h2.below hb) (by omega) (by omega))
  obtain ⟨a, n, ca, rfl, hA, -⟩ := h1
  obtain ⟨d, m, cd, rfl, hD, -⟩ := h2
  have la := hA.len
  have ld := hD.len
  have hY : 0 < z2.natAbs := by omega
  have hS0 := BX.new w (decide (z1 < 0)) (decide (z2 < 0)) (.slice a n ca) (.slice d m cd)
  have HA := Lib.hid hA
  have HD := Lib.hid hD
  have HS := Lib.hid hS0
  clear hA hD hS0
  generalize decide (z1 < 0) = n1 at *
  generalize decide (z2 < 0) = n2 at *
  generalize z1.natAbs = X at *
  generalize z2.natAbs = Y at *
  go_enter Tryz.func54, Tryz.ntmps54
  go_wp2_with fail
  refine (RB.out _ HS.out.below).mono ?_
  rintro e w1 ⟨rfl, hb⟩
  have hS := HS.out.call hb
  clear hb HS RB
  obtain ⟨s1, s2, s3, s4, -⟩ := hS.s
  go_wp2_with fail
  go_quiet (fail)
  have hS := hS.drewN nq
  have st : ∃ (P Q : Nat) (ax : Option Addr) (nx cx : Nat) (ay : Option Addr) (ny cy : Nat), Value.slice a n ca = .slice ax nx cx ∧ Value.slice d m cd = .slice ay ny cy ∧ Lim (w1.drewN nq) ax nx cx (canon P) ∧ Lim (w1.drewN nq) ay ny cy (canon Q) ∧ (0 < P ∨ 0 < Q) ∧ Nat.gcd P Q = Nat.gcd X Y ∧ nx ≤ 4000 ∧ ny ≤ 4000 ∧ BX w n1 n2 (.slice a n ca) (.slice d m cd) (w1.drewN nq) :=
    ⟨X, Y, a, n, _, d, m, cd, rfl, rfl, HA.out.below hS.below, HD.out.below hS.below, Or.inr hY, rfl, by omega, by omega, hS⟩
  have ST := Lib.hid st
  clear st hS s1 s2 s3 s4
  go_wp2
  go_loopw [6, 7] (fun x y wr => ∃ (P Q : Nat) (ax : Option Addr) (nx cx : Nat) (ay : Option Addr) (ny cy : Nat), x = .slice ax nx cx ∧ y = .slice ay ny cy ∧ Lim wr ax nx cx (canon P) ∧ Lim wr ay ny cy (canon Q) ∧ (0 < P ∨ 0 < Q) ∧ Nat.gcd P Q = Nat.gcd X Y ∧ nx ≤ 4000 ∧ ny ≤ 4000 ∧ BX w n1 n2 (.slice a n ca) (.slice d m cd) wr) (fun _ y wr => rdv wr y)
  case atStart => exact ST.out
  case round =>
    clear ST
    obtain ⟨P, Q, ax, nx, cx, ay, ny, cy, rfl, rfl, hP, hQ, p0, hg, bx, by', hB⟩ := hrel
    have lq := hQ.len
    have lp := hP.len
    have mq := rdv_lim hQ
    rw [val_canon] at mq
    have HB := Lib.hid hB
    have HQ := Lib.hid hQ
    have HP := Lib.hid hP
    clear hB hP hQ
    by_cases hq : 0 < ny
    · have q0 : 0 < Q := (canon_lenpos Q).1 (by omega)
      have dv := rover_all P Q ax ay nx cx ny cy wr HP.out HQ.out q0 (by omega)
      have k1 : (0 : Int) < (ny : Int) := by omega
      have hm : (canon (P % Q)).length ≤ 4000 := Nat.le_trans (canon_mono (Nat.le_of_lt (Nat.mod_lt _ q0))) (by omega)
      have MQ := Lib.hid mq
      clear mq
      go_wp2_with (go_at_call 85; refine dv.mono ?_; rintro e w3 ⟨aq, cq, ar, cr, rfl, l1, l2, f1, f2, hb⟩; have L2 := Lib.hid l2; have HBB := Lib.hid hb; clear l1 l2 f1 f2 hb)
      go_roundw
      case rel => exact ⟨Q, P % Q, ay, ny, cy, ar, _, cr, rfl, rfl, HQ.out.below HBB.out, L2.out, Or.inl q0, by rw [gcd_step]; exact hg, by', hm, HB.out.call HBB.out⟩
      case measure =>
        rw [MQ.out, rdv_lim L2.out, val_canon]
        exact Nat.mod_lt _ q0
    · obtain rfl : ny = 0 := by omega
      have q0 : Q = 0 := by
        rcases Nat.eq_zero_or_pos Q with g | g
        · exact g
        · have := (canon_lenpos Q).2 g; omega
      subst q0
      rw [Nat.gcd_zero_right] at hg
      have p0 : 0 < P := by omega
      have npx : 0 < nx := by rw [← lp]; exact (canon_lenpos P).2 p0
      have mw := rmade_any false (canon P) ax nx cx wr HP.out (HP.out.adr npx) (by rw [val_canon]; omega)
      rw [val_canon, show sgn false P = (P : Int) from rfl] at mw
      have MW := Lib.hid mw
      have hs3 := HB.out.size
      clear mw mq
      go_wp2_with fail
      refine MW.out.mono ?_
      rintro e w4 ⟨V, rfl, ⟨az, kz, cz, rfl, hM, fz⟩, hb4⟩
      have hB4 := HB.out.call hb4
      have F := Lib.hid (num_fin2 (z := (P : Int)) hB4 hM (fun b off e => Nat.le_trans hs3 (fz b off e)))
      obtain ⟨-, -, -, -, s5, s6, s7, s8, -⟩ := hB4.s
      clear hM hb4 hB4
      go_wp2_with fail
      have F2 := F.out.2
      rw [hg] at F2
      have F1 := F.out.1
      rw [hg] at F1
      exact bodyPost_ret (ret_cell_tmp Tryz.results54 _ _ (w.heap.size + 2) [.bool _, .slice _ _ _] _ rfl F1 Tryz.underlying29 rfl infoW) rfl F2
set_option maxRecDepth 100000 in
set_option maxHeartbeats 4000000 in
theorem rdivmodg_walk (V1 V2 : Value) (z1 : Int) (g : Nat) (w : World) (h1 : Wide 0 w V1 z1) (h2 : Wide 0 w V2 (g : Int)) (hg : 0 < g) (hdv : g ∣ z1.natAbs) (hx : (canon z1.natAbs).length ≤ 4000) (hy : (canon g).length ≤ 4000) :
    Calls Tryz.prog 57 #[V1, V2] w (DMPost w (sgn (decide (z1 < 0)) (z1.natAbs / g)) 0) := by
  have RB := Lib.hid (fun w' (hb : Below w.heap.size w w') => rboth_walk V1 V2 z1 (g : Int) w' (h1.below hb) (h2.below hb) (by omega) (by rw [Int.natAbs_natCast]; omega))
  obtain ⟨a, n, ca, rfl, hA, -⟩ := h1
  obtain ⟨d, m, cd, rfl, hD, -⟩ := h2
  rw [decide_eq_false (show ¬ (g : Int) < 0 by omega)] at RB ⊢
  rw [Int.natAbs_natCast] at hD
  have la := hA.len
  have ld := hD.len
  have mp : 0 < m := by rw [← ld]; exact (canon_lenpos _).2 hg
  have k1 : ¬ (m : Int) = 0 := by omega
  have hS0 := BZ.new w (decide (z1 < 0)) false (.slice a n ca) (.slice d m cd)
  have OV := Lib.hid (fun w' (hb : Below w.heap.size w w') => rover_all z1.natAbs g a d n ca m cd w' (hA.below hb) (hD.below hb) hg (by omega))
  rw [Nat.mod_eq_zero_of_dvd hdv, canon_zero] at OV
  have HA := Lib.hid hA
  have HD := Lib.hid hD
  have HS := Lib.hid hS0
  clear hA hD hS0
  generalize decide (z1 < 0) = n1 at *
  generalize hQ : z1.natAbs / g = Q at *
  have hQl : (canon Q).length ≤ 4096 := by rw [← hQ]; exact Nat.le_trans (canon_mono (Nat.div_le_self _ _)) (by omega)
  clear hdv hQ
  go_enter Tryz.func57, Tryz.ntmps57
  go_wp2_with fail
  refine (RB.out _ HS.out.bx.below).mono ?_
  rintro e w1 ⟨rfl, hb⟩
  have hS := HS.out.call hb
  have c0 := hS.bx.x0
  have c1 := hS.bx.x1
  have d0 := hS.bx.y0
  have d1 := hS.bx.y1
  have HSS := Lib.hid hS
  have ov := OV.out w1 hS.bx.below
  clear hb HS RB hS OV
  go_wp2_with fail
  refine ov.mono ?_
  rintro e w2 ⟨aq, cq, ar, cr, rfl, l1, l2, f1, f2, hb⟩
  have hS2 := HSS.out.call hb
  have c0 := hS2.bx.x0
  have d0 := hS2.bx.y0
  have HS2 := Lib.hid hS2
  have L2 := Lib.hid l2
  have F2 := Lib.hid f2
  have mq := fun neg => rmade_any neg (canon Q) aq _ cq w2 l1 f1 (by rw [val_canon]; exact hQl)
  rw [val_canon] at mq
  clear HSS c1 d1 hb hS2 ov l1 l2 f1 f2
  go_wp2_with fail
  refine (mq _).mono ?_
  rintro e w3 ⟨V, rfl, ⟨az, kz, cz, rfl, hM, fz⟩, hb3⟩
  have ba := (Below.refl w3.heap.size w3).alloc (Nat.le_refl _) (.cells #[.bool (decide (sgn n1 Q < 0)), .slice az kz cz] 29)
  have b34 := below_then hb3 ba
  have hS4 := HS2.out.call b34
  have c0' := (HS2.out.call hb3).bx.x0
  have c0'' := hS4.bx.x0
  have mr := rmade_any n1 [] ar 0 cr (w3.alloc (.cells #[.bool (decide (sgn n1 Q < 0)), .slice az kz cz] 29)) (L2.out.below b34) (F2.out.below b34) (by rw [val, canon_zero]; simp)
  rw [show sgn n1 (val []) = 0 by cases n1 <;> rfl] at mr
  have LZ := Lib.hid (hM.below ba)
  have HS4 := Lib.hid hS4
  have hsz := HS2.out.size
  have hs3 := hb3.size
  have bnew := rangeAt_new w3 [.bool (decide (sgn n1 Q < 0)), .slice az kz cz] 29
  have BN := Lib.hid bnew
  clear mq c0 d0 hM ba b34 hS4 HS2 L2 F2 hb3 bnew
  go_wp2_with fail
  refine mr.mono ?_
  rintro e w4 ⟨V, rfl, ⟨ar', kr, cr', rfl, hM, fr⟩, hb4⟩
  rw [decide_eq_false (show ¬ (0 : Int) < 0 by omega)]
  have ba := (Below.refl w4.heap.size w4).alloc (Nat.le_refl _) (.cells #[.bool false, .slice ar' kr cr'] 29)
  have b35 := below_then hb4 ba
  have hS5 := HS4.out.call b35
  have hs4 := hb4.size
  have hszz := HS4.out.size
  simp only [World.size_alloc] at hs4 fr hszz
  have rq := rangeAt_below BN.out b35 (by simp)
  have rr := rangeAt_new w4 [.bool false, .slice ar' kr cr'] 29
  have hD : DF w w3.heap.size w4.heap.size (decide (sgn n1 Q < 0)) false az ar' kz cz kr cr' (canon (sgn n1 Q).natAbs) (canon 0) (w4.alloc (.cells #[.bool false, .slice ar' kr cr'] 29)) :=
    ⟨hS5.bx.below, by omega, by omega, rq 0 _ rfl, rq 1 _ rfl, rr 0 _ rfl, rr 1 _ rfl, hS5.bx.th, hS5.th2, LZ.out.below b35, hM.below ba, fun b off e => by have := fz b off e; omega, fun b off e => by have := fr b off e; omega⟩
  have HDF := Lib.hid hD
  clear mr hM ba b35 hS5 rq rr hD BN LZ fz fr HS4 hb4 c0' c0''
  go_wp2_with fail
  generalize hbq : decide (sgn n1 Q < 0) = bq at *
  have hW5 : w4.heap.size < (w4.alloc (.cells #[.bool false, .slice ar' kr cr'] 29)).heap.size := by simp
  generalize w4.alloc (.cells #[.bool false, .slice ar' kr cr'] 29) = W5 at *
  have d1 := (HDF.out.set (b := w.heap.size + 1 + 1) (by omega) (by omega) 0 (.bool bq)).set (b := w.heap.size + 1 + 1) (by omega) (by omega) 1 (.slice az kz cz)
  have d2 := (d1.set (b := w.heap.size + 1 + 1 + 1) (by omega) (by omega) 0 (.bool false)).set (b := w.heap.size + 1 + 1 + 1) (by omega) (by omega) 1 (.slice ar' kr cr')
  have ra : World.rangeAt ((((W5.setCell ⟨w.heap.size + 1 + 1, 0, none⟩ (.bool bq)).setCell ⟨w.heap.size + 1 + 1, 1, none⟩ (.slice az kz cz)).setCell ⟨w.heap.size + 1 + 1 + 1, 0, none⟩ (.bool false)).setCell ⟨w.heap.size + 1 + 1 + 1, 1, none⟩ (.slice ar' kr cr')) (w.heap.size + 1 + 1) 0 [.bool bq, .slice az kz cz] :=
    range_far (range_far (range_set HDF.out.t1 _ _) (by omega)) (by omega)
  have rb := range_set d1.t2 (.bool false) (.slice ar' kr cr')
  have Po := Lib.hid (show DMPost w (sgn n1 Q) 0 (.returned (.tuple #[.agg #[.bool bq, .slice az kz cz], .agg #[.bool false, .slice ar' kr cr'], .int .i64 0])) ((((W5.setCell ⟨w.heap.size + 1 + 1, 0, none⟩ (.bool bq)).setCell ⟨w.heap.size + 1 + 1, 1, none⟩ (.slice az kz cz)).setCell ⟨w.heap.size + 1 + 1 + 1, 0, none⟩ (.bool false)).setCell ⟨w.heap.size + 1 + 1 + 1, 1, none⟩ (.slice ar' kr cr')).drew from
    ⟨_, _, rfl, ⟨az, kz, cz, by rw [hbq], d2.drew.lq, fun b off e => by have := d2.fq b off e; omega⟩, ⟨ar', kr, cr', rfl, d2.drew.lr, fun b off e => by have := d2.fr b off e; omega⟩, d2.drew.below⟩)
  have RA := Lib.hid ra
  have RB := Lib.hid rb
  obtain ⟨x1, x2, x3, x4, x5, x6, x7, x8, y1, y2, y3, y4, -⟩ := HDF.out.s
  clear d1 d2 ra rb HDF c0 d0
  go_region_with (fail)
  all_goals
    clear x1 x2 x3 x4 x5 x6 x7 x8 y1 y2 y3 y4
    go_wp2_with fail
    refine bodyPost_ret (ret_cell2_tmp Tryz.results57 _ _ (w.heap.size + 1 + 1) (w.heap.size + 1 + 1 + 1) [.bool bq, .slice az kz cz] [.bool false, .slice ar' kr cr'] _ rfl rfl RA.out RB.out Tryz.underlying29 rfl infoW infoW) rfl ?_
    exact Po.out
set_option maxRecDepth 100000 in
set_option maxHeartbeats 4000000 in
theorem rreducedg_walk (V1 V2 : Value) (z1 : Int) (Y : Nat) (w : World) (h1 : Wide 0 w V1 z1) (h2 : Wide 0 w V2 (Y : Int)) (hY : 0 < Y) (hx : (canon z1.natAbs).length ≤ 4000) (hy : (canon Y).length ≤ 4000) :
    Calls Tryz.prog 22 #[V1, V2] w fun e w' => ∃ V, e = .returned V ∧ FracZ w.heap.size w' V (sgn (decide (z1 < 0)) (z1.natAbs / Nat.gcd z1.natAbs Y)) (Y / Nat.gcd z1.natAbs Y) ∧ Below w.heap.size w w' := by
  have hg0 : 0 < Nat.gcd z1.natAbs Y := Nat.gcd_pos_of_pos_right _ hY
  have hgl : (canon (Nat.gcd z1.natAbs Y)).length ≤ 4000 := Nat.le_trans (canon_mono (Nat.gcd_le_right z1.natAbs hY)) hy
  have GW := Lib.hid (fun w' (hb : Below w.heap.size w w') => rgcdg_walk V1 V2 z1 (Y : Int) w' (h1.below hb) (h2.below hb) (by omega) hx (by rw [Int.natAbs_natCast]; exact hy))
  rw [Int.natAbs_natCast] at GW
  have D1 := Lib.hid (fun w' (hb : Below w.heap.size w w') V (hV : Wide 0 w' V ((Nat.gcd z1.natAbs Y : Nat) : Int)) => rdivmodg_walk V1 V z1 (Nat.gcd z1.natAbs Y) w' (h1.below hb) hV hg0 (Nat.gcd_dvd_left _ _) hx hgl)
  have D2 := Lib.hid (fun w' (hb : Below w.heap.size w w') V (hV : Wide 0 w' V ((Nat.gcd z1.natAbs Y : Nat) : Int)) => rdivmodg_walk V2 V (Y : Int) (Nat.gcd z1.natAbs Y) w' (h2.below hb) hV hg0 (by rw [Int.natAbs_natCast]; exact Nat.gcd_dvd_right _ _) (by rw [Int.natAbs_natCast]; exact hy) hgl)
  rw [decide_eq_false (show ¬ (Y : Int) < 0 by omega), Int.natAbs_natCast, show sgn false (Y / Nat.gcd z1.natAbs Y) = ((Y / Nat.gcd z1.natAbs Y : Nat) : Int) from rfl] at D2
  obtain ⟨a, n, ca, rfl, -, -⟩ := h1
  obtain ⟨d, m, cd, rfl, -, -⟩ := wideN_inv h2
  have HS := Lib.hid (RZ.new w (decide (z1 < 0)) (.slice a n ca) (.slice d m cd))
  generalize hg : Nat.gcd z1.natAbs Y = g at *
  generalize decide (z1 < 0) = n1 at *
  generalize hP : sgn n1 (z1.natAbs / g) = P at *
  clear hg hP hgl h2
  go_enter Tryz.func22, Tryz.ntmps22
  go_wp2_with (go_at_call 54; refine (GW.out _ HS.out.below).mono ?_; rintro e w2 ⟨V, rfl, hV, hb⟩; obtain ⟨ag, kg, cg, rfl, hL, hf⟩ := wideN_inv hV; have hbA := (Below.refl _ w2).alloc (Nat.le_refl _) (.cells #[.bool false, .slice ag kg cg] 29); have hS1 := HS.out.call hb; have e0 := hS1.y0; have hS2 := hS1.call hbA; have c0 := hS2.x0; have c1 := hS2.x1; have d0 := hS2.y0; have d1 := hS2.y1; have HL2 := Lib.hid (hL.below hbA); have HS2 := Lib.hid hS2; clear hV hb hL hS1 hS2 hbA)
  refine (D1.out _ HS2.out.below _ (wideN HL2.out (fun _ _ _ => Nat.zero_le _))).mono ?_
  rintro e w3 ⟨U1, U2, rfl, hV1, hV2, hb⟩
  obtain ⟨aq, kq, cq, rfl, lq, fq⟩ := hV1
  obtain ⟨ar, kr, cr, rfl, -, -⟩ := wideN_inv (p := 0) hV2
  generalize hbp : decide (P < 0) = bp at *
  have hbA : Below (w2.alloc (.cells #[.bool false, .slice ag kg cg] 29)).heap.size (w2.alloc (.cells #[.bool false, .slice ag kg cg] 29)) ((w3.alloc (.cells #[.bool bp, .slice aq kq cq] 29)).alloc (.cells #[.bool false, .slice ar kr cr] 29)) := (hb.alloc hb.size _).alloc (by have := hb.size; simp at this ⊢; omega) _
  have g0 := (hbA.cell (p := ⟨w2.heap.size, 0, none⟩) (by simp)).trans (rangeAt_new w2 [.bool false, .slice ag kg cg] 29 0 _ rfl)
  have g1 := (hbA.cell (p := ⟨w2.heap.size, 1, none⟩) (by simp)).trans (rangeAt_new w2 [.bool false, .slice ag kg cg] 29 1 _ rfl)
  have b3 := ((Below.refl _ w3).alloc (Nat.le_refl _) (.cells #[.bool bp, .slice aq kq cq] 29)).alloc (by simp) (.cells #[.bool false, .slice ar kr cr] 29)
  have b4 := (Below.refl _ (w3.alloc (.cells #[.bool bp, .slice aq kq cq] 29))).alloc (Nat.le_refl _) (.cells #[.bool false, .slice ar kr cr] 29)
  have t0 := (b4.cell (p := ⟨w3.heap.size, 0, none⟩) (by simp)).trans (rangeAt_new w3 [.bool bp, .slice aq kq cq] 29 0 _ rfl)
  have t1 := (b4.cell (p := ⟨w3.heap.size, 1, none⟩) (by simp)).trans (rangeAt_new w3 [.bool bp, .slice aq kq cq] 29 1 _ rfl)
  have hS3 := HS2.out.call hbA
  have d0 := hS3.y0
  have d1 := hS3.y1
  have HS3 := Lib.hid hS3
  have HLQ := Lib.hid (lq.below b3)
  have HL3 := Lib.hid (HL2.out.below hbA)
  have hsq : w.heap.size ≤ (w2.alloc (.cells #[.bool false, .slice ag kg cg] 29)).heap.size := HS2.out.below.size
  clear hV2 lq hb hS3 hbA b3 b4
  go_wp2_with fail
  refine (D2.out _ HS3.out.below _ (wideN HL3.out (fun _ _ _ => Nat.zero_le _))).mono ?_
  rintro e w4 ⟨U1, U2, rfl, hV1, hV2, hb⟩
  obtain ⟨aq2, kq2, cq2, rfl, lq2, fq2⟩ := wideN_inv hV1
  obtain ⟨ar2, kr2, cr2, rfl, -, -⟩ := wideN_inv (p := 0) hV2
  have hbA : Below ((w3.alloc (.cells #[.bool bp, .slice aq kq cq] 29)).alloc (.cells #[.bool false, .slice ar kr cr] 29)).heap.size ((w3.alloc (.cells #[.bool bp, .slice aq kq cq] 29)).alloc (.cells #[.bool false, .slice ar kr cr] 29)) ((w4.alloc (.cells #[.bool false, .slice aq2 kq2 cq2] 29)).alloc (.cells #[.bool false, .slice ar2 kr2 cr2] 29)) := (hb.alloc hb.size _).alloc (by have := hb.size; simp at this ⊢; omega) _
  have t0 := (hbA.cell (p := ⟨w3.heap.size, 0, none⟩) (by simp; omega)).trans t0
  have t1 := (hbA.cell (p := ⟨w3.heap.size, 1, none⟩) (by simp; omega)).trans t1
  have b3 := ((Below.refl _ w4).alloc (Nat.le_refl _) (.cells #[.bool false, .slice aq2 kq2 cq2] 29)).alloc (by simp) (.cells #[.bool false, .slice ar2 kr2 cr2] 29)
  have hS4 := HS3.out.call hbA
  have u0 := cellOf_some (hS4.th 0 (by omega)).1
  have u1 := cellOf_some (hS4.th 1 (by omega)).1
  have u2 := cellOf_some (hS4.th 2 (by omega)).1
  have u3 := cellOf_some (hS4.th 3 (by omega)).1
  have v0 := (hS4.th 0 (by omega)).2
  have v1 := (hS4.th 1 (by omega)).2
  have v2 := (hS4.th 2 (by omega)).2
  have v3 := (hS4.th 3 (by omega)).2
  have HS4 := Lib.hid hS4
  have HLQ2 := Lib.hid (lq2.below b3)
  have HLQ1 := Lib.hid (HLQ.out.below hbA)
  have hsq2 := HS3.out.below.size
  clear hV1 hV2 lq2 hb hS4 hbA b3
  go_wp2_with fail
  have z2 := HS2.out.size
  have z3 := HS3.out.size
  have G : FracZ w.heap.size (((w4.alloc (.cells #[.bool false, .slice aq2 kq2 cq2] 29)).alloc (.cells #[.bool false, .slice ar2 kr2 cr2] 29)).setCells (w.heap.size + 2) 0 [.bool bp, .slice aq kq cq, .bool false, .slice aq2 kq2 cq2]) (.agg #[.bool bp, .slice aq kq cq, .bool false, .slice aq2 kq2 cq2]) P (Y / g) ∧ Below w.heap.size w (((w4.alloc (.cells #[.bool false, .slice aq2 kq2 cq2] 29)).alloc (.cells #[.bool false, .slice ar2 kr2 cr2] 29)).setCells (w.heap.size + 2) 0 [.bool bp, .slice aq kq cq, .bool false, .slice aq2 kq2 cq2]) :=
    ⟨⟨aq, kq, cq, aq2, kq2, cq2, by rw [hbp], HLQ1.out.setCells (fun b off e => by have := fq b off e; omega) _ _, HLQ2.out.setCells (fun b off e => by have := fq2 b off e; omega) _ _, fun b off e => by have := fq b off e; omega, fun b off e => by have := fq2 b off e; omega⟩, below_setCells _ (by omega) _ _ _ HS4.out.below⟩
  exact bodyPost_ret (ret_cell Tryz.results22 _ _ (w.heap.size + 2) [.bool bp, .slice aq kq cq, .bool false, .slice aq2 kq2 cq2] _ rfl (World.rangeAt_setCells_same _ _ _ _ HS4.out.th) Tryz.underlying31 rfl infoF) rfl ⟨_, rfl, G⟩
end Wd
end Go.Proofs.YtmgehfakcnmdnaaGreatDoor
/-
  The reference's whole numbers: Add, Sub.
-/
namespace Go.Proofs.YtmgehfakcnmdnaaGreatDoor
namespace Wd
open Go.RowKit Lw

set_option maxRecDepth 100000 in
set_option maxHeartbeats 4000000 in
theorem raddg_walk (V1 V2 : Value) (z1 z2 : Int) (w : World) (h1 : Wide 0 w V1 z1) (h2 : Wide 0 w V2 z2) (hz1 : z1 ≠ 0) (hz2 : z2 ≠ 0) (hn1 : (canon z1.natAbs).length ≤ 4000) (hn2 : (canon z2.natAbs).length ≤ 4000) :
    Calls Tryz.prog 48 #[V1, V2] w (NumPost w (z1 + z2)) := by
  have RB := Lib.hid (fun w' (hb : Below w.heap.size w w') => rboth_walk V1 V2 z1 z2 w' (h1.below hb) (h2.below hb) (by omega) (by omega))
  have AW := Lib.hid (fun w' (hb : Below w.heap.size w w') => rsumg_walk V1 V2 z1 z2 w' (h1.below hb) (h2.below hb) hz1 hz2 hn1 hn2)
  obtain ⟨a, n, ca, rfl, hA, -⟩ := h1
  obtain ⟨d, m, cd, rfl, hD, -⟩ := h2
  have HS := Lib.hid (BX.new w (decide (z1 < 0)) (decide (z2 < 0)) (.slice a n ca) (.slice d m cd))
  clear hA hD hn1 hn2 hz1 hz2
  generalize decide (z1 < 0) = n1 at *
  generalize decide (z2 < 0) = n2 at *
  go_enter Tryz.func48, Tryz.ntmps48
  go_wp2_with fail
  refine (RB.out _ HS.out.below).mono ?_
  rintro e w1 ⟨rfl, hb⟩
  have hS := HS.out.call hb
  obtain ⟨s1, s2, s3, s4, -⟩ := hS.s
  have hs := hS.size
  have aw := AW.out w1 hS.below
  have HSS := Lib.hid hS
  clear hb HS RB hS AW
  go_wp2_with fail
  refine aw.mono ?_
  rintro e w2 ⟨V, rfl, ⟨a', k, cap, rfl, hM, hg⟩, hb⟩
  have hS2 := HSS.out.call hb
  obtain ⟨-, -, -, -, s5, s6, s7, s8, -⟩ := hS2.s
  have F := Lib.hid (num_fin2 hS2 hM (fun b off e => Nat.le_trans hs (hg b off e)))
  clear s1 s2 s3 s4 aw hb hM hg HSS hS2
  go_wp2_with fail
  exact bodyPost_ret (ret_cell_tmp Tryz.results48 _ _ (w.heap.size + 2) [.bool _, .slice _ _ _] _ rfl F.out.1 Tryz.underlying29 rfl infoW) rfl F.out.2
set_option maxRecDepth 100000 in
set_option maxHeartbeats 4000000 in
theorem rsubn_walk (V1 V2 : Value) (z1 : Int) (Y : Nat) (w : World) (h1 : Wide 0 w V1 z1) (h2 : Wide 0 w V2 (Y : Int)) (hz1 : z1 ≠ 0) (hY : 0 < Y) (hn1 : (canon z1.natAbs).length ≤ 4000) (hn2 : (canon Y).length ≤ 4000) :
    Calls Tryz.prog 86 #[V1, V2] w (NumPost w (z1 - (Y : Int))) := by
  have RB := Lib.hid (fun w' (hb : Below w.heap.size w w') => rboth_walk V1 V2 z1 (Y : Int) w' (h1.below hb) (h2.below hb) (by omega) (by rw [Int.natAbs_natCast]; omega))
  obtain ⟨d, m, cd, rfl, hD, -⟩ := wideN_inv h2
  have NW := fun w' (hb : Below w.heap.size w w') => (⟨d, m, cd, by rw [decide_eq_true (show -(Y : Int) < 0 by omega)], by rw [Int.natAbs_neg, Int.natAbs_natCast]; exact hD.below hb, fun _ _ _ => Nat.zero_le _⟩ : Wide 0 w' (.agg #[.bool true, .slice d m cd]) (-(Y : Int)))
  have AW := Lib.hid (fun w' (hb : Below w.heap.size w w') => rsumg_walk V1 (.agg #[.bool true, .slice d m cd]) z1 (-(Y : Int)) w' (h1.below hb) (NW w' hb) hz1 (by omega) hn1 (by rw [Int.natAbs_neg, Int.natAbs_natCast]; exact hn2))
  rw [← Int.sub_eq_add_neg] at AW
  obtain ⟨a, n, ca, rfl, hA, -⟩ := h1
  have mp : (0 : Int) < (m : Int) := by have := (canon_lenpos Y).2 hY; have := hD.len; omega
  have mp2 : 0 < m := by omega
  have HS := Lib.hid (BX.new w (decide (z1 < 0)) false (.slice a n ca) (.slice d m cd))
  clear hA hD hn1 hn2 hz1 hY NW
  generalize decide (z1 < 0) = n1 at *
  go_enter Tryz.func86, Tryz.ntmps86
  go_wp2_with fail
  refine (RB.out _ HS.out.below).mono ?_
  rintro e w1 ⟨rfl, hb⟩
  have hS := HS.out.call hb
  obtain ⟨s1, s2, s3, s4, -⟩ := hS.s
  have hs := hS.size
  have aw := AW.out w1 hS.below
  have HSS := Lib.hid hS
  clear hb HS RB hS AW
  go_wp2_with fail
  refine aw.mono ?_
  rintro e w2 ⟨V, rfl, ⟨a', k, cap, rfl, hM, hg⟩, hb⟩
  have hS2 := HSS.out.call hb
  obtain ⟨-, -, -, -, s5, s6, s7, s8, -⟩ := hS2.s
  have F := Lib.hid (num_fin2 hS2 hM (fun b off e => Nat.le_trans hs (hg b off e)))
  clear s1 s2 s3 s4 aw hb hM hg HSS hS2
  go_wp2_with fail
  exact bodyPost_ret (ret_cell_tmp Tryz.results86 _ _ (w.heap.size + 2) [.bool _, .slice _ _ _] _ rfl F.out.1 Tryz.underlying29 rfl infoW) rfl F.out.2
end Wd
end Go.Proofs.YtmgehfakcnmdnaaGreatDoor
/-
  The reference's fractions: Check, Few, added (less), Minus, of fractions above zero.
-/
namespace Go.Proofs.YtmgehfakcnmdnaaGreatDoor
namespace Wd
open Go.RowKit Lw

abbrev frL (a : Option Addr) (k c : Nat) (a' : Option Addr) (k' c' : Nat) : List Value := [.bool false, .slice a k c, .bool false, .slice a' k' c']
set_option maxRecDepth 100000 in
set_option maxHeartbeats 1000000 in
theorem rfew_walk (a a' : Option Addr) (k c k' c' : Nat) (w : World) :
    Calls Tryz.prog 20 #[.agg #[.bool false, .slice a k c, .bool false, .slice a' k' c']] w fun e w' => e = .returned (.int .i64 (max (k : Int) (k' : Int))) ∧ Below w.heap.size w w' := by
  go_enter Tryz.func20, Tryz.ntmps20
  go_wp2_with fail
  exact bodyPost_ret (results_tmp rfl _ _ _) rfl ⟨rfl, (Below.refl _ _).alloc (Nat.le_refl _) _⟩
/-- A fraction in its box, and its greatest common divisor. -/
structure CX (w0 : World) (a : Option Addr) (k c : Nat) (a' : Option Addr) (k' c' : Nat) (p q : Nat) (w : World) : Prop where
  below : Below w0.heap.size w0 w
  lt : w0.heap.size < w.heap.size
  row : w.rangeAt w0.heap.size 0 (frL a k c a' k' c')
  l1 : Lim w a k c (canon p)
  l2 : Lim w a' k' c' (canon q)
theorem CX.call {w0 w w' : World} {a a' : Option Addr} {k c k' c' p q : Nat} (h : CX w0 a k c a' k' c' p q w) (hb : Below w.heap.size w w') : CX w0 a k c a' k' c' p q w' :=
  ⟨below_then h.below hb, Nat.lt_of_lt_of_le h.lt hb.size, rangeAt_below h.row hb h.lt, h.l1.below hb, h.l2.below hb⟩
theorem CX.new {w : World} {a a' : Option Addr} {k c k' c' p q : Nat} (h1 : Lim w a k c (canon p)) (h2 : Lim w a' k' c' (canon q)) : CX w a k c a' k' c' p q (w.alloc (.cells #[.bool false, .slice a k c, .bool false, .slice a' k' c'] 31)) := by
  have b := (Below.refl w.heap.size w).alloc (Nat.le_refl _) (.cells #[.bool false, .slice a k c, .bool false, .slice a' k' c'] 31)
  exact ⟨b, by simp, rangeAt_new w (frL a k c a' k' c') _, h1.below b, h2.below b⟩
theorem CX.num {w0 w : World} {a a' : Option Addr} {k c k' c' p q : Nat} (h : CX w0 a k c a' k' c' p q w) : Wide 0 w (.agg #[.bool false, .slice a k c]) (p : Int) := wideN h.l1 (fun _ _ _ => Nat.zero_le _)
theorem CX.den {w0 w : World} {a a' : Option Addr} {k c k' c' p q : Nat} (h : CX w0 a k c a' k' c' p q w) : Wide 0 w (.agg #[.bool false, .slice a' k' c']) (q : Int) := wideN h.l2 (fun _ _ _ => Nat.zero_le _)
set_option maxRecDepth 100000 in
set_option maxHeartbeats 4000000 in
theorem rfcheck_walk (a a' : Option Addr) (k c k' c' p q : Nat) (w : World) (h1 : Lim w a k c (canon p)) (h2 : Lim w a' k' c' (canon q)) (hq : 0 < q) (hg : Nat.gcd p q = 1) (hx : (canon p).length ≤ 4000) (hy : (canon q).length ≤ 4000) :
    Calls Tryz.prog 19 #[.agg #[.bool false, .slice a k c, .bool false, .slice a' k' c']] w fun e w' => e = .returned (.int .i64 0) ∧ Below w.heap.size w w' := by
  have X0 := Lib.hid (CX.new h1 h2)
  have np : 0 < k' := by have := (canon_lenpos q).2 hq; have := h2.len; omega
  have np2 : ¬ (k' : Int) = 0 := by omega
  have CN := Lib.hid (fun w' (X : CX w a k c a' k' c' p q w') => rcheck_walk _ _ w' X.num (by rw [Int.natAbs_natCast]; omega))
  have CD := Lib.hid (fun w' (X : CX w a k c a' k' c' p q w') => rcheck_walk _ _ w' X.den (by rw [Int.natAbs_natCast]; omega))
  have GW := Lib.hid (fun w' (X : CX w a k c a' k' c' p q w') => rgcdg_walk _ _ (p : Int) (q : Int) w' X.num X.den (by omega) (by rw [Int.natAbs_natCast]; omega) (by rw [Int.natAbs_natCast]; omega))
  rw [Int.natAbs_natCast, Int.natAbs_natCast, hg] at GW
  have F1 := Lib.hid (fun w => rfrom_walk 1 w (by omega) (by omega))
  clear h1 h2 hg
  go_enter Tryz.func19, Tryz.ntmps19
  go_wp2_with fail
  refine (CN.out _ X0.out).mono ?_
  rintro e w1 ⟨rfl, hb⟩
  have x1 := X0.out.call hb
  have c2 := x1.row 2 _ rfl
  have c3 := x1.row 3 _ rfl
  simp only [Nat.zero_add] at c2 c3
  have X1 := Lib.hid x1
  clear x1 hb X0 CN
  go_wp2_with fail
  refine (CD.out _ X1.out).mono ?_
  rintro e w2 ⟨rfl, hb⟩
  have x1 := X1.out.call hb
  have c0 := x1.row 0 _ rfl
  have c1 := x1.row 1 _ rfl
  have c2 := x1.row 2 _ rfl
  have c3 := x1.row 3 _ rfl
  simp only [Nat.zero_add] at c0 c1 c2 c3
  have X2 := Lib.hid x1
  clear x1 hb X1 CD
  go_wp2_with fail
  refine (GW.out _ X2.out).mono ?_
  rintro e w3 ⟨V, rfl, hV, hb⟩
  obtain ⟨ag, kg, cg, rfl, lg, -⟩ := wideN_inv (p := 1) hV
  have bA := (Below.refl _ w3).alloc (Nat.le_refl _) (.cells #[.bool false, .slice ag kg cg] 29)
  have X3 := Lib.hid ((X2.out.call hb).call bA)
  have n0 : (w3.alloc (.cells #[.bool false, .slice ag kg cg] 29)).cell? ⟨w3.heap.size, 0, none⟩ = some (.bool false) := rangeAt_new w3 [.bool false, .slice ag kg cg] 29 0 _ rfl
  have n1 : (w3.alloc (.cells #[.bool false, .slice ag kg cg] 29)).cell? ⟨w3.heap.size, 1, none⟩ = some (.slice ag kg cg) := rangeAt_new w3 [.bool false, .slice ag kg cg] 29 1 _ rfl
  have LG := Lib.hid (lg.below bA)
  have sz : (w3.alloc (.cells #[.bool false, .slice ag kg cg] 29)).heap.size = w3.heap.size + 1 := by simp
  clear hV lg hb bA X2 GW c0 c1 c2 c3
  go_wp2_with fail
  generalize w3.alloc (.cells #[.bool false, .slice ag kg cg] 29) = W4 at *
  have SM := Lib.hid (fun w8 V8 (hb : Below W4.heap.size W4 w8) (hV : Wide 0 w8 V8 1) => rsame_walk (.agg #[.bool false, .slice ag kg cg]) V8 ((1 : Nat) : Int) 1 w8 (wideN (LG.out.below hb) (fun _ _ _ => Nat.zero_le _)) hV)
  simp only [Int.natCast_one, decide_true] at SM
  go_region_with (first | (go_at_call 23; refine (F1.out _).mono ?_; rintro e w8 ⟨V8, rfl, hV8, hb8⟩; have m0 := (hb8.cell (p := ⟨w3.heap.size, 0, none⟩) (by show w3.heap.size < W4.heap.size; omega)).trans n0; have m1 := (hb8.cell (p := ⟨w3.heap.size, 1, none⟩) (by show w3.heap.size < W4.heap.size; omega)).trans n1; have HB8 := Lib.hid (show Below W4.heap.size W4 w8 from ⟨hb8.os, hb8.tape, hb8.output, hb8.size, hb8.block⟩); have HV8 := Lib.hid (hV8.mono (Nat.zero_le _)); clear hV8 hb8) | (go_at_call 49; refine (SM.out _ _ HB8.out HV8.out).mono ?_; rintro e w9 ⟨rfl, hb9⟩; have HB9 := Lib.hid (below_then HB8.out hb9); clear hb9))
  all_goals
    go_wp2_with fail
    exact bodyPost_ret (results_tmp rfl _ _ _) rfl ⟨rfl, (X3.out.call HB9.out).below⟩
/-- The boxes of added. -/
structure FX (w0 : World) (ca cb : List Value) (w : World) : Prop where
  below : Below w0.heap.size w0 w
  size : w0.heap.size + 3 ≤ w.heap.size
  ra : w.rangeAt w0.heap.size 0 ca
  rb : w.rangeAt (w0.heap.size + 1) 0 cb
  th : w.there (w0.heap.size + 2) 0 4
theorem FX.call {w0 w w' : World} {ca cb : List Value} (h : FX w0 ca cb w) (hb : Below w.heap.size w w') : FX w0 ca cb w' := by
  have := h.size
  have := hb.size
  exact ⟨below_then h.below hb, by omega, rangeAt_below h.ra hb (by omega), rangeAt_below h.rb hb (by omega), there_below h.th hb (by omega)⟩
theorem FX.new (w : World) (ca cb : List Value) : FX w ca cb (((w.alloc (.cells ca.toArray 31)).alloc (.cells cb.toArray 31)).alloc (.cells #[.bool false, .slice none 0 0, .bool false, .slice none 0 0] 31)) := by
  have h1 := (Below.refl w.heap.size w).alloc (Nat.le_refl _) (.cells ca.toArray 31)
  have h2 := h1.alloc h1.size (.cells cb.toArray 31)
  have h3 := h2.alloc h2.size (.cells #[.bool false, .slice none 0 0, .bool false, .slice none 0 0] 31)
  have r1 := rangeAt_new w ca 31
  have r2 := rangeAt_new (w.alloc (.cells ca.toArray 31)) cb 31
  have b2 := (Below.refl _ (w.alloc (.cells ca.toArray 31))).alloc (Nat.le_refl _) (.cells cb.toArray 31)
  have b3 := (Below.refl _ ((w.alloc (.cells ca.toArray 31)).alloc (.cells cb.toArray 31))).alloc (Nat.le_refl _) (.cells #[.bool false, .slice none 0 0, .bool false, .slice none 0 0] 31)
  have r1' := rangeAt_below r1 (below_then b2 b3) (by simp)
  have r2' := rangeAt_below r2 b3 (by simp)
  have t := there_new ((w.alloc (.cells ca.toArray 31)).alloc (.cells cb.toArray 31)) #[.bool false, .slice none 0 0, .bool false, .slice none 0 0] 31 4 (by simp)
  simp only [World.size_alloc] at r2' t
  exact ⟨h3, by simp, r1', r2', t⟩
end Wd
end Go.Proofs.YtmgehfakcnmdnaaGreatDoor
/-
  The reference's fractions: added with a minus sign, Minus, of fractions above zero.
-/
namespace Go.Proofs.YtmgehfakcnmdnaaGreatDoor
namespace Wd
open Go.RowKit Lw

theorem FX.set {w0 w : World} {ca cb : List Value} (h : FX w0 ca cb w) {b : Nat} (hb : w0.heap.size + 3 ≤ b) (o : Nat) (v : Value) : FX w0 ca cb (w.setCell ⟨b, o, none⟩ v) := by
  refine ⟨h.below.setCell (p := ⟨b, o, none⟩) (by show w0.heap.size ≤ b; omega) v, by simpa using h.size, fun j u hj => ?_, fun j u hj => ?_, there_setCell h.th _ _⟩
  · exact (World.cell?_setCell_other _ _ _ _ (by simp <;> omega)).trans (h.ra j u hj)
  · exact (World.cell?_setCell_other _ _ _ _ (by simp <;> omega)).trans (h.rb j u hj)
theorem sub_len {x y : Nat} (hx : (canon x).length ≤ 4000) (hy : (canon y).length ≤ 4000) : (canon ((x : Int) - (y : Int)).natAbs).length ≤ 4000 := by
  rcases Nat.le_total y x with h | h
  · exact Nat.le_trans (canon_mono (show ((x : Int) - (y : Int)).natAbs ≤ x by omega)) hx
  · exact Nat.le_trans (canon_mono (show ((x : Int) - (y : Int)).natAbs ≤ y by omega)) hy
/-- What added returns. -/
def MinPost (x y dd : Nat) (w : World) (e : Ending) (w' : World) : Prop := ∃ V, e = .returned (.tuple #[V, .int .i64 0]) ∧ FracZ w.heap.size w' V (sgn (decide ((x : Int) - (y : Int) < 0)) (((x : Int) - (y : Int)).natAbs / Nat.gcd ((x : Int) - (y : Int)).natAbs dd)) (dd / Nat.gcd ((x : Int) - (y : Int)).natAbs dd) ∧ Below w.heap.size w w'
set_option maxRecDepth 100000 in
set_option maxHeartbeats 8000000 in
theorem radded_walk (a a' d d' : Option Addr) (k c k' c' l e l' e' pa qa pb qb : Nat) (w : World) (hA : Lim w a k c (canon pa)) (hA' : Lim w a' k' c' (canon qa)) (hD : Lim w d l e (canon pb)) (hD' : Lim w d' l' e' (canon qb))
    (p1 : 0 < pa) (p2 : 0 < qa) (p3 : 0 < pb) (p4 : 0 < qb) (s1 : k ≤ 1000) (s2 : k' ≤ 1000) (s3 : l ≤ 1000) (s4 : l' ≤ 1000) (hx : (canon (pa * qb)).length ≤ 4000) (hy : (canon (pb * qa)).length ≤ 4000) (hd : (canon (qa * qb)).length ≤ 4000) :
    Calls Tryz.prog 55 #[.agg #[.bool false, .slice a k c, .bool false, .slice a' k' c'], .agg #[.bool false, .slice d l e, .bool false, .slice d' l' e'], .bool true] w (MinPost (pa * qb) (pb * qa) (qa * qb) w) := by
  have z1 := hA.len
  have z2 := hA'.len
  have z3 := hD.len
  have z4 := hD'.len
  have X0 := Lib.hid (FX.new w (frL a k c a' k' c') (frL d l e d' l' e'))
  have M1 := Lib.hid (fun w' (hb : Below w.heap.size w w') => rmul_walk (.agg #[.bool false, .slice a k c]) (.agg #[.bool false, .slice d' l' e']) (pa : Int) (qb : Int) w' (wideN (hA.below hb) (fun _ _ _ => Nat.zero_le _)) (wideN (hD'.below hb) (fun _ _ _ => Nat.zero_le _)) (by rw [Int.natAbs_natCast, Int.natAbs_natCast]; omega))
  have M2 := Lib.hid (fun w' (hb : Below w.heap.size w w') => rmul_walk (.agg #[.bool false, .slice d l e]) (.agg #[.bool false, .slice a' k' c']) (pb : Int) (qa : Int) w' (wideN (hD.below hb) (fun _ _ _ => Nat.zero_le _)) (wideN (hA'.below hb) (fun _ _ _ => Nat.zero_le _)) (by rw [Int.natAbs_natCast, Int.natAbs_natCast]; omega))
  have M3 := Lib.hid (fun w' (hb : Below w.heap.size w w') => rmul_walk (.agg #[.bool false, .slice a' k' c']) (.agg #[.bool false, .slice d' l' e']) (qa : Int) (qb : Int) w' (wideN (hA'.below hb) (fun _ _ _ => Nat.zero_le _)) (wideN (hD'.below hb) (fun _ _ _ => Nat.zero_le _)) (by rw [Int.natAbs_natCast, Int.natAbs_natCast]; omega))
  rw [← Int.natCast_mul] at M1 M2 M3
  have x0 : 0 < pa * qb := Nat.mul_pos p1 p4
  have y0 : 0 < pb * qa := Nat.mul_pos p3 p2
  have d0 : 0 < qa * qb := Nat.mul_pos p2 p4
  clear hA hA' hD hD' p1 p2 p3 p4 s1 s2 s3 s4 z1 z2 z3 z4
  generalize pa * qb = x at *
  generalize pb * qa = y at *
  generalize qa * qb = dd at *
  have AW := Lib.hid (fun w' V1 V2 (h1 : Wide 0 w' V1 (x : Int)) (h2 : Wide 0 w' V2 (y : Int)) => raddg_walk V1 V2 (x : Int) (y : Int) w' h1 h2 (by omega) (by omega) (by rw [Int.natAbs_natCast]; exact hx) (by rw [Int.natAbs_natCast]; exact hy))
  rw [← Int.natCast_add] at AW
  have SW := Lib.hid (fun w' V1 V2 (h1 : Wide 0 w' V1 (x : Int)) (h2 : Wide 0 w' V2 (y : Int)) => rsubn_walk V1 V2 (x : Int) y w' h1 h2 (by omega) y0 (by rw [Int.natAbs_natCast]; exact hx) hy)
  have RW := Lib.hid (fun w' V1 V2 (h1 : Wide 0 w' V1 ((x : Int) - (y : Int))) (h2 : Wide 0 w' V2 (dd : Int)) => rreducedg_walk V1 V2 ((x : Int) - (y : Int)) dd w' h1 h2 d0 (sub_len hx hy) hd)
  have D0 := Lib.hid d0
  clear hx hy hd x0 y0 d0
  go_enter Tryz.func55, Tryz.ntmps55
  go_wp2_with fail
  refine (M1.out _ X0.out.below).mono ?_
  rintro en w1 ⟨V, rfl, hV, hb⟩
  obtain ⟨ax, kx, cx, rfl, lx, -⟩ := wideN_inv hV
  have b1 := (Below.refl _ w1).alloc (Nat.le_refl _) (.cells #[.bool false, .slice ax kx cx] 29)
  have X1 := X0.out.call (below_then hb b1)
  have R8 := Lib.hid (rangeAt_new w1 [.bool false, .slice ax kx cx] 29)
  have L8 := Lib.hid (lx.below b1)
  have c0 := X1.ra 2 _ rfl
  have c1 := X1.ra 3 _ rfl
  have d0 := X1.rb 0 _ rfl
  have d1 := X1.rb 1 _ rfl
  simp only [Nat.zero_add] at c0 c1 d0 d1
  have g1 := X1.size
  have XX := Lib.hid X1
  clear hV hb lx b1 X1 X0 M1
  go_wp2_with fail
  refine (M2.out _ XX.out.below).mono ?_
  rintro en w2 ⟨V, rfl, hV, hb⟩
  obtain ⟨ay, ky, cy, rfl, ly, -⟩ := wideN_inv hV
  have b1 := (Below.refl _ w2).alloc (Nat.le_refl _) (.cells #[.bool false, .slice ay ky cy] 29)
  have bb := below_then hb b1
  have X2 := XX.out.call bb
  have R8b := Lib.hid (rangeAt_below R8.out bb (by simp))
  have L8b := Lib.hid (L8.out.below bb)
  have R10 := Lib.hid (rangeAt_new w2 [.bool false, .slice ay ky cy] 29)
  have L10 := Lib.hid (ly.below b1)
  have e12 := hb.size
  simp only [World.size_alloc] at e12
  clear c0 c1 d0 d1
  have c0 := X2.ra 2 _ rfl
  have c1 := X2.ra 3 _ rfl
  have d0 := X2.rb 2 _ rfl
  have d1 := X2.rb 3 _ rfl
  simp only [Nat.zero_add] at c0 c1 d0 d1
  have X3 := Lib.hid X2
  clear hV hb ly b1 bb X2 XX M2 R8 L8
  go_wp2_with fail
  refine (M3.out _ X3.out.below).mono ?_
  rintro en w3 ⟨V, rfl, hV, hb⟩
  obtain ⟨az, kz, cz, rfl, lz, -⟩ := wideN_inv hV
  have b1 := (Below.refl _ w3).alloc (Nat.le_refl _) (.cells #[.bool false, .slice az kz cz] 29)
  have bb := below_then hb b1
  have e23 := hb.size
  simp only [World.size_alloc] at e23
  have r8 := rangeAt_below R8b.out bb (by simp; omega)
  have r10 := rangeAt_below R10.out bb (by simp)
  have X4 := Lib.hid (X3.out.call bb)
  have X4s := Lib.hid (show w.heap.size + 3 ≤ w3.heap.size by have := X3.out.size; simp only [World.size_alloc] at this; omega)
  have L8 := Lib.hid (L8b.out.below bb)
  have L10b := Lib.hid (L10.out.below bb)
  have R12 := Lib.hid (rangeAt_new w3 [.bool false, .slice az kz cz] 29)
  have L12 := Lib.hid (lz.below b1)
  have F12 := Lib.hid (show ∀ b off, az = some ⟨b, off, none⟩ → b < w3.heap.size from fun b off e => by
    have hk : 0 < kz := by have := (canon_lenpos dd).2 D0.out; have := lz.len; omega
    obtain ⟨b', off', e', lt, -⟩ := lz.row hk
    rw [e'] at e; cases e; exact lt)
  clear c0 c1 d0 d1
  have c0 := r8 0 _ rfl
  have c1 := r8 1 _ rfl
  have d0 := r10 0 _ rfl
  have d1 := r10 1 _ rfl
  simp only [Nat.zero_add] at c0 c1 d0 d1
  have R8 := Lib.hid r8
  have R10b := Lib.hid r10
  have aw := AW.out _ _ _ (wideN L8.out (fun _ _ _ => Nat.zero_le _)) (wideN L10b.out (fun _ _ _ => Nat.zero_le _))
  clear hV hb lz b1 bb r8 r10 X3 M3 R8b L8b R10 L10 AW
  go_wp2_with fail
  refine aw.mono ?_
  rintro en w4 ⟨V, rfl, hV, hb⟩
  obtain ⟨a4, k4, c4, rfl, -, -⟩ := wideN_inv (p := x + y) hV
  have b1 := (Below.refl _ w4).alloc (Nat.le_refl _) (.cells #[.bool false, .slice a4 k4 c4] 29)
  have bb := below_then hb b1
  have e34 := hb.size
  simp only [World.size_alloc] at e34
  have r8 := rangeAt_below R8.out bb (by simp; omega)
  have r10 := rangeAt_below R10b.out bb (by simp; omega)
  have r12 := rangeAt_below R12.out bb (by simp)
  have X5 := Lib.hid (X4.out.call bb)
  have L8c := L8.out.below bb
  have L10c := L10b.out.below bb
  have L12b := Lib.hid (L12.out.below bb)
  have T14 := Lib.hid (there_new w4 #[.bool false, .slice a4 k4 c4] 29 2 (by simp))
  clear c0 c1 d0 d1
  have c0 := r8 0 _ rfl
  have c1 := r8 1 _ rfl
  have d0 := r10 0 _ rfl
  have d1 := r10 1 _ rfl
  simp only [Nat.zero_add] at c0 c1 d0 d1
  have R12b := Lib.hid r12
  have sw := SW.out _ _ _ (wideN L8c (fun _ _ _ => Nat.zero_le _)) (wideN L10c (fun _ _ _ => Nat.zero_le _))
  clear hV hb b1 bb r8 r10 r12 L8c L10c X4 aw R8 R10b R12 L8 L10b L12 SW
  go_wp2_with fail
  refine sw.mono ?_
  rintro en w5 ⟨V, rfl, ⟨a5, k5, c5, rfl, l5, f5⟩, hb⟩
  have e45 := hb.size
  simp only [World.size_alloc] at e45 f5
  have X6 := X5.out.call hb
  have t14 := there_below T14.out hb (by simp)
  have r12 := rangeAt_below R12b.out hb (by simp; omega)
  have l12 := L12b.out.below hb
  have f12 : ∀ b off, az = some ⟨b, off, none⟩ → b ≠ w4.heap.size := fun b off e => by have := F12.out b off e; omega
  have q0 := cellOf_some (t14 0 (by omega)).1
  have q1 := cellOf_some (t14 1 (by omega)).1
  have u0 := (t14 0 (by omega)).2
  have u1 := (t14 1 (by omega)).2
  generalize hb5 : decide ((x : Int) - (y : Int) < 0) = b5 at *
  have g4 : w.heap.size + 3 ≤ w4.heap.size := by have := X4s.out; omega
  have x0 : ((w5.setCell ⟨w4.heap.size, 0, none⟩ (.bool b5)).setCell ⟨w4.heap.size, 1, none⟩ (.slice a5 k5 c5)).cell? ⟨w4.heap.size, 0, none⟩ = some (.bool b5) := (World.cell?_setCell_other _ _ _ _ (by simp)).trans (World.cell?_setCell_same' _ _ _ (by rw [q0]; rfl))
  have x1 : ((w5.setCell ⟨w4.heap.size, 0, none⟩ (.bool b5)).setCell ⟨w4.heap.size, 1, none⟩ (.slice a5 k5 c5)).cell? ⟨w4.heap.size, 1, none⟩ = some (.slice a5 k5 c5) := World.cell?_setCell_same' _ _ _ (by rw [World.cell?_setCell_other _ _ _ _ (by simp), q1]; rfl)
  have y0 : ((w5.setCell ⟨w4.heap.size, 0, none⟩ (.bool b5)).setCell ⟨w4.heap.size, 1, none⟩ (.slice a5 k5 c5)).cell? ⟨w3.heap.size, 0, none⟩ = some (.bool false) := ((World.cell?_setCell_other _ _ _ _ (by simp <;> omega)).trans (World.cell?_setCell_other _ _ _ _ (by simp <;> omega))).trans (by simpa using r12 0 _ rfl)
  have y1 : ((w5.setCell ⟨w4.heap.size, 0, none⟩ (.bool b5)).setCell ⟨w4.heap.size, 1, none⟩ (.slice a5 k5 c5)).cell? ⟨w3.heap.size, 1, none⟩ = some (.slice az kz cz) := ((World.cell?_setCell_other _ _ _ _ (by simp <;> omega)).trans (World.cell?_setCell_other _ _ _ _ (by simp <;> omega))).trans (by simpa using r12 1 _ rfl)
  have X7 := Lib.hid ((X6.set g4 0 (.bool b5)).set g4 1 (.slice a5 k5 c5))
  have L5 := (l5.grown (grownBy_set2 w5 w4.heap.size 0 (.bool b5)) (fun b off e => by have := f5 b off e; omega)).grown (grownBy_set2 _ w4.heap.size 1 (.slice a5 k5 c5)) (fun b off e => by have := f5 b off e; omega)
  have LZ := (l12.grown (grownBy_set2 w5 w4.heap.size 0 (.bool b5)) f12).grown (grownBy_set2 _ w4.heap.size 1 (.slice a5 k5 c5)) f12
  have rw' := RW.out _ _ _ (⟨a5, k5, c5, by rw [hb5], L5, fun _ _ _ => Nat.zero_le _⟩ : Wide 0 ((w5.setCell ⟨w4.heap.size, 0, none⟩ (.bool b5)).setCell ⟨w4.heap.size, 1, none⟩ (.slice a5 k5 c5)) (.agg #[.bool b5, .slice a5 k5 c5]) ((x : Int) - (y : Int))) (wideN LZ (fun _ _ _ => Nat.zero_le _))
  clear X6 t14 r12 l12 f12 l5 f5 hb L5 LZ X5 T14 R12b L12b F12 sw RW c0 c1 d0 d1
  go_wp2_with fail
  generalize ((w5.setCell ⟨w4.heap.size, 0, none⟩ (.bool b5)).setCell ⟨w4.heap.size, 1, none⟩ (.slice a5 k5 c5)) = W7 at *
  refine rw'.mono ?_
  rintro en w9 ⟨V9, rfl, ⟨aq, kq, cq, aq2, kq2, cq2, rfl, m1, m2, n1, n2⟩, hb9⟩
  have g7 := X7.out.size
  have X9 := X7.out.call hb9
  have v0 := cellOf_some (X9.th 0 (by omega)).1
  have v1 := cellOf_some (X9.th 1 (by omega)).1
  have v2 := cellOf_some (X9.th 2 (by omega)).1
  have v3 := cellOf_some (X9.th 3 (by omega)).1
  have o0 := (X9.th 0 (by omega)).2
  have o1 := (X9.th 1 (by omega)).2
  have o2 := (X9.th 2 (by omega)).2
  have o3 := (X9.th 3 (by omega)).2
  generalize hP : sgn b5 (((x : Int) - (y : Int)).natAbs / Nat.gcd ((x : Int) - (y : Int)).natAbs dd) = P at *
  generalize hbp : decide (P < 0) = bp at *
  have G : FracZ w.heap.size (w9.setCells (w.heap.size + 2) 0 [.bool bp, .slice aq kq cq, .bool false, .slice aq2 kq2 cq2]) (.agg #[.bool bp, .slice aq kq cq, .bool false, .slice aq2 kq2 cq2]) P (dd / Nat.gcd ((x : Int) - (y : Int)).natAbs dd) ∧ Below w.heap.size w (w9.setCells (w.heap.size + 2) 0 [.bool bp, .slice aq kq cq, .bool false, .slice aq2 kq2 cq2]) :=
    ⟨⟨aq, kq, cq, aq2, kq2, cq2, by rw [hbp], m1.setCells (fun b off e => by have := n1 b off e; omega) _ _, m2.setCells (fun b off e => by have := n2 b off e; omega) _ _, fun b off e => by have := n1 b off e; omega, fun b off e => by have := n2 b off e; omega⟩, below_setCells _ (by omega) _ _ _ X9.below⟩
  have hr := World.rangeAt_setCells_same w9 (w.heap.size + 2) 0 [.bool bp, .slice aq kq cq, .bool false, .slice aq2 kq2 cq2] X9.th
  have GG := Lib.hid (And.intro hr (show MinPost x y dd w (.returned (.tuple #[.agg #[.bool bp, .slice aq kq cq, .bool false, .slice aq2 kq2 cq2], .int .i64 0])) (w9.setCells (w.heap.size + 2) 0 [.bool bp, .slice aq kq cq, .bool false, .slice aq2 kq2 cq2]) from ⟨_, rfl, by rw [hb5, hP]; exact G.1, G.2⟩))
  clear hr G X9 m1 m2 n1 n2 hb9 rw' X7 hP hbp hb5 x0 x1 y0 y1 q0 q1 u0 u1
  go_wp2_with fail
  exact bodyPost_ret (ret_cell_tmp Tryz.results55 _ _ (w.heap.size + 2) [.bool bp, .slice aq kq cq, .bool false, .slice aq2 kq2 cq2] _ rfl GG.out.1 Tryz.underlying31 rfl infoF) rfl GG.out.2
end Wd
end Go.Proofs.YtmgehfakcnmdnaaGreatDoor
/-
  The walk of MomentDays: Julian dates grow evenly, for any two times.
-/
namespace Go.Proofs.YtmgehfakcnmdnaaGreatDoor
namespace Wd
open Go.RowKit Lw Go.Proofs.YtmgehfakcnmdnaaGreatDoor.Mp Go.Proofs.YtmgehfakcnmdnaaGreatDoor.Mw Go.Proofs.YtmgehfakcnmdnaaGreatDoor.At Go.Proofs.YtmgehfakcnmdnaaGreatDoor.Ap

theorem tab_days {W : World} (hL : laidMet Tryz.prog Rows.momentDaysRow.laid W) : At.Tab W :=
  Lib.tabIs_of_head (rest := []) (t := 180) (e := 65) (n := 20) At.gPow (by kernel_rfl) (by kernel_rfl) (by kernel_rfl) (by kernel_rfl) (by kernel_rfl) (laidMet_tail (laidMet_tail hL))
/-! ### Reduced fractions -/
theorem red_nat {n1 d1 n2 d2 : Nat} (h1 : 0 < d1) (h2 : 0 < d2) (e : n1 * d2 = n2 * d1) : n1 / Nat.gcd n1 d1 = n2 / Nat.gcd n2 d2 ∧ d1 / Nat.gcd n1 d1 = d2 / Nat.gcd n2 d2 := by
  have g1 : 0 < Nat.gcd n1 d1 := Nat.gcd_pos_of_pos_right _ h1
  have g2 : 0 < Nat.gcd n2 d2 := Nat.gcd_pos_of_pos_right _ h2
  have c1 := Nat.coprime_div_gcd_div_gcd g1
  have c2 := Nat.coprime_div_gcd_div_gcd g2
  have a1 := Nat.div_mul_cancel (Nat.gcd_dvd_left n1 d1)
  have b1 := Nat.div_mul_cancel (Nat.gcd_dvd_right n1 d1)
  have a2 := Nat.div_mul_cancel (Nat.gcd_dvd_left n2 d2)
  have b2 := Nat.div_mul_cancel (Nat.gcd_dvd_right n2 d2)
  generalize Nat.gcd n1 d1 = G at *
  generalize Nat.gcd n2 d2 = H at *
  generalize n1 / G = a at *
  generalize d1 / G = b at *
  generalize n2 / H = c at *
  generalize d2 / H = f at *
  have k : a * f = c * b := by
    have e1 : (a * f) * (G * H) = (c * b) * (G * H) := by
      calc (a * f) * (G * H) = (a * G) * (f * H) := by ac_rfl
        _ = n1 * d2 := by rw [a1, b2]
        _ = n2 * d1 := e
        _ = (c * H) * (b * G) := by rw [a2, b1]
        _ = (c * b) * (G * H) := by ac_rfl
    exact Nat.eq_of_mul_eq_mul_right (Nat.mul_pos g1 g2) e1
  have b0 : 0 < b := by
    rcases Nat.eq_zero_or_pos b with h | h
    · subst h; omega
    · exact h
  have d1' : b ∣ f := (Nat.Coprime.dvd_of_dvd_mul_left (Nat.Coprime.symm c1) ⟨c, by rw [k, Nat.mul_comm]⟩)
  have d2' : f ∣ b := (Nat.Coprime.dvd_of_dvd_mul_left (Nat.Coprime.symm c2) ⟨a, by rw [← k, Nat.mul_comm]⟩)
  have bf : b = f := Nat.dvd_antisymm d1' d2'
  subst bf
  exact ⟨Nat.eq_of_mul_eq_mul_right b0 k, rfl⟩
theorem red_int {z1 z2 : Int} {d1 d2 : Nat} (h1 : 0 < d1) (h2 : 0 < d2) (e : z1 * d2 = z2 * d1) :
    sgn (decide (z1 < 0)) (z1.natAbs / Nat.gcd z1.natAbs d1) = sgn (decide (z2 < 0)) (z2.natAbs / Nat.gcd z2.natAbs d2) ∧ d1 / Nat.gcd z1.natAbs d1 = d2 / Nat.gcd z2.natAbs d2 := by
  have en : z1.natAbs * d2 = z2.natAbs * d1 := by
    have := congrArg Int.natAbs e
    rwa [Int.natAbs_mul, Int.natAbs_mul, Int.natAbs_natCast, Int.natAbs_natCast] at this
  obtain ⟨r1, r2⟩ := red_nat h1 h2 en
  have es : (z1 < 0) ↔ (z2 < 0) := by
    constructor
    · intro h
      rcases Int.lt_or_le z2 0 with g | g
      · exact g
      · have := Int.mul_neg_of_neg_of_pos h (show (0 : Int) < (d2 : Int) by omega)
        have := Int.mul_nonneg g (show (0 : Int) ≤ (d1 : Int) by omega)
        omega
    · intro h
      rcases Int.lt_or_le z1 0 with g | g
      · exact g
      · have := Int.mul_neg_of_neg_of_pos h (show (0 : Int) < (d1 : Int) by omega)
        have := Int.mul_nonneg g (show (0 : Int) ≤ (d2 : Int) by omega)
        omega
  rw [r1, decide_eq_decide.2 es]
  exact ⟨rfl, r2⟩
/-- The numbers of a Julian date. -/
structure JN (t : Int) (p q : Nat) : Prop where
  p0 : 0 < p
  q0 : 0 < q
  pl : p < 18446744073709551616
  ql : q < 18446744073709551616
  co : Nat.gcd p q = 1
  eq : ∃ g : Nat, 0 < g ∧ ((p * g : Nat) : Int) = 211813488000000000 + t ∧ q * g = 86400000000
theorem JN.of {t : Int} (h0 : -5000000000000000 ≤ t) (h1 : t ≤ 5000000000000000) : JN t (jdN t / Nat.gcd (jdN t) 86400000000) (86400000000 / Nat.gcd (jdN t) 86400000000) := by
  have ej := jdN_int h0
  have g0 : 0 < Nat.gcd (jdN t) 86400000000 := Nat.gcd_pos_of_pos_right _ (by omega)
  have a1 := Nat.div_mul_cancel (Nat.gcd_dvd_left (jdN t) 86400000000)
  have b1 := Nat.div_mul_cancel (Nat.gcd_dvd_right (jdN t) 86400000000)
  refine ⟨?_, ?_, ?_, ?_, Nat.coprime_div_gcd_div_gcd g0, _, g0, by rw [a1]; exact ej, b1⟩
  · rcases Nat.eq_zero_or_pos (jdN t / Nat.gcd (jdN t) 86400000000) with h | h
    · rw [h] at a1; omega
    · exact h
  · rcases Nat.eq_zero_or_pos (86400000000 / Nat.gcd (jdN t) 86400000000) with h | h
    · rw [h] at b1; omega
    · exact h
  · exact Nat.lt_of_le_of_lt (Nat.div_le_self _ _) (by omega)
  · exact Nat.lt_of_le_of_lt (Nat.div_le_self _ _) (by omega)
theorem JN.cross {t u : Int} {pa qa pb qb : Nat} (a : JN t pa qa) (b : JN u pb qb) : (((pb * qa : Nat) : Int) - ((pa * qb : Nat) : Int)) * ((86400000000 : Nat) : Int) = (u - t) * ((qb * qa : Nat) : Int) := by
  obtain ⟨g, g0, e1, e2⟩ := a.eq
  obtain ⟨h, h0, f1, f2⟩ := b.eq
  have k : (g : Int) * h ≠ 0 := by
    have := Int.mul_pos (show (0 : Int) < g by omega) (show (0 : Int) < h by omega)
    omega
  have e2' : (qa : Int) * g = 86400000000 := by rw [← Int.natCast_mul, e2]; rfl
  have f2' : (qb : Int) * h = 86400000000 := by rw [← Int.natCast_mul, f2]; rfl
  rw [Int.natCast_mul] at e1 f1
  have ut : u - t = (pb : Int) * h - (pa : Int) * g := by omega
  apply Int.eq_of_mul_eq_mul_right k
  rw [Int.natCast_mul, Int.natCast_mul, Int.natCast_mul, ut]
  have D : ((86400000000 : Nat) : Int) = (qa : Int) * g := by rw [e2']; rfl
  have l : ((pb : Int) * qa - pa * qb) * ((86400000000 : Nat) : Int) * (g * h) = ((pb : Int) * h * (qa * g) - pa * g * (qb * h)) * ((86400000000 : Nat) : Int) := by
    rw [Int.sub_mul, Int.sub_mul, Int.sub_mul]
    congr 1 <;> ac_rfl
  have r : ((pb : Int) * h - pa * g) * ((qb : Int) * qa) * (g * h) = ((pb : Int) * h - pa * g) * ((qb * h) * (qa * g)) := by ac_rfl
  rw [l, r, e2', f2', ← Int.sub_mul]
  rw [Int.mul_assoc]
  rfl
theorem JN.lens {t u : Int} {pa qa pb qb : Nat} (a : JN t pa qa) (b : JN u pb qb) : (canon pa).length ≤ 2 ∧ (canon qa).length ≤ 2 ∧ (canon (pa * qb)).length ≤ 4000 ∧ (canon (qa * qb)).length ≤ 4000 := by
  have h : ∀ x y : Nat, x < 18446744073709551616 → y < 18446744073709551616 → (canon (x * y)).length ≤ 4000 := fun x y hx hy => by
    have : x * y < 4294967296 ^ 4 := Nat.lt_of_lt_of_le (Nat.mul_lt_mul'' hx hy) (by decide)
    exact Nat.le_trans (canon_len 4 _ this) (by omega)
  exact ⟨len2 a.pl, len2 a.ql, h _ _ a.pl b.ql, h _ _ a.ql b.ql⟩
set_option maxRecDepth 100000 in
set_option maxHeartbeats 4000000 in
theorem rminusF_walk (a a' d d' : Option Addr) (k c k' c' l e l' e' pa qa pb qb : Nat) (w : World) (hA : Lim w a k c (canon pa)) (hA' : Lim w a' k' c' (canon qa)) (hD : Lim w d l e (canon pb)) (hD' : Lim w d' l' e' (canon qb))
    (p1 : 0 < pa) (p2 : 0 < qa) (p3 : 0 < pb) (p4 : 0 < qb) (s1 : k ≤ 1000) (s2 : k' ≤ 1000) (s3 : l ≤ 1000) (s4 : l' ≤ 1000) (hx : (canon (pa * qb)).length ≤ 4000) (hy : (canon (pb * qa)).length ≤ 4000) (hd : (canon (qa * qb)).length ≤ 4000) :
    Calls Tryz.prog 21 #[.agg #[.bool false, .slice a k c, .bool false, .slice a' k' c'], .agg #[.bool false, .slice d l e, .bool false, .slice d' l' e']] w (MinPost (pa * qb) (pb * qa) (qa * qb) w) := by
  have X0 := Lib.hid (FX.new w (frL a k c a' k' c') (frL d l e d' l' e'))
  have AW := Lib.hid (fun w' (hb : Below w.heap.size w w') => radded_walk a a' d d' k c k' c' l e l' e' pa qa pb qb w' (hA.below hb) (hA'.below hb) (hD.below hb) (hD'.below hb) p1 p2 p3 p4 s1 s2 s3 s4 hx hy hd)
  clear hA hA' hD hD' p1 p2 p3 p4 s1 s2 s3 s4 hx hy hd
  generalize pa * qb = x at *
  generalize pb * qa = y at *
  generalize qa * qb = dd at *
  go_enter Tryz.func21, Tryz.ntmps21
  go_wp2_with fail
  refine (AW.out _ X0.out.below).mono ?_
  rintro en w9 ⟨V9, rfl, ⟨aq, kq, cq, aq2, kq2, cq2, rfl, m1, m2, n1, n2⟩, hb9⟩
  have g7 := X0.out.size
  have X9 := X0.out.call hb9
  have v0 := cellOf_some (X9.th 0 (by omega)).1
  have v1 := cellOf_some (X9.th 1 (by omega)).1
  have v2 := cellOf_some (X9.th 2 (by omega)).1
  have v3 := cellOf_some (X9.th 3 (by omega)).1
  have o0 := (X9.th 0 (by omega)).2
  have o1 := (X9.th 1 (by omega)).2
  have o2 := (X9.th 2 (by omega)).2
  have o3 := (X9.th 3 (by omega)).2
  generalize hP : sgn (decide ((x : Int) - (y : Int) < 0)) (((x : Int) - (y : Int)).natAbs / Nat.gcd ((x : Int) - (y : Int)).natAbs dd) = P at *
  generalize hbp : decide (P < 0) = bp at *
  have G : FracZ w.heap.size (w9.setCells (w.heap.size + 2) 0 [.bool bp, .slice aq kq cq, .bool false, .slice aq2 kq2 cq2]) (.agg #[.bool bp, .slice aq kq cq, .bool false, .slice aq2 kq2 cq2]) P (dd / Nat.gcd ((x : Int) - (y : Int)).natAbs dd) ∧ Below w.heap.size w (w9.setCells (w.heap.size + 2) 0 [.bool bp, .slice aq kq cq, .bool false, .slice aq2 kq2 cq2]) :=
    ⟨⟨aq, kq, cq, aq2, kq2, cq2, by rw [hbp], m1.setCells (fun b off e => by have := n1 b off e; omega) _ _, m2.setCells (fun b off e => by have := n2 b off e; omega) _ _, fun b off e => by have := n1 b off e; omega, fun b off e => by have := n2 b off e; omega⟩, below_setCells _ (by omega) _ _ _ X9.below⟩
  have hr := World.rangeAt_setCells_same w9 (w.heap.size + 2) 0 [.bool bp, .slice aq kq cq, .bool false, .slice aq2 kq2 cq2] X9.th
  have GG := Lib.hid (And.intro hr (show MinPost x y dd w (.returned (.tuple #[.agg #[.bool bp, .slice aq kq cq, .bool false, .slice aq2 kq2 cq2], .int .i64 0])) (w9.setCells (w.heap.size + 2) 0 [.bool bp, .slice aq kq cq, .bool false, .slice aq2 kq2 cq2]) from ⟨_, rfl, by rw [hP]; exact G.1, G.2⟩))
  clear hr G X9 m1 m2 n1 n2 hb9 X0 hP hbp AW
  go_wp2_with fail
  exact bodyPost_ret (ret_cell_tmp Tryz.results21 _ _ (w.heap.size + 2) [.bool bp, .slice aq kq cq, .bool false, .slice aq2 kq2 cq2] _ rfl GG.out.1 Tryz.underlying31 rfl infoF) rfl GG.out.2
/-- Two Julian dates in their boxes. -/
structure JX2 (w0 : World) (f g : Nat) (a : Option Addr) (k c : Nat) (a' : Option Addr) (k' c' : Nat) (d : Option Addr) (l e : Nat) (d' : Option Addr) (l' e' : Nat) (pa qa pb qb : Nat) (w : World) : Prop where
  below : Below w0.heap.size w0 w
  lf : f < w.heap.size
  lg : g < w.heap.size
  ra : w.rangeAt f 0 (frL a k c a' k' c')
  rb : w.rangeAt g 0 (frL d l e d' l' e')
  l1 : Lim w a k c (canon pa)
  l2 : Lim w a' k' c' (canon qa)
  l3 : Lim w d l e (canon pb)
  l4 : Lim w d' l' e' (canon qb)
theorem JX2.call {w0 w w' : World} {f g : Nat} {a a' d d' : Option Addr} {k c k' c' l e l' e' pa qa pb qb : Nat} (h : JX2 w0 f g a k c a' k' c' d l e d' l' e' pa qa pb qb w) (hb : Below w.heap.size w w') : JX2 w0 f g a k c a' k' c' d l e d' l' e' pa qa pb qb w' :=
  ⟨below_then h.below hb, Nat.lt_of_lt_of_le h.lf hb.size, Nat.lt_of_lt_of_le h.lg hb.size, rangeAt_below h.ra hb h.lf, rangeAt_below h.rb hb h.lg, h.l1.below hb, h.l2.below hb, h.l3.below hb, h.l4.below hb⟩
set_option maxRecDepth 100000 in
set_option maxHeartbeats 16000000 in
theorem law_days (t u : Int) (w : World) (hT : At.Tab w) (h0 : -9223372036854775808 ≤ t) (h1 : t ≤ 9223372036854775807) (g0 : -9223372036854775808 ≤ u) (g1 : u ≤ 9223372036854775807) :
    Calls Tryz.prog 5 #[.int .i64 t, .int .i64 u] w fun e w' => e = .returned (.bool true) ∧ Below w.heap.size w w' := by
  have C1 := Lib.hid (fun w' => jd_walk t w' h0 (by omega))
  have C2 := Lib.hid (fun w' => jd_walk u w' g0 (by omega))
  have HT := Lib.hid hT
  clear hT h0 h1 g0 g1
  go_enter Tryz.func5, Tryz.ntmps5
  go_wp2_with fail
  refine (alive_any _ HT.out).mono ?_
  rintro en w1 ⟨rfl, hb⟩
  have B1 := Lib.hid hb
  clear hb HT
  go_wp2_with fail
  refine (C1.out _).mono ?_
  rintro en w2 ⟨hb, ⟨ht, rfl⟩ | ⟨ht, V, rfl, a, k, c, a', k', c', rfl, l1, l2, -, -⟩⟩
  · have B2 := Lib.hid (below_then B1.out hb)
    clear hb B1 C1 ht
    go_wp2_with fail
    refine (C2.out _).mono ?_
    rintro en w3 ⟨hb, ⟨ht, rfl⟩ | ⟨ht, V, rfl, d, l, e, d', l', e', rfl, l3, l4, -, -⟩⟩
    · have B3 := Lib.hid (below_then (below_then B2.out ((Below.refl _ w2).alloc (Nat.le_refl _) (.cells #[.bool false, .slice none 0 0, .bool false, .slice none 0 0] 31))) (below_then hb ((Below.refl _ w3).alloc (Nat.le_refl _) (.cells #[.bool false, .slice none 0 0, .bool false, .slice none 0 0] 31))))
      clear hb B2 C2 ht
      go_wp2_with fail
      go_ret
      exact ⟨rfl, B3.out⟩
    · have B3 := Lib.hid (below_then (below_then B2.out ((Below.refl _ w2).alloc (Nat.le_refl _) (.cells #[.bool false, .slice none 0 0, .bool false, .slice none 0 0] 31))) (below_then hb ((Below.refl _ w3).alloc (Nat.le_refl _) (.cells #[.bool false, .slice d l e, .bool false, .slice d' l' e'] 31))))
      clear hb B2 C2 ht l3 l4
      go_wp2_with fail
      go_ret
      exact ⟨rfl, B3.out⟩
  · have B2 := Lib.hid (below_then B1.out hb)
    have bA := (Below.refl _ w2).alloc (Nat.le_refl _) (.cells #[.bool false, .slice a k c, .bool false, .slice a' k' c'] 31)
    have JA := Lib.hid (JN.of ht.1 ht.2)
    have HTT := Lib.hid ht
    generalize jdN t / Nat.gcd (jdN t) 86400000000 = pa at *
    generalize 86400000000 / Nat.gcd (jdN t) 86400000000 = qa at *
    have L1 := Lib.hid (l1.below bA)
    have L2 := Lib.hid (l2.below bA)
    have RA := Lib.hid (rangeAt_new w2 (frL a k c a' k' c') 31)
    have B2b := Lib.hid (below_then B2.out bA)
    clear hb B1 C1 l1 l2 bA ht B2
    go_wp2_with fail
    refine (C2.out _).mono ?_
    rintro en w3 ⟨hb, ⟨ht, rfl⟩ | ⟨ht, V, rfl, d, l, e, d', l', e', rfl, l3, l4, -, -⟩⟩
    · have B3 := Lib.hid (below_then B2b.out (below_then hb ((Below.refl _ w3).alloc (Nat.le_refl _) (.cells #[.bool false, .slice none 0 0, .bool false, .slice none 0 0] 31))))
      clear hb B2b C2 ht L1 L2 RA JA HTT
      go_wp2_with fail
      go_ret
      exact ⟨rfl, B3.out⟩
    · have bA := (Below.refl _ w3).alloc (Nat.le_refl _) (.cells #[.bool false, .slice d l e, .bool false, .slice d' l' e'] 31)
      have b23 := below_then hb bA
      have JB := Lib.hid (JN.of ht.1 ht.2)
      have HTU := Lib.hid ht
      generalize jdN u / Nat.gcd (jdN u) 86400000000 = pb at *
      generalize 86400000000 / Nat.gcd (jdN u) 86400000000 = qb at *
      have e23 := hb.size
      simp only [World.size_alloc] at e23
      have x3 : JX2 w w2.heap.size w3.heap.size a k c a' k' c' d l e d' l' e' pa qa pb qb (w3.alloc (.cells #[.bool false, .slice d l e, .bool false, .slice d' l' e'] 31)) :=
        ⟨below_then B2b.out b23, by simp; omega, by simp, rangeAt_below RA.out b23 (by simp), rangeAt_new w3 (frL d l e d' l' e') 31, L1.out.below b23, L2.out.below b23, l3.below bA, l4.below bA⟩
      have ja := JA.out
      have jb := JB.out
      obtain ⟨n1, n2, n3, n4⟩ := ja.lens jb
      obtain ⟨n5, n6, n7, n8⟩ := jb.lens ja
      have s1 := x3.l1.len
      have s2 := x3.l2.len
      have s3 := x3.l3.len
      have s4 := x3.l4.len
      have K1 := Lib.hid (fun w' (X : JX2 w w2.heap.size w3.heap.size a k c a' k' c' d l e d' l' e' pa qa pb qb w') => rfcheck_walk a a' k c k' c' pa qa w' X.l1 X.l2 ja.q0 ja.co (by omega) (by omega))
      have K2 := Lib.hid (fun w' (X : JX2 w w2.heap.size w3.heap.size a k c a' k' c' d l e d' l' e' pa qa pb qb w') => rfcheck_walk d d' l e l' e' pb qb w' X.l3 X.l4 jb.q0 jb.co (by omega) (by omega))
      have K3 := Lib.hid (fun w' (X : JX2 w w2.heap.size w3.heap.size a k c a' k' c' d l e d' l' e' pa qa pb qb w') => rminusF_walk d d' a a' l e l' e' k c k' c' pb qb pa qa w' X.l3 X.l4 X.l1 X.l2 jb.p0 jb.q0 ja.p0 ja.q0 (by omega) (by omega) (by omega) (by omega) n7 n3 n8)
      have M1 := Lib.hid (show max (k : Int) (k' : Int) ≤ 10 by omega)
      have M2 := Lib.hid (show max (l : Int) (l' : Int) ≤ 10 by omega)
      have CR := Lib.hid (red_int (z1 := ((pb * qa : Nat) : Int) - ((pa * qb : Nat) : Int)) (z2 := u - t) (d1 := qb * qa) (d2 := 86400000000) (Nat.mul_pos jb.q0 ja.q0) (by omega) (ja.cross jb))
      have X3 := Lib.hid x3
      have c0 := x3.ra 0 _ rfl
      have c1 := x3.ra 1 _ rfl
      have c2 := x3.ra 2 _ rfl
      have c3 := x3.ra 3 _ rfl
      simp only [Nat.zero_add] at c0 c1 c2 c3
      have lt2 : w2.heap.size < w3.heap.size := by omega
      clear hb bA b23 l3 l4 x3 ja jb n1 n2 n3 n4 n5 n6 n7 n8 s1 s2 s3 s4 JA JB ht C2 B2b L1 L2 RA
      generalize pb * qa = x at *
      generalize pa * qb = y at *
      generalize qb * qa = dd at *
      go_wp2_with fail
      refine (K1.out _ X3.out).mono ?_
      rintro en w4 ⟨rfl, hb⟩
      have x4 := X3.out.call hb
      have c0 := x4.rb 0 _ rfl
      have c1 := x4.rb 1 _ rfl
      have c2 := x4.rb 2 _ rfl
      have c3 := x4.rb 3 _ rfl
      simp only [Nat.zero_add] at c0 c1 c2 c3
      have X4 := Lib.hid x4
      clear hb x4 X3 K1 lt2
      go_wp2_with fail
      refine (K2.out _ X4.out).mono ?_
      rintro en w5 ⟨rfl, hb⟩
      have x5 := X4.out.call hb
      have c0 := x5.ra 0 _ rfl
      have c1 := x5.ra 1 _ rfl
      have c2 := x5.ra 2 _ rfl
      have c3 := x5.ra 3 _ rfl
      simp only [Nat.zero_add] at c0 c1 c2 c3
      have X5 := Lib.hid x5
      clear hb x5 X4 K2
      go_wp2_with fail
      refine (rfew_walk _ _ _ _ _ _ _).mono ?_
      rintro en w6 ⟨rfl, hb⟩
      have x6 := X5.out.call hb
      have c0 := x6.rb 0 _ rfl
      have c1 := x6.rb 1 _ rfl
      have c2 := x6.rb 2 _ rfl
      have c3 := x6.rb 3 _ rfl
      simp only [Nat.zero_add] at c0 c1 c2 c3
      have X6 := Lib.hid x6
      have m1 := M1.out
      generalize max (k : Int) (k' : Int) = mm at *
      clear hb x6 X5 M1
      go_wp2_with fail
      refine (rfew_walk _ _ _ _ _ _ _).mono ?_
      rintro en w7 ⟨rfl, hb⟩
      have x7 := X6.out.call hb
      have c0 := x7.rb 0 _ rfl
      have c1 := x7.rb 1 _ rfl
      have c2 := x7.rb 2 _ rfl
      have c3 := x7.rb 3 _ rfl
      have d0 := x7.ra 0 _ rfl
      have d1 := x7.ra 1 _ rfl
      have d2 := x7.ra 2 _ rfl
      have d3 := x7.ra 3 _ rfl
      simp only [Nat.zero_add] at c0 c1 c2 c3 d0 d1 d2 d3
      have X7 := Lib.hid x7
      have m2 := M2.out
      generalize max (l : Int) (l' : Int) = mm2 at *
      clear hb x7 X6 M2
      go_wp2_with fail
      refine (K3.out _ X7.out).mono ?_
      rintro en w8 ⟨V, rfl, ⟨p1, i1, j1, p2, i2, j2, rfl, l5, l6, -, -⟩, hb⟩
      have cr1 := CR.out.1
      have cr2 := CR.out.2
      have ut1 : -10000000000000000 ≤ u - t ∧ u - t ≤ 10000000000000000 := by have := HTT.out; have := HTU.out; omega
      generalize hz : u - t = z at *
      have Hz := Lib.hid hz
      have wz : IntKind.i64.wrap z = z := IntWalk.i64_in _ (by omega)
      obtain ⟨P, eP⟩ : ∃ P, sgn (decide (z < 0)) (z.natAbs / Nat.gcd z.natAbs 86400000000) = P := ⟨_, rfl⟩
      obtain ⟨Q, eQ⟩ : ∃ Q, 86400000000 / Nat.gcd z.natAbs 86400000000 = Q := ⟨_, rfl⟩
      rw [cr1, eP] at l5
      rw [cr2, eQ] at l6
      have bA := (Below.refl _ w8).alloc (Nat.le_refl _) (.cells #[.bool (decide (P < 0)), .slice p1 i1 j1, .bool false, .slice p2 i2 j2] 31)
      have X8 := Lib.hid (X7.out.call (below_then hb bA))
      have L5 := Lib.hid (l5.below bA)
      have L6 := Lib.hid (l6.below bA)
      have R8 := Lib.hid (rangeAt_new w8 [.bool (decide (P < 0)), .slice p1 i1 j1, .bool false, .slice p2 i2 j2] 31)
      have F1 := Lib.hid (fun w' => rfrom_walk z w' (by omega) (by omega))
      have F2 := Lib.hid (fun w' => rfrom_walk 86400000000 w' (by omega) (by omega))
      have RW := Lib.hid (fun w' V1 V2 (h1 : Wide 0 w' V1 z) (h2 : Wide 0 w' V2 ((86400000000 : Nat) : Int)) => rreducedg_walk V1 V2 z 86400000000 w' h1 h2 (by omega) (by have := len2 (n := z.natAbs) (by omega); omega) (by have := len2 (n := 86400000000) (by decide); omega))
      rw [eP, eQ] at RW
      rw [cr1, eP]
      clear hb bA l5 l6 X7 K3 c0 c1 c2 c3 d0 d1 d2 d3 cr1 cr2 CR HTT HTU ut1 eP eQ
      generalize hdp : decide (P < 0) = bp at *
      have Hdp := Lib.hid hdp
      clear hdp
      go_wp2_with fail
      refine (F1.out _).mono ?_
      rintro en w9 ⟨V9, rfl, hV9, hb⟩
      have X9 := Lib.hid (X8.out.call hb)
      have r9 := rangeAt_below R8.out hb (by simp)
      have R9 := Lib.hid r9
      have L5b := Lib.hid (L5.out.below hb)
      have L6b := Lib.hid (L6.out.below hb)
      have HV9 := Lib.hid (hV9.mono (Nat.zero_le _))
      have e89 := hb.size
      simp only [World.size_alloc] at e89
      clear hb X8 R8 r9 L5 L6 hV9 F1 hz wz
      go_wp2_with fail
      refine (F2.out _).mono ?_
      rintro en w10 ⟨V10, rfl, hV10, hb⟩
      have X10 := Lib.hid (X9.out.call hb)
      have R10 := Lib.hid (rangeAt_below R9.out hb (by omega))
      have L5 := Lib.hid (L5b.out.below hb)
      have L6 := Lib.hid (L6b.out.below hb)
      have rw' := RW.out _ _ _ (HV9.out.below hb) (hV10.mono (Nat.zero_le _))
      have e910 := hb.size
      clear hb X9 R9 L5b L6b hV10 F2 RW HV9
      go_wp2_with fail
      refine rw'.mono ?_
      rintro en w11 ⟨V11, rfl, ⟨q1, i3, j3, q2, i4, j4, rfl, l7, l8, -, -⟩, hb⟩
      have bA := (Below.refl _ w11).alloc (Nat.le_refl _) (.cells #[.bool (decide (P < 0)), .slice q1 i3 j3, .bool false, .slice q2 i4 j4] 31)
      have bb := below_then hb bA
      have X11 := Lib.hid (X10.out.call bb)
      have r10 := rangeAt_below R10.out bb (by omega)
      have e1011 := hb.size
      have SM := Lib.hid (rfsame_walk _ _ P P Q Q _ (⟨p1, i1, j1, p2, i2, j2, rfl, L5.out.below bb, L6.out.below bb, fun _ _ _ => Nat.zero_le _, fun _ _ _ => Nat.zero_le _⟩ : FracZ 0 _ _ P Q) (⟨q1, i3, j3, q2, i4, j4, rfl, l7.below bA, l8.below bA, fun _ _ _ => Nat.zero_le _, fun _ _ _ => Nat.zero_le _⟩ : FracZ 0 _ _ P Q))
      simp only [and_self, decide_true] at SM
      rw [Hdp.out] at SM bA ⊢
      have c0 := r10 0 _ rfl
      have c1 := r10 1 _ rfl
      have c2 := r10 2 _ rfl
      have c3 := r10 3 _ rfl
      simp only [Nat.zero_add] at c0 c1 c2 c3
      rw [Hdp.out] at X11 c0 c1 c2 c3
      clear hb bA bb r10 X10 R10 L5 L6 l7 l8 rw'
      go_wp2_with fail
      refine SM.out.mono ?_
      rintro en w12 ⟨rfl, hb⟩
      have X12 := Lib.hid (X11.out.call hb)
      clear hb X11 SM c0 c1 c2 c3
      go_wp2_with fail
      go_ret
      exact ⟨rfl, X12.out.below⟩
end Wd
end Go.Proofs.YtmgehfakcnmdnaaGreatDoor
