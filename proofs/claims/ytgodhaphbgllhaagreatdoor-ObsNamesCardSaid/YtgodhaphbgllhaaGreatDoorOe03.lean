/-
  Lemmas and walks, texts joined: ORSort, ORPrAll, OFiles, OSlice.
-/
import Derived.Deep.Slices
import Derived.Deep.Fields
import Derived.ChangeSame
import Derived.OpenShut
import Derived.Test.YtgodhaphbgllhaaGreatDoorOe02
import Derived.Test.YtgodhaphbgllhaaGreatDoorOe01
import Derived.Test.YtgodhaphbgllhaaGreatDoorOa02
set_option linter.unusedSimpArgs false
set_option linter.unusedVariables false
/-
  The walk of Sort of the reference.
-/
namespace Go.Proofs.YtgodhaphbgllhaaGreatDoor
namespace Ow
open Go.RowKit Lw Go.Proofs.YtgodhaphbgllhaaGreatDoor.Ap Go.Proofs.YtgodhaphbgllhaaGreatDoor.Op Go.Proofs.YtgodhaphbgllhaaGreatDoor.Mp Go.Proofs.YtgodhaphbgllhaaGreatDoor.Mw Go.Proofs.YtgodhaphbgllhaaGreatDoor.At

theorem wanted_go {c A B : Prop} [Decidable c] (hc : c) (h : A) : if c then A else B := by rw [if_pos hc]; exact h
theorem infoA (q : Ob) : (Tryz.prog.info? 23).map (·.size) = some (obsC q).toArray.size := info8
theorem there_A {w : World} {b o : Nat} (q : Ob) (h : w.there b o 8) : w.there b o (obsC q).toArray.size := h
/-- One store of an observation, as a step of a region that draws. -/
theorem store_O {op : Oper} {a : Act} {w : World} {K : Act → World → Prop} {Q : Exit → Act → World → Prop} (x y : Operand) (ho : op.op = .store 23 x y) (b o : Nat) (q : Ob) (hx : a.eval x = .pointer (some ⟨b, o, none⟩)) (hy : a.eval y = .agg (obsC q).toArray) (ht : w.there b o 8)
    (h : K (a.put op.dst undef) (w.setCells b o (obsC q))) : op.wp Tryz.prog a w K Q := wp_store_mid 23 x y ho b o (obsC q).toArray hx hy (there_A q ht) (infoA q) (all_oneCell_toArray (obsC_one q)) h
theorem there_setO {w : World} {b o b' o' : Nat} {q : Ob} (h : w.there b o 8) : (w.setCells b' o' (obsC q)).there b o 8 := World.there_setCells h _ _ _
theorem step_store_O {md : Region.Mode} {ops : Array Oper} {Q : Exit → Act → World → Prop} {fuel : Nat} {listed : Array Bool} {a : Act} {w : World} {i : Nat} {o : Oper} (hr : Region.ready md ops listed = [i]) (ho : ops[i]? = some o) (hw : Region.wanted o (yielded ops a.tmps) = true) (x y : Operand) (hop : o.op = .store 23 x y) (b off : Nat) (q : Ob)
    (hx : a.eval x = .pointer (some ⟨b, off, none⟩)) (hy : a.eval y = .agg (obsC q).toArray) (ht : w.there b off 8) (h : wpAnyH Tryz.prog md ops Q (fun _ => True) fuel (listed.setIfInBounds i true) (a.put o.dst undef) (w.setCells b off (obsC q))) : wpAnyH Tryz.prog md ops Q (fun _ => True) (fuel + 1) listed a w :=
  wpAnyH_ready hr (by simp) (AllReadyH.cons ho (fun K' hK => wanted_go hw (store_O x y hop b off q hx hy ht (hK.out _ _ trivial (fun _ => h)))) AllReadyH.nil)
/-- The row that is being sorted. -/
structure SW (W0 : World) (B g cap : Nat) (y : List Ob) (w : World) : Prop where
  own : OwnO w B (.slice (some ⟨g, 0, none⟩) y.length cap) y
  below : Below B W0 w
  lt : W0.heap.size ≤ w.heap.size
theorem SW.call {W0 w w' : World} {B g cap : Nat} {y : List Ob} (h : SW W0 B g cap y w) (hb : Below w.heap.size w w') : SW W0 B g cap y w' := ⟨h.own.below hb, h.below.trans (hb.mono h.own.2), Nat.le_trans h.lt hb.size⟩
theorem SW.drew {W0 w : World} {B g cap : Nat} {y : List Ob} (h : SW W0 B g cap y w) : SW W0 B g cap y w.drew := h.call (Below.refl _ _).drew
theorem SW.row {W0 w : World} {B g cap : Nat} {y : List Ob} (h : SW W0 B g cap y w) {i : Nat} (hi : i < y.length) {o : Ob} (e : y[i] = o) : w.rangeAt g (i * 8) (obsC o) := by rw [← e]; exact (own_row h.own hi).1
theorem SW.swap {W0 w : World} {B g cap : Nat} {y : List Ob} (h : SW W0 B g cap y w) (hg : B ≤ g) {m j : Nat} (hm : m < y.length) (hj : j < y.length) {p q : Ob} (e1 : y[m] = p) (e2 : y[j] = q) : SW W0 B g cap (swapO y m j hm hj) ((w.setCells g (m * 8) (obsC q)).setCells g (j * 8) (obsC p)) := by
  have o := own_swap h.own hm hj
  rw [e1, e2] at o
  have z1 := sets_size g (obsC q) (m * 8) w
  have z2 := sets_size g (obsC p) (j * 8) (w.setCells g (m * 8) (obsC q))
  refine ⟨by rw [swapO_len]; exact o, below_sets g hg _ _ (below_sets g hg _ _ h.below), by rw [z2, z1]; exact h.lt⟩
theorem OBs.swap {y : List Ob} (h : OBs y) {m j : Nat} (hm : m < y.length) (hj : j < y.length) : OBs (swapO y m j hm hj) := fun i hi => by
  have hi' : i < y.length := by rw [swapO_len] at hi; exact hi
  rw [swapO_get y m j hm hj i hi']
  by_cases a : i = j
  · rw [if_pos a]; exact h m hm
  · rw [if_neg a]
    by_cases b : i = m
    · rw [if_pos b]; exact h j hj
    · rw [if_neg b]; exact h i hi'
theorem OBs.perm {y l : List Ob} (h : OBs l) (p : y.Perm l) : OBs y := fun i hi => by
  have := p.subset (List.getElem_mem hi)
  obtain ⟨k, hk, e⟩ := List.getElem_of_mem this
  rw [← e]; exact h k hk
theorem OBs.take {l : List Ob} (h : OBs l) (k : Nat) : OBs (l.take k) := fun i hi => by
  have : i < l.length := by simp at hi; omega
  rw [List.getElem_take]; exact h i this
set_option maxRecDepth 100000 in
set_option maxHeartbeats 40000000 in
theorem rsort_any (x : Option Addr) (cap : Nat) (l : List Ob) (w : World) (hl : SlA w x l) (hm : l.length ≤ 1000000) (hb : OBs l) :
    Calls Tryz.prog 25 #[.slice x l.length cap] w (SortPost l w) := by
  have HL := Lib.hid (fun w' (h : Below w.heap.size w w') => hl.below h)
  have HBS := Lib.hid hb
  have CA := Lib.hid (rall_any x cap l w hl hm hb)
  obtain ⟨n, hnl⟩ : ∃ n, l.length = n := ⟨_, rfl⟩
  by_cases hz : allC l = 0
  · have n5 : n ≤ 500 := by have := (allC_ok hz).1; omega
    have FIN : Hid (∀ x, x.Perm l → ordL x → SortIs l x 0) := Lib.hid (fun x h g => Or.inl ⟨hz, h, g, rfl⟩)
    rw [hz] at CA
    rw [hnl] at CA ⊢
    have NL := Lib.hid hnl
    clear hl hb hnl hz hm
    go_enter Tryz.func25, Tryz.ntmps25
    go_wp2_with fail
    refine CA.out.mono ?_
    rintro e w1 ⟨rfl, hb1⟩
    have B1 := Lib.hid hb1
    clear hb1 CA
    go_wp2_with fail
    go_loopw [5, 6] (fun v i wr => ∃ (k : Nat) (y : List Ob), k ≤ n ∧ i = .int .i64 k ∧ Hid (OwnO wr w.heap.size v y) ∧ Hid (y.Perm (l.take k) ∧ ordL y) ∧ Hid (Below w.heap.size w wr)) (fun _ i _ => n - (intOf i).toNat)
    case atStart => exact ⟨0, [], Nat.zero_le _, rfl, Lib.hid (OwnO.nil w1 _ B1.out.size), Lib.hid ⟨List.Perm.refl _, List.Pairwise.nil⟩, B1⟩
    case round =>
      obtain ⟨k, y, hk, rfl, O, PO, B⟩ := hrel
      clear B1
      by_cases hlt : k < n
      · have hkl : k < l.length := by rw [NL.out]; exact hlt
        obtain ⟨b, off, rfl, lt, row⟩ := (HL.out _ B.out).get hkl
        have R := Lib.hid (row k hkl)
        have zy : y.length = k := by rw [PO.out.1.length_eq, List.length_take]; omega
        have P2 := Lib.hid (show (y ++ [l[k]'hkl]).Perm (l.take (k + 1)) by rw [take_snocO hkl]; exact PO.out.1.append_right _)
        have I2 : Hid (Ins (y ++ [l[k]'hkl]) k) := Lib.hid (by have := ins_start (o := l[k]'hkl) PO.out.2; rwa [zy] at this)
        have BS := Lib.hid (show OBs (y ++ [l[k]'hkl]) from OBs.perm (HBS.out.take (k + 1)) P2.out)
        have i1 : (k : Int) < (n : Int) := by omega
        have zl : y.length ≤ 1000000 := by omega
        have zy2 : (y ++ [l[k]'hkl]).length = k + 1 := by simp [zy]
        clear row lt FIN PO
        generalize l[k]'hkl = o at *
        go_wp2_with (first | (refine wpList_load_mid rfl _ (.tmp 22) rfl b (off + k * 8) rfl (obsC o) _ R.out Tryz.underlying23 rfl info8 ?_) | (at_builtin; refine wp_app _ rfl (.tmp 19) (.tmp 24) rfl w.heap.size _ y o rfl (by first | rfl | simp [Act.eval]) O.out zl ?_; intro v' w3 hO3 hb3))
        obtain ⟨g, cp, rfl, hg, lt3⟩ : ∃ g cp, v' = .slice (some ⟨g, 0, none⟩) (k + 1) cp ∧ w.heap.size ≤ g ∧ g < w3.heap.size := by
          rcases owns_form hO3.1 with ⟨h, _⟩ | ⟨g, cp, h, hg, lt, _⟩
          · simp at h
          · exact ⟨g, cp, by rw [h, zy2], hg, lt⟩
        have S3 := Lib.hid (show SW w w.heap.size g cp (y ++ [o]) w3 from ⟨by rw [zy2]; exact hO3, B.out.trans hb3, Nat.le_trans B.out.size hb3.size⟩)
        generalize y ++ [o] = y1 at *
        have Z1 := Lib.hid zy2
        clear hO3 hb3 B O R zy zy2 zl lt3 HL
        go_wp2_with fail
        go_loopw [7] (fun jv wr2 => ∃ (j : Nat) (z : List Ob), j ≤ k ∧ jv = .int .i64 j ∧ Hid (z.length = k + 1) ∧ Hid (z.Perm y1) ∧ Hid (OBs z) ∧ Hid (Ins z j) ∧ Hid (SW w w.heap.size g cp z wr2)) (fun jv _ => (intOf jv).toNat)
        case atStart => exact ⟨k, y1, Nat.le_refl _, rfl, Z1, Lib.hid (List.Perm.refl _), BS, I2, S3⟩
        case round =>
          obtain ⟨j, z, hj, rfl, ZZ, PZ, BZ, IZ, SZ⟩ := hrel
          clear S3 I2 BS
          by_cases h0 : j = 0
          · subst h0
            have OK := Lib.hid (ins_stop IZ.out (Or.inl rfl))
            have g0 : decide ((0 : Int) < ((0 : Nat) : Int)) = false := by decide
            have O4 := Lib.hid (show OwnO wr w.heap.size (.slice (some ⟨g, 0, none⟩) (k + 1) cp) z by have := SZ.out.own; rwa [ZZ.out] at this)
            have B4 := Lib.hid SZ.out.below
            have P4 := Lib.hid (PZ.out.trans P2.out)
            clear IZ SZ PZ BZ P2 ZZ
            go_wp2_with fail
            go_quiet (fail)
            have O5 := Lib.hid (O4.out.below (drewN_below2 (Below.refl _ _) nq))
            have B5 := Lib.hid (B4.out.trans (drewN_below2 (Below.refl _ _) nq))
            clear O4 B4
            go_wp2_with fail
            go_roundw
            case rel => exact ⟨k + 1, z, by omega, by go_num, O5, Lib.hid ⟨P4.out, OK.out⟩, B5⟩
            case measure => simp [intOf]; omega
          · obtain ⟨m, hm⟩ : ∃ m, j = m + 1 := ⟨j - 1, by omega⟩
            have zk := ZZ.out
            have hml : m < z.length := by omega
            have hjl : j < z.length := by omega
            obtain ⟨p, hp⟩ : ∃ p, z[m] = p := ⟨_, rfl⟩
            obtain ⟨q, hq⟩ : ∃ q, z[j] = q := ⟨_, rfl⟩
            have HP := Lib.hid hp
            have HQ := Lib.hid hq
            have bp := BZ.out m hml
            have bq := BZ.out j hjl
            rw [hp] at bp
            rw [hq] at bq
            have CP := Lib.hid (fun w' => rcompare_any p q w' ⟨bp.b0, bp.b1⟩ ⟨bq.b0, bq.b1⟩)
            have STOP : Hid (¬ 0 < cmpO p q → ordL z) := Lib.hid (fun h => ins_stop IZ.out (Or.inr ⟨m, hm, fun _ => by rw [hp, hq]; omega⟩))
            have STEP : Hid (0 < cmpO p q → Ins (swapO z m j hml hjl) m) := Lib.hid (fun h => ins_step IZ.out hm hjl (by rw [hp, hq]; exact h))
            generalize cmpO p q = K at *
            have j0 : (0 : Int) < (j : Int) := by omega
            have g1 : decide (0 < j) = true := decide_eq_true (by omega)
            have wm : IntKind.i64.wrap ((j : Int) - 1) = (m : Int) := by rw [wrap_small _ (by omega) (by omega)]; omega
            have m0 : (0 : Int) ≤ (m : Int) := by omega
            have m1 : (m : Int) < (k : Int) + 1 := by omega
            have j1 : (j : Int) < (k : Int) + 1 := by omega
            have m2 : m < k + 1 := by omega
            have j2 : j < k + 1 := by omega
            have HM := Lib.hid hm
            clear hp hq bp bq IZ zk hm
            by_cases hK0 : 0 < K
            · have ST := Lib.hid (STEP.out hK0)
              have gK : decide (0 < K) = true := decide_eq_true hK0
              clear STOP STEP
              go_wp2_with fail
              refine wp_region_held_drew (S := SW w w.heap.size g cp z) (by kernel_rfl) SZ.out.drew (fun hHeld => ?_)
              refine wpAnyH_take (i := 0) (oi := ?oi0x1) (v := ?v0x1) ?hi0x1 (by kernel_rfl) (by kernel_rfl) (by kernel_rfl) ?hq0x1 ?hy0x1 hHeld ?rest0x1
              case hi0x1 => ((try simp only [List.getElem?_toArray, List.getElem?_cons_succ, List.getElem?_cons_zero]); (try rfl))
              case hq0x1 => exact fun _ _ _ h => h
              case hy0x1 => exact Or.inl ⟨by rfl, by intro w hSw; clear hSw; go_simp; try with_reducible rfl⟩
              try simp only [Act.put, List.setIfInBounds_toArray, List.set_cons_zero, List.set_cons_succ]
              refine wpAnyH_take (i := 1) (oi := ?oi1x2) (v := ?v1x2) ?hi1x2 (by kernel_rfl) (by kernel_rfl) (by kernel_rfl) ?hq1x2 ?hy1x2 hHeld ?rest1x2
              case hi1x2 => ((try simp only [List.getElem?_toArray, List.getElem?_cons_succ, List.getElem?_cons_zero]); (try rfl))
              case hq1x2 => exact fun _ _ _ h => h
              case hy1x2 => exact Or.inl ⟨by rfl, by intro w hSw; clear hSw; go_simp; try with_reducible rfl⟩
              try simp only [Act.put, List.setIfInBounds_toArray, List.set_cons_zero, List.set_cons_succ]
              refine wpAnyH_take (i := 2) (oi := ?oi2x3) (v := ?v2x3) ?hi2x3 (by kernel_rfl) (by kernel_rfl) (by kernel_rfl) ?hq2x3 ?hy2x3 hHeld ?rest2x3
              case hi2x3 => ((try simp only [List.getElem?_toArray, List.getElem?_cons_succ, List.getElem?_cons_zero]); (try rfl))
              case hq2x3 => exact fun _ _ _ h => h
              case hy2x3 => exact Or.inl ⟨by rfl, by intro w hSw; clear hSw; go_simp; try with_reducible rfl⟩
              try simp only [Act.put, List.setIfInBounds_toArray, List.set_cons_zero, List.set_cons_succ]
              refine wpAnyH_take (i := 3) (oi := ?oi3x4) (v := ?v3x4) ?hi3x4 (by kernel_rfl) (by kernel_rfl) (by kernel_rfl) ?hq3x4 ?hy3x4 hHeld ?rest3x4
              case hi3x4 => ((try simp only [List.getElem?_toArray, List.getElem?_cons_succ, List.getElem?_cons_zero]); (try rfl))
              case hq3x4 => exact fun _ _ _ h => h
              case hy3x4 => exact Or.inl ⟨by rfl, by intro w hSw; clear hSw; go_simp; try with_reducible rfl⟩
              try simp only [Act.put, List.setIfInBounds_toArray, List.set_cons_zero, List.set_cons_succ]
              refine wpAnyH_take (i := 4) (oi := ?oi4x5) (v := ?v4x5) ?hi4x5 (by kernel_rfl) (by kernel_rfl) (by kernel_rfl) ?hq4x5 ?hy4x5 hHeld ?rest4x5
              case hi4x5 => ((try simp only [List.getElem?_toArray, List.getElem?_cons_succ, List.getElem?_cons_zero]); (try rfl))
              case hq4x5 => exact fun _ _ _ h => h
              case hy4x5 => exact Or.inl ⟨by rfl, by intro w hSw; clear hSw; go_simp; try with_reducible rfl⟩
              try simp only [Act.put, List.setIfInBounds_toArray, List.set_cons_zero, List.set_cons_succ]
              refine wpAnyH_take (i := 5) (oi := ?oi5x6) (v := ?v5x6) ?hi5x6 (by kernel_rfl) (by kernel_rfl) (by kernel_rfl) ?hq5x6 ?hy5x6 hHeld ?rest5x6
              case hi5x6 => ((try simp only [List.getElem?_toArray, List.getElem?_cons_succ, List.getElem?_cons_zero]); (try rfl))
              case hq5x6 => exact fun _ _ _ h => h
              case hy5x6 => exact Or.inl ⟨by rfl, by intro w hSw; clear hSw; go_simp; try with_reducible rfl⟩
              try simp only [Act.put, List.setIfInBounds_toArray, List.set_cons_zero, List.set_cons_succ]
              refine wpAnyH_take (i := 6) (oi := ?oi6x7) (v := ?v6x7) ?hi6x7 (by kernel_rfl) (by kernel_rfl) (by kernel_rfl) ?hq6x7 ?hy6x7 hHeld ?rest6x7
              case hi6x7 => ((try simp only [List.getElem?_toArray, List.getElem?_cons_succ, List.getElem?_cons_zero]); (try rfl))
              case hq6x7 => exact fun _ _ _ h => h
              case hy6x7 => exact Or.inl ⟨by rfl, by intro w hSw; clear hSw; go_simp; try with_reducible rfl⟩
              try simp only [Act.put, List.setIfInBounds_toArray, List.set_cons_zero, List.set_cons_succ]
              refine wpAnyH_take (i := 7) (oi := ?oi7x8) (v := ?v7x8) ?hi7x8 (by kernel_rfl) (by kernel_rfl) (by kernel_rfl) ?hq7x8 ?hy7x8 hHeld ?rest7x8
              case hi7x8 => ((try simp only [List.getElem?_toArray, List.getElem?_cons_succ, List.getElem?_cons_zero]); (try rfl))
              case hq7x8 => exact fun _ _ _ h => h
              case hy7x8 => 
                refine' yieldsIf_load_mid ?_ 23 (.tmp 33) ?_ g (m * 8) ?_ (obsC p) _ ?_ Tryz.underlying23 ?_ info8
                · rfl
                · rfl
                · rfl
                · exact fun _ h => SW.row h hml HP.out
                · rfl
              try simp only [Act.put, List.setIfInBounds_toArray, List.set_cons_zero, List.set_cons_succ]
              refine wpAnyH_take (i := 8) (oi := ?oi8x9) (v := ?v8x9) ?hi8x9 (by kernel_rfl) (by kernel_rfl) (by kernel_rfl) ?hq8x9 ?hy8x9 hHeld ?rest8x9
              case hi8x9 => ((try simp only [List.getElem?_toArray, List.getElem?_cons_succ, List.getElem?_cons_zero]); (try rfl))
              case hq8x9 => exact fun _ _ _ h => h
              case hy8x9 => exact Or.inl ⟨by rfl, by intro w hSw; clear hSw; go_simp; try with_reducible rfl⟩
              try simp only [Act.put, List.setIfInBounds_toArray, List.set_cons_zero, List.set_cons_succ]
              refine wpAnyH_take (i := 9) (oi := ?oi9x10) (v := ?v9x10) ?hi9x10 (by kernel_rfl) (by kernel_rfl) (by kernel_rfl) ?hq9x10 ?hy9x10 hHeld ?rest9x10
              case hi9x10 => ((try simp only [List.getElem?_toArray, List.getElem?_cons_succ, List.getElem?_cons_zero]); (try rfl))
              case hq9x10 => exact fun _ _ _ h => h
              case hy9x10 => exact Or.inl ⟨by rfl, by intro w hSw; clear hSw; go_simp; try with_reducible rfl⟩
              try simp only [Act.put, List.setIfInBounds_toArray, List.set_cons_zero, List.set_cons_succ]
              refine wpAnyH_take (i := 10) (oi := ?oi10x11) (v := ?v10x11) ?hi10x11 (by kernel_rfl) (by kernel_rfl) (by kernel_rfl) ?hq10x11 ?hy10x11 hHeld ?rest10x11
              case hi10x11 => ((try simp only [List.getElem?_toArray, List.getElem?_cons_succ, List.getElem?_cons_zero]); (try rfl))
              case hq10x11 => exact fun _ _ _ h => h
              case hy10x11 => exact Or.inl ⟨by rfl, by intro w hSw; clear hSw; go_simp; try with_reducible rfl⟩
              try simp only [Act.put, List.setIfInBounds_toArray, List.set_cons_zero, List.set_cons_succ]
              refine wpAnyH_take (i := 11) (oi := ?oi11x12) (v := ?v11x12) ?hi11x12 (by kernel_rfl) (by kernel_rfl) (by kernel_rfl) ?hq11x12 ?hy11x12 hHeld ?rest11x12
              case hi11x12 => ((try simp only [List.getElem?_toArray, List.getElem?_cons_succ, List.getElem?_cons_zero]); (try rfl))
              case hq11x12 => exact fun _ _ _ h => h
              case hy11x12 => 
                refine' yieldsIf_load_mid ?_ 23 (.tmp 37) ?_ g (j * 8) ?_ (obsC q) _ ?_ Tryz.underlying23 ?_ info8
                · rfl
                · rfl
                · rfl
                · exact fun _ h => SW.row h hjl HQ.out
                · rfl
              try simp only [Act.put, List.setIfInBounds_toArray, List.set_cons_zero, List.set_cons_succ]
              refine wpAnyH_ready (rs := [12]) (by kernel_rfl) (by simp) ?_
              refine AllReadyH.cons rfl (fun K' hK => ?_) AllReadyH.nil
              have H1 := Lib.hid hHeld
              clear hHeld
              go_simp
              refine (CP.out _).mono ?_
              rintro e w9 ⟨rfl, hb9⟩
              refine hK.out _ _ (H1.out.call hb9) (fun hHeld => ?_)
              clear hK H1 hb9
              try simp only [Act.put, List.setIfInBounds_toArray, List.set_cons_zero, List.set_cons_succ]
              refine wpAnyH_take (i := 13) (oi := ?oi13x13) (v := ?v13x13) ?hi13x13 (by kernel_rfl) (by kernel_rfl) (by kernel_rfl) ?hq13x13 ?hy13x13 hHeld ?rest13x13
              case hi13x13 => ((try simp only [List.getElem?_toArray, List.getElem?_cons_succ, List.getElem?_cons_zero]); (try rfl))
              case hq13x13 => exact fun _ _ _ h => h
              case hy13x13 => exact Or.inl ⟨by rfl, by intro w hSw; clear hSw; go_simp; try with_reducible rfl⟩
              try simp only [Act.put, List.setIfInBounds_toArray, List.set_cons_zero, List.set_cons_succ]
              refine wpAnyH_take (i := 14) (oi := ?oi14x14) (v := ?v14x14) ?hi14x14 (by kernel_rfl) (by kernel_rfl) (by kernel_rfl) ?hq14x14 ?hy14x14 hHeld ?rest14x14
              case hi14x14 => ((try simp only [List.getElem?_toArray, List.getElem?_cons_succ, List.getElem?_cons_zero]); (try rfl))
              case hq14x14 => exact fun _ _ _ h => h
              case hy14x14 => exact Or.inl ⟨by rfl, by intro w hSw; clear hSw; go_simp; try with_reducible rfl⟩
              try simp only [Act.put, List.setIfInBounds_toArray, List.set_cons_zero, List.set_cons_succ]
              refine wpAnyH_done (by kernel_rfl) ?_ _
              have S5 := Lib.hid hHeld
              clear CP hHeld
              go_wp2_with fail
              refine wp_region_held_drew (S := fun _ => True) (by kernel_rfl) trivial (fun hHeld => ?_)
              have RP := S5.out.drew.row hml HP.out
              have RQ := S5.out.drew.row hjl HQ.out
              have TM := (own_row S5.out.drew.own hml).2
              have TJ := (own_row S5.out.drew.own hjl).2
              have S6 := Lib.hid (S5.out.drew.swap hg hml hjl HP.out HQ.out)
              refine wpAnyH_take (i := 0) (oi := ?oi0x29) (v := ?v0x29) ?hi0x29 (by kernel_rfl) (by kernel_rfl) (by kernel_rfl) ?hq0x29 ?hy0x29 hHeld ?rest0x29
              case hi0x29 => ((try simp only [List.getElem?_toArray, List.getElem?_cons_succ, List.getElem?_cons_zero]); (try rfl))
              case hq0x29 => exact fun _ _ _ h => h
              case hy0x29 => exact Or.inl ⟨by rfl, by intro w hSw; clear hSw; go_simp; try with_reducible rfl⟩
              try simp only [Act.put, List.setIfInBounds_toArray, List.set_cons_zero, List.set_cons_succ]
              refine wpAnyH_take (i := 1) (oi := ?oi1x30) (v := ?v1x30) ?hi1x30 (by kernel_rfl) (by kernel_rfl) (by kernel_rfl) ?hq1x30 ?hy1x30 hHeld ?rest1x30
              case hi1x30 => ((try simp only [List.getElem?_toArray, List.getElem?_cons_succ, List.getElem?_cons_zero]); (try rfl))
              case hq1x30 => exact fun _ _ _ h => h
              case hy1x30 => exact Or.inl ⟨by rfl, by intro w hSw; clear hSw; go_simp; try with_reducible rfl⟩
              try simp only [Act.put, List.setIfInBounds_toArray, List.set_cons_zero, List.set_cons_succ]
              refine wpAnyH_take (i := 2) (oi := ?oi2x31) (v := ?v2x31) ?hi2x31 (by kernel_rfl) (by kernel_rfl) (by kernel_rfl) ?hq2x31 ?hy2x31 hHeld ?rest2x31
              case hi2x31 => ((try simp only [List.getElem?_toArray, List.getElem?_cons_succ, List.getElem?_cons_zero]); (try rfl))
              case hq2x31 => exact fun _ _ _ h => h
              case hy2x31 => exact Or.inl ⟨by rfl, by intro w hSw; clear hSw; go_simp; try with_reducible rfl⟩
              try simp only [Act.put, List.setIfInBounds_toArray, List.set_cons_zero, List.set_cons_succ]
              refine wpAnyH_take (i := 3) (oi := ?oi3x32) (v := ?v3x32) ?hi3x32 (by kernel_rfl) (by kernel_rfl) (by kernel_rfl) ?hq3x32 ?hy3x32 hHeld ?rest3x32
              case hi3x32 => ((try simp only [List.getElem?_toArray, List.getElem?_cons_succ, List.getElem?_cons_zero]); (try rfl))
              case hq3x32 => exact fun _ _ _ h => h
              case hy3x32 => exact Or.inl ⟨by rfl, by intro w hSw; clear hSw; go_simp; try with_reducible rfl⟩
              try simp only [Act.put, List.setIfInBounds_toArray, List.set_cons_zero, List.set_cons_succ]
              refine wpAnyH_take (i := 4) (oi := ?oi4x33) (v := ?v4x33) ?hi4x33 (by kernel_rfl) (by kernel_rfl) (by kernel_rfl) ?hq4x33 ?hy4x33 hHeld ?rest4x33
              case hi4x33 => ((try simp only [List.getElem?_toArray, List.getElem?_cons_succ, List.getElem?_cons_zero]); (try rfl))
              case hq4x33 => exact fun _ _ _ h => h
              case hy4x33 => exact Or.inl ⟨by rfl, by intro w hSw; clear hSw; go_simp; try with_reducible rfl⟩
              try simp only [Act.put, List.setIfInBounds_toArray, List.set_cons_zero, List.set_cons_succ]
              refine wpAnyH_take (i := 5) (oi := ?oi5x34) (v := ?v5x34) ?hi5x34 (by kernel_rfl) (by kernel_rfl) (by kernel_rfl) ?hq5x34 ?hy5x34 hHeld ?rest5x34
              case hi5x34 => ((try simp only [List.getElem?_toArray, List.getElem?_cons_succ, List.getElem?_cons_zero]); (try rfl))
              case hq5x34 => exact fun _ _ _ h => h
              case hy5x34 => exact Or.inl ⟨by rfl, by intro w hSw; clear hSw; go_simp; try with_reducible rfl⟩
              try simp only [Act.put, List.setIfInBounds_toArray, List.set_cons_zero, List.set_cons_succ]
              refine wpAnyH_take (i := 6) (oi := ?oi6x35) (v := ?v6x35) ?hi6x35 (by kernel_rfl) (by kernel_rfl) (by kernel_rfl) ?hq6x35 ?hy6x35 hHeld ?rest6x35
              case hi6x35 => ((try simp only [List.getElem?_toArray, List.getElem?_cons_succ, List.getElem?_cons_zero]); (try rfl))
              case hq6x35 => exact fun _ _ _ h => h
              case hy6x35 => exact Or.inl ⟨by rfl, by intro w hSw; clear hSw; go_simp; try with_reducible rfl⟩
              try simp only [Act.put, List.setIfInBounds_toArray, List.set_cons_zero, List.set_cons_succ]
              refine wpAnyH_take (i := 7) (oi := ?oi7x36) (v := ?v7x36) ?hi7x36 (by kernel_rfl) (by kernel_rfl) (by kernel_rfl) ?hq7x36 ?hy7x36 hHeld ?rest7x36
              case hi7x36 => ((try simp only [List.getElem?_toArray, List.getElem?_cons_succ, List.getElem?_cons_zero]); (try rfl))
              case hq7x36 => exact fun _ _ _ h => h
              case hy7x36 => exact Or.inl ⟨by rfl, by intro w hSw; clear hSw; go_simp; try with_reducible rfl⟩
              try simp only [Act.put, List.setIfInBounds_toArray, List.set_cons_zero, List.set_cons_succ]
              refine wpAnyH_take (i := 9) (oi := ?oi9x37) (v := ?v9x37) ?hi9x37 (by kernel_rfl) (by kernel_rfl) (by kernel_rfl) ?hq9x37 ?hy9x37 hHeld ?rest9x37
              case hi9x37 => ((try simp only [List.getElem?_toArray, List.getElem?_cons_succ, List.getElem?_cons_zero]); (try rfl))
              case hq9x37 => exact fun _ _ _ h => h
              case hy9x37 => exact Or.inl ⟨by rfl, by intro w hSw; clear hSw; go_simp; try with_reducible rfl⟩
              try simp only [Act.put, List.setIfInBounds_toArray, List.set_cons_zero, List.set_cons_succ]
              refine wpAnyH_take (i := 10) (oi := ?oi10x38) (v := ?v10x38) ?hi10x38 (by kernel_rfl) (by kernel_rfl) (by kernel_rfl) ?hq10x38 ?hy10x38 hHeld ?rest10x38
              case hi10x38 => ((try simp only [List.getElem?_toArray, List.getElem?_cons_succ, List.getElem?_cons_zero]); (try rfl))
              case hq10x38 => exact fun _ _ _ h => h
              case hy10x38 => exact Or.inl ⟨by rfl, by intro w hSw; clear hSw; go_simp; try with_reducible rfl⟩
              try simp only [Act.put, List.setIfInBounds_toArray, List.set_cons_zero, List.set_cons_succ]
              refine wpAnyH_take (i := 11) (oi := ?oi11x39) (v := ?v11x39) ?hi11x39 (by kernel_rfl) (by kernel_rfl) (by kernel_rfl) ?hq11x39 ?hy11x39 hHeld ?rest11x39
              case hi11x39 => ((try simp only [List.getElem?_toArray, List.getElem?_cons_succ, List.getElem?_cons_zero]); (try rfl))
              case hq11x39 => exact fun _ _ _ h => h
              case hy11x39 => exact Or.inl ⟨by rfl, by intro w hSw; clear hSw; go_simp; try with_reducible rfl⟩
              try simp only [Act.put, List.setIfInBounds_toArray, List.set_cons_zero, List.set_cons_succ]
              refine wpAnyH_take (i := 12) (oi := ?oi12x40) (v := ?v12x40) ?hi12x40 (by kernel_rfl) (by kernel_rfl) (by kernel_rfl) ?hq12x40 ?hy12x40 hHeld ?rest12x40
              case hi12x40 => ((try simp only [List.getElem?_toArray, List.getElem?_cons_succ, List.getElem?_cons_zero]); (try rfl))
              case hq12x40 => exact fun _ _ _ h => h
              case hy12x40 => exact Or.inl ⟨by rfl, by intro w hSw; clear hSw; go_simp; try with_reducible rfl⟩
              try simp only [Act.put, List.setIfInBounds_toArray, List.set_cons_zero, List.set_cons_succ]
              refine wpAnyH_ready (rs := [8, 13]) (by kernel_rfl) (by simp) ?_
              refine AllReadyH.cons rfl (fun K' hK => ?_) (AllReadyH.cons rfl (fun K' hK => ?_) AllReadyH.nil)
              ·
                clear hHeld
                refine wanted_go (by rfl) ?_
                refine' wp_load_mid 23 (.tmp 51) rfl g (j * 8) rfl (obsC q) _ RQ Tryz.underlying23 rfl info8 ?_
                refine hK.out _ _ trivial (fun hHeld => ?_)
                clear hK
                simp only [List.getElem_toArray, List.getElem_cons_succ, List.getElem_cons_zero, Act.put, List.setIfInBounds_toArray, List.set_cons_zero, List.set_cons_succ]
                refine wpAnyH_ready (rs := [13]) (by kernel_rfl) (by simp) ?_
                refine AllReadyH.cons rfl (fun K' hK => ?_) AllReadyH.nil
                clear hHeld
                refine wanted_go (by rfl) ?_
                refine' wp_load_mid 23 (.tmp 56) rfl g (m * 8) rfl (obsC p) _ RP Tryz.underlying23 rfl info8 ?_
                refine hK.out _ _ trivial (fun hHeld => ?_)
                clear hK
                simp only [List.getElem_toArray, List.getElem_cons_succ, List.getElem_cons_zero, Act.put, List.setIfInBounds_toArray, List.set_cons_zero, List.set_cons_succ]
                refine wpAnyH_take (i := 14) (oi := ?oi14x41) (v := ?v14x41) ?hi14x41 (by kernel_rfl) (by kernel_rfl) (by kernel_rfl) ?hq14x41 ?hy14x41 hHeld ?rest14x41
                case hi14x41 => ((try simp only [List.getElem?_toArray, List.getElem?_cons_succ, List.getElem?_cons_zero]); (try rfl))
                case hq14x41 => exact fun _ _ _ h => h
                case hy14x41 => exact Or.inl ⟨by rfl, by intro w hSw; clear hSw; go_simp; try with_reducible rfl⟩
                try simp only [Act.put, List.setIfInBounds_toArray, List.set_cons_zero, List.set_cons_succ]
                refine step_store_O (i := 15) (o := ?o15x42) (by kernel_rfl) ?ho15x42 ?hw15x42 (.tmp 58) (.tmp 52) ?hop15x42 g (m * 8) q ?hx15x42 ?hy15x42 (TM) ?rest15x42
                case ho15x42 => ((try simp only [List.getElem?_toArray, List.getElem?_cons_succ, List.getElem?_cons_zero]); (try rfl))
                case hw15x42 => rfl
                case hop15x42 => rfl
                case hx15x42 => rfl
                case hy15x42 => rfl
                try simp only [Act.put, List.setIfInBounds_toArray, List.set_cons_zero, List.set_cons_succ]
                refine wpAnyH_take (i := 16) (oi := ?oi16x43) (v := ?v16x43) ?hi16x43 (by kernel_rfl) (by kernel_rfl) (by kernel_rfl) ?hq16x43 ?hy16x43 hHeld ?rest16x43
                case hi16x43 => ((try simp only [List.getElem?_toArray, List.getElem?_cons_succ, List.getElem?_cons_zero]); (try rfl))
                case hq16x43 => exact fun _ _ _ h => h
                case hy16x43 => exact Or.inl ⟨by rfl, by intro w hSw; clear hSw; go_simp; try with_reducible rfl⟩
                try simp only [Act.put, List.setIfInBounds_toArray, List.set_cons_zero, List.set_cons_succ]
                refine step_store_O (i := 17) (o := ?o17x44) (by kernel_rfl) ?ho17x44 ?hw17x44 (.tmp 59) (.tmp 57) ?hop17x44 g (j * 8) p ?hx17x44 ?hy17x44 (there_setO TJ) ?rest17x44
                case ho17x44 => ((try simp only [List.getElem?_toArray, List.getElem?_cons_succ, List.getElem?_cons_zero]); (try rfl))
                case hw17x44 => rfl
                case hop17x44 => rfl
                case hx17x44 => rfl
                case hy17x44 => rfl
                try simp only [Act.put, List.setIfInBounds_toArray, List.set_cons_zero, List.set_cons_succ]
                refine wpAnyH_done (by kernel_rfl) ?_ _
                clear hHeld RP RQ TM TJ S5
                go_wp2_with fail
                go_roundw
                case rel => exact ⟨m, swapO z m j hml hjl, by omega, by go_num, Lib.hid (by rw [swapO_len]; exact ZZ.out), Lib.hid ((swapO_perm z m j hml hjl).trans PZ.out), Lib.hid (BZ.out.swap hml hjl), ST, S6⟩
                case measure => have hm := HM.out; simp [intOf]; omega
              ·
                clear hHeld
                refine wanted_go (by rfl) ?_
                refine' wp_load_mid 23 (.tmp 56) rfl g (m * 8) rfl (obsC p) _ RP Tryz.underlying23 rfl info8 ?_
                refine hK.out _ _ trivial (fun hHeld => ?_)
                clear hK
                simp only [List.getElem_toArray, List.getElem_cons_succ, List.getElem_cons_zero, Act.put, List.setIfInBounds_toArray, List.set_cons_zero, List.set_cons_succ]
                refine wpAnyH_ready (rs := [8]) (by kernel_rfl) (by simp) ?_
                refine AllReadyH.cons rfl (fun K' hK => ?_) AllReadyH.nil
                clear hHeld
                refine wanted_go (by rfl) ?_
                refine' wp_load_mid 23 (.tmp 51) rfl g (j * 8) rfl (obsC q) _ RQ Tryz.underlying23 rfl info8 ?_
                refine hK.out _ _ trivial (fun hHeld => ?_)
                clear hK
                simp only [List.getElem_toArray, List.getElem_cons_succ, List.getElem_cons_zero, Act.put, List.setIfInBounds_toArray, List.set_cons_zero, List.set_cons_succ]
                refine wpAnyH_take (i := 14) (oi := ?oi14x45) (v := ?v14x45) ?hi14x45 (by kernel_rfl) (by kernel_rfl) (by kernel_rfl) ?hq14x45 ?hy14x45 hHeld ?rest14x45
                case hi14x45 => ((try simp only [List.getElem?_toArray, List.getElem?_cons_succ, List.getElem?_cons_zero]); (try rfl))
                case hq14x45 => exact fun _ _ _ h => h
                case hy14x45 => exact Or.inl ⟨by rfl, by intro w hSw; clear hSw; go_simp; try with_reducible rfl⟩
                try simp only [Act.put, List.setIfInBounds_toArray, List.set_cons_zero, List.set_cons_succ]
                refine step_store_O (i := 15) (o := ?o15x46) (by kernel_rfl) ?ho15x46 ?hw15x46 (.tmp 58) (.tmp 52) ?hop15x46 g (m * 8) q ?hx15x46 ?hy15x46 (TM) ?rest15x46
                case ho15x46 => ((try simp only [List.getElem?_toArray, List.getElem?_cons_succ, List.getElem?_cons_zero]); (try rfl))
                case hw15x46 => rfl
                case hop15x46 => rfl
                case hx15x46 => rfl
                case hy15x46 => rfl
                try simp only [Act.put, List.setIfInBounds_toArray, List.set_cons_zero, List.set_cons_succ]
                refine wpAnyH_take (i := 16) (oi := ?oi16x47) (v := ?v16x47) ?hi16x47 (by kernel_rfl) (by kernel_rfl) (by kernel_rfl) ?hq16x47 ?hy16x47 hHeld ?rest16x47
                case hi16x47 => ((try simp only [List.getElem?_toArray, List.getElem?_cons_succ, List.getElem?_cons_zero]); (try rfl))
                case hq16x47 => exact fun _ _ _ h => h
                case hy16x47 => exact Or.inl ⟨by rfl, by intro w hSw; clear hSw; go_simp; try with_reducible rfl⟩
                try simp only [Act.put, List.setIfInBounds_toArray, List.set_cons_zero, List.set_cons_succ]
                refine step_store_O (i := 17) (o := ?o17x48) (by kernel_rfl) ?ho17x48 ?hw17x48 (.tmp 59) (.tmp 57) ?hop17x48 g (j * 8) p ?hx17x48 ?hy17x48 (there_setO TJ) ?rest17x48
                case ho17x48 => ((try simp only [List.getElem?_toArray, List.getElem?_cons_succ, List.getElem?_cons_zero]); (try rfl))
                case hw17x48 => rfl
                case hop17x48 => rfl
                case hx17x48 => rfl
                case hy17x48 => rfl
                try simp only [Act.put, List.setIfInBounds_toArray, List.set_cons_zero, List.set_cons_succ]
                refine wpAnyH_done (by kernel_rfl) ?_ _
                clear hHeld RP RQ TM TJ S5
                go_wp2_with fail
                go_roundw
                case rel => exact ⟨m, swapO z m j hml hjl, by omega, by go_num, Lib.hid (by rw [swapO_len]; exact ZZ.out), Lib.hid ((swapO_perm z m j hml hjl).trans PZ.out), Lib.hid (BZ.out.swap hml hjl), ST, S6⟩
                case measure => have hm := HM.out; simp [intOf]; omega
            · have ST := Lib.hid (STOP.out hK0)
              have gK : decide (0 < K) = false := decide_eq_false hK0
              clear STEP STOP
              go_wp2_with fail
              refine wp_region_held_drew (S := SW w w.heap.size g cp z) (by kernel_rfl) SZ.out.drew (fun hHeld => ?_)
              refine wpAnyH_take (i := 0) (oi := ?oi0x15) (v := ?v0x15) ?hi0x15 (by kernel_rfl) (by kernel_rfl) (by kernel_rfl) ?hq0x15 ?hy0x15 hHeld ?rest0x15
              case hi0x15 => ((try simp only [List.getElem?_toArray, List.getElem?_cons_succ, List.getElem?_cons_zero]); (try rfl))
              case hq0x15 => exact fun _ _ _ h => h
              case hy0x15 => exact Or.inl ⟨by rfl, by intro w hSw; clear hSw; go_simp; try with_reducible rfl⟩
              try simp only [Act.put, List.setIfInBounds_toArray, List.set_cons_zero, List.set_cons_succ]
              refine wpAnyH_take (i := 1) (oi := ?oi1x16) (v := ?v1x16) ?hi1x16 (by kernel_rfl) (by kernel_rfl) (by kernel_rfl) ?hq1x16 ?hy1x16 hHeld ?rest1x16
              case hi1x16 => ((try simp only [List.getElem?_toArray, List.getElem?_cons_succ, List.getElem?_cons_zero]); (try rfl))
              case hq1x16 => exact fun _ _ _ h => h
              case hy1x16 => exact Or.inl ⟨by rfl, by intro w hSw; clear hSw; go_simp; try with_reducible rfl⟩
              try simp only [Act.put, List.setIfInBounds_toArray, List.set_cons_zero, List.set_cons_succ]
              refine wpAnyH_take (i := 2) (oi := ?oi2x17) (v := ?v2x17) ?hi2x17 (by kernel_rfl) (by kernel_rfl) (by kernel_rfl) ?hq2x17 ?hy2x17 hHeld ?rest2x17
              case hi2x17 => ((try simp only [List.getElem?_toArray, List.getElem?_cons_succ, List.getElem?_cons_zero]); (try rfl))
              case hq2x17 => exact fun _ _ _ h => h
              case hy2x17 => exact Or.inl ⟨by rfl, by intro w hSw; clear hSw; go_simp; try with_reducible rfl⟩
              try simp only [Act.put, List.setIfInBounds_toArray, List.set_cons_zero, List.set_cons_succ]
              refine wpAnyH_take (i := 3) (oi := ?oi3x18) (v := ?v3x18) ?hi3x18 (by kernel_rfl) (by kernel_rfl) (by kernel_rfl) ?hq3x18 ?hy3x18 hHeld ?rest3x18
              case hi3x18 => ((try simp only [List.getElem?_toArray, List.getElem?_cons_succ, List.getElem?_cons_zero]); (try rfl))
              case hq3x18 => exact fun _ _ _ h => h
              case hy3x18 => exact Or.inl ⟨by rfl, by intro w hSw; clear hSw; go_simp; try with_reducible rfl⟩
              try simp only [Act.put, List.setIfInBounds_toArray, List.set_cons_zero, List.set_cons_succ]
              refine wpAnyH_take (i := 4) (oi := ?oi4x19) (v := ?v4x19) ?hi4x19 (by kernel_rfl) (by kernel_rfl) (by kernel_rfl) ?hq4x19 ?hy4x19 hHeld ?rest4x19
              case hi4x19 => ((try simp only [List.getElem?_toArray, List.getElem?_cons_succ, List.getElem?_cons_zero]); (try rfl))
              case hq4x19 => exact fun _ _ _ h => h
              case hy4x19 => exact Or.inl ⟨by rfl, by intro w hSw; clear hSw; go_simp; try with_reducible rfl⟩
              try simp only [Act.put, List.setIfInBounds_toArray, List.set_cons_zero, List.set_cons_succ]
              refine wpAnyH_take (i := 5) (oi := ?oi5x20) (v := ?v5x20) ?hi5x20 (by kernel_rfl) (by kernel_rfl) (by kernel_rfl) ?hq5x20 ?hy5x20 hHeld ?rest5x20
              case hi5x20 => ((try simp only [List.getElem?_toArray, List.getElem?_cons_succ, List.getElem?_cons_zero]); (try rfl))
              case hq5x20 => exact fun _ _ _ h => h
              case hy5x20 => exact Or.inl ⟨by rfl, by intro w hSw; clear hSw; go_simp; try with_reducible rfl⟩
              try simp only [Act.put, List.setIfInBounds_toArray, List.set_cons_zero, List.set_cons_succ]
              refine wpAnyH_take (i := 6) (oi := ?oi6x21) (v := ?v6x21) ?hi6x21 (by kernel_rfl) (by kernel_rfl) (by kernel_rfl) ?hq6x21 ?hy6x21 hHeld ?rest6x21
              case hi6x21 => ((try simp only [List.getElem?_toArray, List.getElem?_cons_succ, List.getElem?_cons_zero]); (try rfl))
              case hq6x21 => exact fun _ _ _ h => h
              case hy6x21 => exact Or.inl ⟨by rfl, by intro w hSw; clear hSw; go_simp; try with_reducible rfl⟩
              try simp only [Act.put, List.setIfInBounds_toArray, List.set_cons_zero, List.set_cons_succ]
              refine wpAnyH_take (i := 7) (oi := ?oi7x22) (v := ?v7x22) ?hi7x22 (by kernel_rfl) (by kernel_rfl) (by kernel_rfl) ?hq7x22 ?hy7x22 hHeld ?rest7x22
              case hi7x22 => ((try simp only [List.getElem?_toArray, List.getElem?_cons_succ, List.getElem?_cons_zero]); (try rfl))
              case hq7x22 => exact fun _ _ _ h => h
              case hy7x22 => 
                refine' yieldsIf_load_mid ?_ 23 (.tmp 33) ?_ g (m * 8) ?_ (obsC p) _ ?_ Tryz.underlying23 ?_ info8
                · rfl
                · rfl
                · rfl
                · exact fun _ h => SW.row h hml HP.out
                · rfl
              try simp only [Act.put, List.setIfInBounds_toArray, List.set_cons_zero, List.set_cons_succ]
              refine wpAnyH_take (i := 8) (oi := ?oi8x23) (v := ?v8x23) ?hi8x23 (by kernel_rfl) (by kernel_rfl) (by kernel_rfl) ?hq8x23 ?hy8x23 hHeld ?rest8x23
              case hi8x23 => ((try simp only [List.getElem?_toArray, List.getElem?_cons_succ, List.getElem?_cons_zero]); (try rfl))
              case hq8x23 => exact fun _ _ _ h => h
              case hy8x23 => exact Or.inl ⟨by rfl, by intro w hSw; clear hSw; go_simp; try with_reducible rfl⟩
              try simp only [Act.put, List.setIfInBounds_toArray, List.set_cons_zero, List.set_cons_succ]
              refine wpAnyH_take (i := 9) (oi := ?oi9x24) (v := ?v9x24) ?hi9x24 (by kernel_rfl) (by kernel_rfl) (by kernel_rfl) ?hq9x24 ?hy9x24 hHeld ?rest9x24
              case hi9x24 => ((try simp only [List.getElem?_toArray, List.getElem?_cons_succ, List.getElem?_cons_zero]); (try rfl))
              case hq9x24 => exact fun _ _ _ h => h
              case hy9x24 => exact Or.inl ⟨by rfl, by intro w hSw; clear hSw; go_simp; try with_reducible rfl⟩
              try simp only [Act.put, List.setIfInBounds_toArray, List.set_cons_zero, List.set_cons_succ]
              refine wpAnyH_take (i := 10) (oi := ?oi10x25) (v := ?v10x25) ?hi10x25 (by kernel_rfl) (by kernel_rfl) (by kernel_rfl) ?hq10x25 ?hy10x25 hHeld ?rest10x25
              case hi10x25 => ((try simp only [List.getElem?_toArray, List.getElem?_cons_succ, List.getElem?_cons_zero]); (try rfl))
              case hq10x25 => exact fun _ _ _ h => h
              case hy10x25 => exact Or.inl ⟨by rfl, by intro w hSw; clear hSw; go_simp; try with_reducible rfl⟩
              try simp only [Act.put, List.setIfInBounds_toArray, List.set_cons_zero, List.set_cons_succ]
              refine wpAnyH_take (i := 11) (oi := ?oi11x26) (v := ?v11x26) ?hi11x26 (by kernel_rfl) (by kernel_rfl) (by kernel_rfl) ?hq11x26 ?hy11x26 hHeld ?rest11x26
              case hi11x26 => ((try simp only [List.getElem?_toArray, List.getElem?_cons_succ, List.getElem?_cons_zero]); (try rfl))
              case hq11x26 => exact fun _ _ _ h => h
              case hy11x26 => 
                refine' yieldsIf_load_mid ?_ 23 (.tmp 37) ?_ g (j * 8) ?_ (obsC q) _ ?_ Tryz.underlying23 ?_ info8
                · rfl
                · rfl
                · rfl
                · exact fun _ h => SW.row h hjl HQ.out
                · rfl
              try simp only [Act.put, List.setIfInBounds_toArray, List.set_cons_zero, List.set_cons_succ]
              refine wpAnyH_ready (rs := [12]) (by kernel_rfl) (by simp) ?_
              refine AllReadyH.cons rfl (fun K' hK => ?_) AllReadyH.nil
              have H1 := Lib.hid hHeld
              clear hHeld
              go_simp
              refine (CP.out _).mono ?_
              rintro e w9 ⟨rfl, hb9⟩
              refine hK.out _ _ (H1.out.call hb9) (fun hHeld => ?_)
              clear hK H1 hb9
              try simp only [Act.put, List.setIfInBounds_toArray, List.set_cons_zero, List.set_cons_succ]
              refine wpAnyH_take (i := 13) (oi := ?oi13x27) (v := ?v13x27) ?hi13x27 (by kernel_rfl) (by kernel_rfl) (by kernel_rfl) ?hq13x27 ?hy13x27 hHeld ?rest13x27
              case hi13x27 => ((try simp only [List.getElem?_toArray, List.getElem?_cons_succ, List.getElem?_cons_zero]); (try rfl))
              case hq13x27 => exact fun _ _ _ h => h
              case hy13x27 => exact Or.inl ⟨by rfl, by intro w hSw; clear hSw; go_simp; try with_reducible rfl⟩
              try simp only [Act.put, List.setIfInBounds_toArray, List.set_cons_zero, List.set_cons_succ]
              refine wpAnyH_take (i := 14) (oi := ?oi14x28) (v := ?v14x28) ?hi14x28 (by kernel_rfl) (by kernel_rfl) (by kernel_rfl) ?hq14x28 ?hy14x28 hHeld ?rest14x28
              case hi14x28 => ((try simp only [List.getElem?_toArray, List.getElem?_cons_succ, List.getElem?_cons_zero]); (try rfl))
              case hq14x28 => exact fun _ _ _ h => h
              case hy14x28 => exact Or.inl ⟨by rfl, by intro w hSw; clear hSw; go_simp; try with_reducible rfl⟩
              try simp only [Act.put, List.setIfInBounds_toArray, List.set_cons_zero, List.set_cons_succ]
              refine wpAnyH_done (by kernel_rfl) ?_ _
              have OK := ST
              have O4 := Lib.hid (show OwnO w9 w.heap.size (.slice (some ⟨g, 0, none⟩) (k + 1) cp) z by have := hHeld.own; rwa [ZZ.out] at this)
              have B4 := Lib.hid hHeld.below
              have P4 := Lib.hid (PZ.out.trans P2.out)
              clear CP hHeld SZ PZ BZ P2 ZZ ST
              go_wp2_with fail
              go_roundw
              case rel => exact ⟨k + 1, z, by omega, by go_num, O4, Lib.hid ⟨P4.out, OK.out⟩, B4⟩
              case measure => simp [intOf]; omega
      · obtain rfl : k = n := by omega
        have tk : l.take k = l := by rw [← NL.out, List.take_length]
        have PO2 := PO.out
        rw [tk] at PO2
        have F := Lib.hid (FIN.out y PO2.1 PO2.2)
        have SV := Lib.hid (slV_of O.out.1)
        clear HL O tk PO PO2 FIN HBS
        go_wp2_with fail
        go_ret2
        exact ⟨_, y, 0, rfl, F.out, SV.out, B.out⟩
  · have FIN := Lib.hid (show SortIs l [] (allC l) from Or.inr ⟨hz, rfl, rfl⟩)
    have hnz : (allC l != 0) = true := by rw [bne, beq_eq_false_iff_ne.2 hz]; rfl
    clear hl hb hnl hm HL hz HBS
    generalize allC l = K at *
    go_enter Tryz.func25, Tryz.ntmps25
    go_wp2_with fail
    refine CA.out.mono ?_
    rintro e w1 ⟨rfl, hb1⟩
    have B1 := Lib.hid hb1
    clear hb1 CA
    go_wp2_with fail
    go_ret2
    exact ⟨_, [], K, rfl, FIN.out, SlV.nil _, B1.out⟩
end Ow
end Go.Proofs.YtgodhaphbgllhaaGreatDoor
/-
  The walks of PrintAll, ParseAll of the reference of observations.
-/
namespace Go.Proofs.YtgodhaphbgllhaaGreatDoor
namespace Ow
open Go.RowKit Lw Go.Proofs.YtgodhaphbgllhaaGreatDoor.Ap Go.Proofs.YtgodhaphbgllhaaGreatDoor.Op Go.Proofs.YtgodhaphbgllhaaGreatDoor.Mp Go.Proofs.YtgodhaphbgllhaaGreatDoor.Mw Go.Proofs.YtgodhaphbgllhaaGreatDoor.At

set_option maxRecDepth 100000 in
set_option maxHeartbeats 8000000 in
theorem rprintall_any (x : Option Addr) (cap : Nat) (l : List Ob) (w : World) (hl : SlA w x l) (hm : l.length ≤ 1000000) (hb : OBs l) :
    Calls Tryz.prog 21 #[.slice x l.length cap] w (PrintAllPost l w) := by
  have HL := Lib.hid (fun w' (h : Below w.heap.size w w') => hl.below h)
  have CA := Lib.hid (rall_any x cap l w hl hm hb)
  obtain ⟨n, hnl⟩ : ∃ n, l.length = n := ⟨_, rfl⟩
  by_cases hz : allC l = 0
  · have LI := Lib.hid (fun i (h : i < l.length) w' => rline_ok (l[i]'h) w' (hb i h).t0 (hb i h).t1 (hb i h).n1 ((allC_ok hz).2 _ (List.getElem_mem h)))
    have OK := Lib.hid (fun i (h : i < l.length) => (allC_ok hz).2 _ (List.getElem_mem h))
    have n5 : n ≤ 500 := by have := (allC_ok hz).1; omega
    have FIN : Hid (∀ s, LinesTo l n s → PrintAllIs l s 0) := Lib.hid (fun s h => Or.inl ⟨hz, by rw [hnl]; exact h, rfl⟩)
    rw [hz] at CA
    rw [hnl] at CA ⊢
    have NL := Lib.hid hnl
    clear hl hb hnl hz hm
    go_enter Tryz.func21, Tryz.ntmps21
    go_wp2_with fail
    refine CA.out.mono ?_
    rintro e w1 ⟨rfl, hb1⟩
    have B1 := Lib.hid hb1
    clear hb1 CA
    go_wp2_with fail
    go_loopw [5, 6] (fun sv i wr => ∃ (k : Nat) (s : ByteArray), k ≤ n ∧ sv = .string s ∧ i = .int .i64 k ∧ Hid (LinesTo l k s) ∧ Hid (Below w.heap.size w wr)) (fun _ i _ => n - (intOf i).toNat)
    case atStart => exact ⟨0, _, Nat.zero_le _, rfl, rfl, Lib.hid rfl, B1⟩
    case round =>
      obtain ⟨k, s, hk, rfl, rfl, HS, B⟩ := hrel
      have zs := HS.out.size
      clear B1
      by_cases hlt : k < n
      · have hkl : k < l.length := by rw [NL.out]; exact hlt
        obtain ⟨b, off, rfl, lt, row⟩ := (HL.out _ B.out).get hkl
        have R := Lib.hid (row k hkl)
        have LIk := Lib.hid (LI.out k hkl)
        have OKk := Lib.hid (OK.out k hkl)
        have ST : Hid (∀ t, PrintIs (l[k]'hkl) t 0 → LinesTo l (k + 1) (s ++ (t ++ nlS))) := Lib.hid (fun t h => ⟨s, t, _, HS.out, List.getElem?_eq_getElem hkl, h, rfl⟩)
        have i1 : (k : Int) < (n : Int) := by omega
        clear FIN row lt LI OK HS
        generalize l[k]'hkl = o at *
        go_wp2_with (refine wpList_load_mid rfl _ (.tmp 21) rfl b (off + k * 8) rfl (obsC o) _ R.out Tryz.underlying23 rfl info8 ?_)
        refine (LIk.out _).mono ?_
        rintro e w2 ⟨day, hd, rfl, hb2⟩
        have hP : PrintIs o ⟨(lineL day o).toArray⟩ 0 := Or.inl ⟨OKk.out, ⟨day, hd, rfl⟩, rfl⟩
        obtain ⟨t, ht⟩ : ∃ t : ByteArray, ⟨(lineL day o).toArray⟩ = t := ⟨_, rfl⟩
        rw [ht] at hP ⊢
        have zt := print0_size hP
        have B2 := Lib.hid (below_then B.out hb2)
        have ST2 := Lib.hid (ST.out t hP)
        clear hb2 B LIk R hP ST OKk ht hd
        obtain ⟨t2, ht2⟩ : ∃ t2, t ++ nlS = t2 := ⟨_, rfl⟩
        rw [ht2] at ST2
        have zt2 : t2.size = 81 := by rw [← ht2, ByteArray.size_append, zt]; rfl
        have cat : ∀ w', (Go.Op.stringOp .add t ⟨#[10]⟩).run Tryz.prog w' = .ok (.string t2) w' := fun w' => by rw [run_string_add_sum (P := Tryz.prog) (w := w') _ _ (by rw [zt]; decide), ← ht2]; rfl
        obtain ⟨t3, ht3⟩ : ∃ t3, s ++ t2 = t3 := ⟨_, rfl⟩
        rw [ht3] at ST2
        have cat2 : ∀ w', (Go.Op.stringOp .add s t2).run Tryz.prog w' = .ok (.string t3) w' := fun w' => by rw [run_string_add_sum (P := Tryz.prog) (w := w') _ _ (by rw [zs, zt2]; omega), ← ht3]
        clear ht2 ht3 zs zt zt2
        go_wp2_with fail
        go_roundw
        case rel => exact ⟨k + 1, _, by omega, rfl, by go_num, ST2, B2⟩
        case measure => simp [intOf]; omega
      · obtain rfl : k = n := by omega
        have F := Lib.hid (FIN.out s HS.out)
        clear HL LI FIN OK HS NL
        go_wp2_with fail
        go_ret2
        exact ⟨s, 0, rfl, F.out, B.out⟩
  · have FIN := Lib.hid (show PrintAllIs l ByteArray.empty (allC l) from Or.inr ⟨hz, rfl, rfl⟩)
    have hnz : (allC l != 0) = true := by rw [bne, beq_eq_false_iff_ne.2 hz]; rfl
    clear hl hb hnl hm HL hz
    generalize allC l = K at *
    go_enter Tryz.func21, Tryz.ntmps21
    go_wp2_with fail
    refine CA.out.mono ?_
    rintro e w1 ⟨rfl, hb1⟩
    have B1 := Lib.hid hb1
    clear hb1 CA
    go_wp2_with fail
    go_ret2
    exact ⟨_, K, rfl, FIN.out, B1.out⟩
theorem rstep_yes {s : ByteArray} {k : Nat} {q : Ob} {r : ByteArray} (hr : r = s.extract (81 * k) s.size) (hk : 81 * k ≤ s.size) (h81 : 81 ≤ r.size) (h10 : bt r 80 = 10) (g : Op.Good (r.extract 0 80) q) : StepAt s k q ∧ r.extract 81 r.size = s.extract (81 * (k + 1)) s.size ∧ 81 * (k + 1) ≤ s.size := by
  subst hr
  have zr : (s.extract (81 * k) s.size).size = s.size - 81 * k := by rw [ByteArray.size_extract]; omega
  have e : (s.extract (81 * k) s.size).extract 0 80 = s.extract (81 * k) (81 * k + 80) := by rw [ext_ext3 _ _ _ _ _ (by omega) (Nat.le_refl _)]; rfl
  rw [e] at g
  rw [Op.bt_ext s _ _ 80 (by omega) (Nat.le_refl _)] at h10
  refine ⟨⟨by omega, g, h10⟩, ?_, by omega⟩
  rw [zr, ext_ext3 _ _ _ _ _ (by omega) (Nat.le_refl _)]
  congr 1
  omega
theorem rstep_no {s : ByteArray} {k : Nat} {r : ByteArray} (hr : r = s.extract (81 * k) s.size) (hk : 81 * k ≤ s.size) (g : r.size < 81 ∨ bt r 80 ≠ 10 ∨ ∀ x, ¬ Op.Good (r.extract 0 80) x) : ∀ o, ¬ StepAt s k o := fun o ⟨z, go, e10⟩ => by
  subst hr
  have zr : (s.extract (81 * k) s.size).size = s.size - 81 * k := by rw [ByteArray.size_extract]; omega
  rcases g with g | g | g
  · omega
  · rw [Op.bt_ext s _ _ 80 (by omega) (Nat.le_refl _)] at g
    exact g e10
  · have e : (s.extract (81 * k) s.size).extract 0 80 = s.extract (81 * k) (81 * k + 80) := by rw [ext_ext3 _ _ _ _ _ (by omega) (Nat.le_refl _)]; rfl
    exact g o (by rw [e]; exact go)
set_option maxRecDepth 100000 in
set_option maxHeartbeats 8000000 in
theorem rparseall_any (s : ByteArray) (w : World) (hs : s.size ≤ 1000) : Calls Tryz.prog 23 #[.string s] w (ParseAllPost s w) := by
  have PA := Lib.hid (fun (a : ByteArray) (h : a.size ≤ maxLen) w' => rparse_any a w' h)
  go_enter Tryz.func23, Tryz.ntmps23
  go_wp2_with fail
  go_loopw [0, 4] (fun r v wr => ∃ (k : Nat) (l : List Ob) (R : ByteArray), r = .string R ∧ Hid (R = s.extract (81 * k) s.size) ∧ Hid (PartTo s k l) ∧ Hid (OwnO wr w.heap.size v l) ∧ Hid (Below w.heap.size w wr)) (fun r _ _ => lenOfV r)
  case atStart => exact ⟨0, [], s, rfl, Lib.hid (ext_all s).symm, Lib.hid rfl, Lib.hid (OwnO.nil w _ (Nat.le_refl _)), Lib.hid (Below.refl _ _)⟩
  case round =>
    obtain ⟨k, l, R, rfl, HR, HP, HO, HB⟩ := hrel
    have zk := HP.out.len
    have zR : R.size = s.size - 81 * k := by rw [HR.out, ByteArray.size_extract]; omega
    by_cases h0 : R.size = 0
    · have em : ¬ (0 : Int) < (R.size : Int) := by omega
      have F := Lib.hid (show ParseAllIs s l 0 from ⟨k, l, HP.out, Or.inl ⟨by omega, by omega, rfl, rfl⟩⟩)
      obtain ⟨x, cap, rfl, hx⟩ := slV_of HO.out.1
      have HX := Lib.hid hx
      have n5 : ¬ (500 : Int) < (l.length : Int) := by omega
      have B0 := Lib.hid HB.out
      clear hx HP HO HR HB PA zk zR h0
      go_wp2_with fail
      go_ret2
      exact ⟨_, l, 0, rfl, F.out, ⟨x, cap, rfl, HX.out⟩, B0.out⟩
    · have em : (0 : Int) < (R.size : Int) := by omega
      have z1 : R.size ≤ 1000 := by omega
      have LT := Lib.hid (show 81 * k < s.size by have := zk.2; omega)
      have NO := Lib.hid (fun (g : R.size < 81 ∨ bt R 80 ≠ 10 ∨ ∀ x, ¬ Op.Good (R.extract 0 80) x) => show ParseAllIs s [] 12 from ⟨k, l, HP.out, Or.inr (Or.inr ⟨LT.out, rstep_no HR.out zk.2 g, rfl, rfl⟩)⟩)
      clear h0
      by_cases h81 : R.size < 81
      · have F := Lib.hid (NO.out (Or.inl h81))
        have h81' : (R.size : Int) < 81 := by omega
        clear NO HP HO HR PA zk zR
        go_wp2_with fail
        go_ret2
        exact ⟨_, [], 12, rfl, F.out, SlV.nil _, HB.out⟩
      · have h81' : ¬ (R.size : Int) < 81 := by omega
        have i80 : (80 : Int) < (R.size : Int) := by omega
        have p80 : 80 < R.size := by omega
        have e80 := bt_of R 80 p80
        by_cases h10 : bt R 80 = 10
        · have c10 : (((R[80]'p80).toNat : Int) != 10) = false := by rw [← e80, h10]; rfl
          have sl : ∀ w', (Instr.slice 9 (.string R) none (some (.int .i64 (80 : Int))) none).run Tryz.prog w' = .ok (.string (R.extract 0 80)) w' := fun w' => by
            have := run_slice_string_h (P := Tryz.prog) (w := w') (t := 9) (s := R) Tryz.underlying9 .i64 (80 : Int) (by omega) (by omega)
            exact this
          have PAa := Lib.hid (PA.out (R.extract 0 80) (by rw [ByteArray.size_extract]; unfold maxLen; omega))
          have NOb := Lib.hid (fun g => NO.out (Or.inr (Or.inr g)))
          have YES := Lib.hid (fun q (g : Op.Good (R.extract 0 80) q) => rstep_yes HR.out zk.2 (by omega) h10 g)
          have sl2 : ∀ w', (Instr.slice 9 (.string R) (some (.int .i64 (81 : Int))) none none).run Tryz.prog w' = .ok (.string (R.extract 81 R.size)) w' := fun w' => by
            have := run_slice_string_l (P := Tryz.prog) (w := w') (t := 9) (s := R) Tryz.underlying9 .i64 (81 : Int) (by omega) (by omega)
            exact this
          have zb : (R.extract 81 R.size).size < R.size := by rw [ByteArray.size_extract]; omega
          clear NO PA h10 e80 HR zR
          generalize R.extract 0 80 = a at *
          generalize R.extract 81 R.size = b at *
          go_wp2_with fail
          refine (PAa.out _).mono ?_
          rintro e w2 ⟨q, c, rfl, hP, hb2⟩
          have bx := (Below.refl w2.heap.size w2).alloc (Nat.le_refl _) (.cells (obsC q).toArray 23)
          have O2 := Lib.hid ((HO.out.below hb2).below bx)
          have B2 := Lib.hid (below_then (below_then HB.out hb2) bx)
          have X2 := Lib.hid (Box.new w2 q)
          clear hb2 HO HB PAa bx
          rcases obs_c hP with ⟨g, rfl⟩ | ⟨g, rfl⟩
          · obtain ⟨st, hb, hk1⟩ := YES.out q g
            have HP1 := Lib.hid (show PartTo s (k + 1) (l ++ [q]) from ⟨l, q, HP.out, st, rfl⟩)
            have HR1 := Lib.hid hb
            have zl : l.length ≤ 1000000 := by have := zk.1; omega
            clear hP HP zk g st hb hk1 NOb YES
            go_wp2_with (first | (refine wpList_store_new rfl _ (.tmp 5) (.tmp 22) rfl _ _ rfl rfl info8 rfl ?_ ?_; simp [Value.oneCell']) | (refine wpList_load_mid rfl _ (.tmp 5) rfl w2.heap.size 0 rfl (obsC q) _ X2.out.row Tryz.underlying23 rfl info8 ?_) | (at_builtin; refine wp_app _ rfl (.tmp 27) (.tmp 29) rfl w.heap.size _ l q rfl (by first | rfl | simp [Act.eval]) O2.out zl ?_; intro v' w3 hO3 hb3))
            have B3 := Lib.hid (B2.out.trans hb3)
            have O3 := Lib.hid hO3
            clear hO3 hb3 B2 O2 X2
            go_wp2_with fail
            go_roundw
            case rel => exact ⟨k + 1, _, b, rfl, HR1, HP1, O3, B3⟩
            case measure => exact zb
          · have F := Lib.hid (NOb.out g)
            clear hP HP zk g NOb YES X2 O2 sl2
            go_wp2_with (refine wpList_store_new rfl _ (.tmp 5) (.tmp 22) rfl _ _ rfl rfl info8 rfl ?_ ?_; simp [Value.oneCell'])
            go_ret2
            exact ⟨_, [], 12, rfl, F.out, SlV.nil _, B2.out⟩
        · have c10 : (((R[80]'p80).toNat : Int) != 10) = true := by rw [← e80, bne, beq_eq_false_iff_ne.2 h10]; rfl
          have F := Lib.hid (NO.out (Or.inr (Or.inl h10)))
          clear NO HP HO HR PA zk zR e80 h10
          go_wp2_with fail
          go_ret2
          exact ⟨_, [], 12, rfl, F.out, SlV.nil _, HB.out⟩
end Ow
end Go.Proofs.YtgodhaphbgllhaaGreatDoor
/-
  The walk of the law ObsFiles.
-/
namespace Go.Proofs.YtgodhaphbgllhaaGreatDoor
namespace Ow
open Go.RowKit Lw Go.Proofs.YtgodhaphbgllhaaGreatDoor.Ap Go.Proofs.YtgodhaphbgllhaaGreatDoor.Op Go.Proofs.YtgodhaphbgllhaaGreatDoor.Mp Go.Proofs.YtgodhaphbgllhaaGreatDoor.Mw Go.Proofs.YtgodhaphbgllhaaGreatDoor.At

theorem parse_len {s : ByteArray} {l : List Ob} {c : Int} (h : ParseAllIs s l c) (hs : s.size ≤ 1000) : l.length ≤ 1000000 := by
  obtain ⟨k, l', hp, h⟩ := h
  have := hp.len
  rcases h with ⟨_, _, rfl, _⟩ | ⟨_, _, rfl, _⟩ | ⟨_, _, rfl, _⟩
  · omega
  · simp
  · simp
theorem sort_len {l x : List Ob} {c : Int} (h : SortIs l x c) (hl : l.length ≤ 1000000) : x.length ≤ 1000000 := by
  rcases h with ⟨_, h, _⟩ | ⟨_, rfl, _⟩
  · rw [h.length_eq]; exact hl
  · simp
set_option maxRecDepth 100000 in
set_option maxHeartbeats 40000000 in
theorem files_main (x : Option Addr) (cap : Nat) (l : List Ob) (s : ByteArray) (w : World) (hT : Gt.Tab w) (hE : ES w) (hl : SlA w x l) (hc : x = none → l = [] ∧ cap = 0) (hb : OBs l) (hs : s.size ≤ 1000) (hg : greatB l 12 = false) : Calls Tryz.prog 7 #[.slice x l.length cap, .string s] w fun e w' => e = .returned (.bool true) ∧ Below w.heap.size w w' := by
  have n5 := great_len hg
  have hm : l.length ≤ 1000000 := by omega
  have HL := Lib.hid (fun w' (h : Below w.heap.size w w') => hl.below h)
  have HE := Lib.hid (fun w' (h : Below w.heap.size w w') => hE.below h)
  have HT := Lib.hid (fun w' (h : Below w.heap.size w w') => hT.below h)
  have GR := great_sl x cap l w hl (by omega) hb
  rw [hg] at GR
  replace GR := Lib.hid GR
  have h1000 : ¬ (1000 : Int) < (s.size : Int) := by omega
  have P1 := Lib.hid (fun w' (h : Below w.heap.size w w') => printall_any x cap l w' (HT.out _ h) (HE.out _ h) (HL.out _ h) hm hb)
  have P2 := Lib.hid (fun y d w' (h : SlA w' y l) => rprintall_any y d l w' h hm hb)
  have P3 := Lib.hid (fun w' (h : Below w.heap.size w w') => parseall_any s w' (HE.out _ h) hs)
  have P4 := Lib.hid (fun w' => rparseall_any s w' hs)
  have P5 := Lib.hid (fun w' (h : Below w.heap.size w w') => sort_any x cap l w' (HE.out _ h) (HL.out _ h) hm hb)
  have P6 := Lib.hid (fun y d w' (h : SlA w' y l) => rsort_any y d l w' h hm hb)
  have S3 := Lib.hid (fun w' y d (h : Below w.heap.size w w') (g : SlA w' y l) => same_any x y cap d l w' (HL.out _ h) g hm)
  have HC := Lib.hid hc
  have HS := Lib.hid hs
  clear hl hE hT hb hg hc hs
  rcases x with _ | ad
  all_goals
    first
    | (obtain ⟨e1, e2⟩ := HC.out rfl; subst e1 e2; rw [List.length_nil]; rw [List.length_nil] at P1 GR P5 S3)
    | skip
    go_enter Tryz.func7, Tryz.ntmps7
    go_wp2_with fail
    refine GR.out.mono ?_
    rintro e w1 ⟨rfl, rfl⟩
    clear GR
    go_wp2_with (first | (at_builtin; refine wp_copy0 _ rfl (.tmp 25) (.tmp 26) rfl rfl rfl ?_; intro v' w3 hO hb3) | (at_builtin; refine wp_copy _ rfl (.tmp 25) (.tmp 26) rfl l ad cap rfl rfl (HL.out _ (Below.refl _ _)) hm ?_; intro v' w3 hO hb3))
    obtain ⟨y, d, rfl, hy⟩ := slV_of hO.1
    have B3 := Lib.hid hb3
    have HY := Lib.hid (fun w' (h : Below w3.heap.size w3 w') => hy.below h)
    clear hO hb3 hy
    first | rw [List.length_nil] at * | skip
    go_wp2_with fail
    refine (P1.out _ B3.out).mono ?_
    rintro e w4 ⟨S, c, rfl, hP, hb4⟩
    have HP := Lib.hid hP
    have C4 := Lib.hid hb4
    have B4 := Lib.hid (below_then B3.out hb4)
    clear hP hb4 P1
    go_wp2_with fail
    refine (P2.out _ _ _ (HY.out _ C4.out)).mono ?_
    rintro e w5 ⟨S', c', rfl, hP, hb5⟩
    obtain ⟨rfl, rfl⟩ := HP.out.uniq hP
    have C5 := Lib.hid (below_then C4.out hb5)
    have B5 := Lib.hid (below_then B4.out hb5)
    clear hP hb5 P2 HP C4 B4
    go_wp2_with fail
    refine (P3.out _ B5.out).mono ?_
    rintro e w6 ⟨v1, m, c1, rfl, hQ, hv1, hb6⟩
    have HQ := Lib.hid hQ
    have ZM := Lib.hid (parse_len hQ HS.out)
    obtain ⟨x1, d1, rfl, hx1⟩ := hv1
    have X1 := Lib.hid (fun w' (h : Below w6.heap.size w6 w') => hx1.below h)
    have C6 := Lib.hid (below_then C5.out hb6)
    have B6 := Lib.hid (below_then B5.out hb6)
    clear hQ hx1 hb6 P3 C5 B5
    go_wp2_with fail
    refine (P4.out _).mono ?_
    rintro e w7 ⟨v2, m', c1', rfl, hQ, hv2, hb7⟩
    obtain ⟨rfl, rfl⟩ := HQ.out.uniq hQ
    obtain ⟨x2, d2, rfl, hx2⟩ := hv2
    have X2 := Lib.hid (fun w' (h : Below w7.heap.size w7 w') => hx2.below h)
    have D7 := Lib.hid hb7
    have C7 := Lib.hid (below_then C6.out hb7)
    have B7 := Lib.hid (below_then B6.out hb7)
    clear hQ hx2 hb7 P4 C6 B6 HQ
    go_wp2_with fail
    refine (P5.out _ B7.out).mono ?_
    rintro e w8 ⟨v3, t, c2, rfl, hR, hv3, hb8⟩
    have HR := Lib.hid hR
    have ZT := Lib.hid (sort_len hR hm)
    obtain ⟨x3, d3, rfl, hx3⟩ := hv3
    have X3 := Lib.hid (fun w' (h : Below w8.heap.size w8 w') => hx3.below h)
    have E8 := Lib.hid hb8
    have D8 := Lib.hid (below_then D7.out hb8)
    have C8 := Lib.hid (below_then C7.out hb8)
    have B8 := Lib.hid (below_then B7.out hb8)
    clear hR hx3 hb8 P5 D7 C7 B7
    go_wp2_with fail
    refine (P6.out _ _ _ (HY.out _ C8.out)).mono ?_
    rintro e w9 ⟨v4, t', c2', rfl, hR, hv4, hb9⟩
    obtain ⟨rfl, rfl⟩ := HR.out.uniq hR
    obtain ⟨x4, d4, rfl, hx4⟩ := hv4
    have X4 := Lib.hid (fun w' (h : Below w9.heap.size w9 w') => hx4.below h)
    have F9 := Lib.hid hb9
    have E9 := Lib.hid (below_then E8.out hb9)
    have D9 := Lib.hid (below_then D8.out hb9)
    have C9 := Lib.hid (below_then C8.out hb9)
    have B9 := Lib.hid (below_then B8.out hb9)
    clear hR hx4 hb9 P6 C8 B8 HR E8 D8
    go_wp2_with fail
    refine (same_any x1 x2 d1 d2 m w9 (X1.out _ D9.out) (X2.out _ E9.out) ZM.out).mono ?_
    rintro e w10 ⟨rfl, hb10⟩
    have X3b := Lib.hid ((X3.out _ F9.out).below hb10)
    have X4b := Lib.hid ((X4.out _ (Below.refl _ _)).below hb10)
    have B10 := Lib.hid (below_then B9.out hb10)
    have C10 := Lib.hid (below_then C9.out hb10)
    clear hb10 X1 X2 X3 X4 F9 E9 D9 C9 B9 ZM
    go_wp2_with fail
    refine (same_any x3 x4 d3 d4 t w10 X3b.out X4b.out ZT.out).mono ?_
    rintro e w11 ⟨rfl, hb11⟩
    have B11 := Lib.hid (below_then B10.out hb11)
    have C11 := Lib.hid (below_then C10.out hb11)
    clear hb11 X3b X4b B10 C10 ZT
    go_wp2_with fail
    refine (S3.out _ _ _ B11.out (HY.out _ C11.out)).mono ?_
    rintro e w12 ⟨rfl, hb12⟩
    have B12 := Lib.hid (below_then B11.out hb12)
    clear hb12 B11 C11 S3
    go_wp2_with fail
    go_ret
    exact ⟨rfl, B12.out⟩
set_option maxRecDepth 100000 in
set_option maxHeartbeats 40000000 in
theorem files_out (x : Option Addr) (cap : Nat) (l : List Ob) (s : ByteArray) (w : World) (hl : SlA w x l) (hm : l.length ≤ 9223372036854775807) (hb : OBs l) (hs : s.size ≤ maxLen) (no : greatB l 12 = true ∨ 1000 < s.size) : Calls Tryz.prog 7 #[.slice x l.length cap, .string s] w fun e w' => e = .returned (.bool true) ∧ Below w.heap.size w w' := by
  have GR := great_sl x cap l w hl hm hb
  unfold maxLen at hs
  clear hl hb
  by_cases hg : greatB l 12 = true
  · rw [hg] at GR
    clear no
    go_enter Tryz.func7, Tryz.ntmps7
    go_wp2_with fail
    refine GR.mono ?_
    rintro e w1 ⟨rfl, rfl⟩
    go_wp2_with fail
    go_ret
    exact ⟨rfl, Below.refl _ _⟩
  · have h1000 : (1000 : Int) < (s.size : Int) := by have := no.resolve_left hg; omega
    rw [Bool.eq_false_iff.2 hg] at GR
    clear no hg
    go_enter Tryz.func7, Tryz.ntmps7
    go_wp2_with fail
    refine GR.mono ?_
    rintro e w1 ⟨rfl, rfl⟩
    go_wp2_with fail
    go_ret
    exact ⟨rfl, Below.refl _ _⟩
theorem obsfiles_any (x : Option Addr) (cap : Nat) (l : List Ob) (s : ByteArray) (w : World) (hT : Gt.Tab w) (hE : ES w) (hl : SlA w x l) (hc : x = none → l = [] ∧ cap = 0) (hm : l.length ≤ 9223372036854775807) (hb : OBs l) (hs : s.size ≤ maxLen) : Calls Tryz.prog 7 #[.slice x l.length cap, .string s] w fun e w' => e = .returned (.bool true) ∧ Below w.heap.size w w' := by
  by_cases h : greatB l 12 = true ∨ 1000 < s.size
  · exact files_out x cap l s w hl hm hb hs h
  · exact files_main x cap l s w hT hE hl hc hb (by
      rcases Nat.lt_or_ge 1000 s.size with g | g
      · exact absurd (Or.inr g) h
      · exact g) (Bool.eq_false_iff.2 fun g => h (Or.inl g))
end Ow
end Go.Proofs.YtgodhaphbgllhaaGreatDoor
/-
  An argument that is a list of observations, opened.
-/
namespace Go.Proofs.YtgodhaphbgllhaaGreatDoor
namespace Ow
open Go.RowKit Lw Go.Proofs.YtgodhaphbgllhaaGreatDoor.Op Go.ChangeShapes Go.WideShapes Go.Deep

section
variable {H : Type} {enc : TypeId × Value → H} {P : Program} {w : World} {base : Nat} {spare : Nat → Bool} {held : Bool}
theorem elem_fields {e : TypeId} {fs : Array Field} {fuel : Nat} {a : Addr} {cs : List Value} {x : DataW H × List MemPlace} (he : P.underlying e = some (.struct fs)) (hone : oneCellFields P fs = true) (hC : P.cellsOf e = fs.size)
    (hc : w.cells? base a (P.cellsOf e) = some cs) (ht : DataW.trod enc P w base spare held fuel e cs = some x) :
    ∃ n, ∀ j f, fs[j]? = some f → ∃ v y, w.cell? (a.add j) = some v ∧ DataW.trod enc P w base spare held n f.type [v] = some y := by
  rw [hC] at hc
  obtain ⟨ys, n, _, hy, hlen, hyl, hf⟩ := DataW.trod_struct he ht
  obtain ⟨_, hcl, hat⟩ := World.cells?_some hc
  refine ⟨n, fun j f hj => ?_⟩
  obtain ⟨ho, hk⟩ := hone_of hone j f hj
  have hjl : j < fs.size := (Array.getElem?_eq_some_iff.1 hj).1
  have h1 := hf j f hj
  rw [ho, hk, List.drop_eq_getElem_cons (show j < cs.length by omega)] at h1
  have hys : ys[j]? = some (ys[j]'(by omega)) := List.getElem?_eq_getElem (by omega)
  exact ⟨_, _, (hat j hjl).trans (List.getElem?_eq_getElem (by omega)), h1.trans hys⟩
end
theorem block_lt {w : World} {a : Addr} {v : Value} (h : w.cell? a = some v) : a.block < w.heap.size ∧ a.spot = none := by
  unfold World.cell? at h
  split at h
  · rename_i c _ _ hh
    refine ⟨(Array.getElem?_eq_some_iff.1 hh).1, ?_⟩
    cases hs : a.spot with
    | none => rfl
    | some s => simp [hs] at h
  · cases h
theorem one_of {a b : Value} (h : [a] = [b]) : a = b := by injection h
theorem add_none {b off k : Nat} : (⟨b, off, none⟩ : Addr).add k = ⟨b, off + k, none⟩ := Addr.add_mid b off k
/-- One element. -/
theorem obs_elem {H : Type} {enc : TypeId × Value → H} {w : World} {base : Nat} {spare : Nat → Bool} {held : Bool} {m b off : Nat} {cs : List Value} {x : DataW H × List MemPlace}
    (hc : w.cells? base ⟨b, off, none⟩ (Tryz.prog.cellsOf 23) = some cs) (ht : DataW.trod enc Tryz.prog w base spare held m 23 cs = some x) :
    ∃ o : Ob, OB o ∧ w.rangeAt b off (obsC o) := by
  obtain ⟨n, hf⟩ := elem_fields Tryz.underlying23 (by kernel_rfl) (by kernel_rfl) hc ht
  obtain ⟨v0, y0, k0, t0⟩ := hf 0 _ rfl
  obtain ⟨v1, y1, k1, t1⟩ := hf 1 _ rfl
  obtain ⟨v2, y2, k2, t2⟩ := hf 2 _ rfl
  obtain ⟨v3, y3, k3, t3⟩ := hf 3 _ rfl
  obtain ⟨v4, y4, k4, t4⟩ := hf 4 _ rfl
  obtain ⟨v5, y5, k5, t5⟩ := hf 5 _ rfl
  obtain ⟨v6, y6, k6, t6⟩ := hf 6 _ rfl
  obtain ⟨v7, y7, k7, t7⟩ := hf 7 _ rfl
  obtain ⟨a0, e0, _, w0⟩ := DataW.trod_string Tryz.underlying9 t0
  obtain ⟨a1, e1, _, w1⟩ := DataW.trod_string Tryz.underlying9 t1
  obtain ⟨a2, e2, _, w2⟩ := DataW.trod_int Tryz.underlying2 t2
  obtain ⟨a3, e3, _, w3⟩ := DataW.trod_int Tryz.underlying2 t3
  obtain ⟨a4, e4, _, w4⟩ := DataW.trod_int Tryz.underlying2 t4
  obtain ⟨a5, e5, _, w5⟩ := DataW.trod_int Tryz.underlying2 t5
  obtain ⟨a6, e6, _, w6⟩ := DataW.trod_int Tryz.underlying3 t6
  obtain ⟨a7, e7, _, w7⟩ := DataW.trod_int Tryz.underlying5 t7
  obtain rfl := one_of e0
  obtain rfl := one_of e1
  obtain rfl := one_of e2
  obtain rfl := one_of e3
  obtain rfl := one_of e4
  obtain rfl := one_of e5
  obtain rfl := one_of e6
  obtain rfl := one_of e7
  have b2 := bounds_i64 w2
  have b7 := bounds_u8 w7
  rw [add_none] at k0 k1 k2 k3 k4 k5 k6 k7
  refine ⟨⟨a0, a1, a2, a3, a4, a5, a6, a7⟩, ⟨b2.1, b2.2, b7.1, by show a7 ≤ 255; omega, w0, w1⟩, fun j v hv => ?_⟩
  match j, hv with
  | 0, hv => cases hv; exact k0
  | 1, hv => cases hv; exact k1
  | 2, hv => cases hv; exact k2
  | 3, hv => cases hv; exact k3
  | 4, hv => cases hv; exact k4
  | 5, hv => cases hv; exact k5
  | 6, hv => cases hv; exact k6
  | 7, hv => cases hv; exact k7
  | k + 8, hv => simp at hv
theorem obs_list {H : Type} {enc : TypeId × Value → H} {w : World} {base : Nat} {spare : Nat → Bool} {held : Bool} {x : Option Addr} {len cap : Nat} {d : DataW H} {p : List MemPlace}
    (h : DataW.Trod enc Tryz.prog w base spare held 25 (.slice x len cap) d p) :
    len ≤ 9223372036854775807 ∧ ∃ l : List Ob, l.length = len ∧ SlA w x l ∧ OBs l ∧ (x = none → l = [] ∧ cap = 0) := by
  obtain ⟨fuel, hf⟩ := h
  rcases open_slice Tryz.underlying25 hf with ⟨hc, _⟩ | ⟨a, ln, cp, m, n, D, Pl, hcs, hb, hl, hmx, hmm, hx, hi⟩
  · have := one_of hc
    cases this
    exact ⟨by omega, [], rfl, Or.inl rfl, fun i hi => by simp at hi, fun _ => ⟨rfl, rfl⟩⟩
  · have := one_of hcs
    cases this
    refine ⟨by unfold maxLen at hmx; omega, ?_⟩
    by_cases h0 : len = 0
    · subst h0
      exact ⟨[], rfl, Or.inl rfl, fun i hi => by simp at hi, fun h => by cases h⟩
    · have hml : len ≤ m := by rw [hmm]; split <;> omega
      obtain ⟨b, off, spot⟩ := a
      obtain ⟨cs0, hc0, ht0⟩ := hi 0 (by omega)
      obtain ⟨n0, hf0⟩ := elem_fields Tryz.underlying23 (by kernel_rfl) (by kernel_rfl) hc0 ht0
      obtain ⟨v0, y0, k0, _⟩ := hf0 0 _ rfl
      have k0' : w.cell? ⟨b, off, spot⟩ = some v0 := by simpa [Addr.add] using k0
      obtain ⟨hlt, hsp⟩ := block_lt k0'
      obtain rfl : spot = none := hsp
      have hc8 : Tryz.prog.cellsOf 23 = 8 := by kernel_rfl
      have key : ∀ k, ∃ o : Ob, k < len → OB o ∧ w.rangeAt b (off + k * 8) (obsC o) := fun k => by
        by_cases hk : k < len
        · obtain ⟨cs', hc', ht'⟩ := hi k (by omega)
          rw [add_none] at hc'
          obtain ⟨o, ho⟩ := obs_elem hc' ht'
          rw [hc8] at ho
          exact ⟨o, fun _ => ho⟩
        · exact ⟨zeroO, fun g => absurd g hk⟩
      obtain ⟨R, hR⟩ := Classical.axiomOfChoice key
      refine ⟨(List.range len).map R, by simp, Or.inr ⟨b, off, rfl, hlt, fun i hi => ?_⟩, fun i hi => ?_, fun h => by cases h⟩
      · have hi' : i < len := by simpa using hi
        rw [List.getElem_map, List.getElem_range]
        exact (hR i hi').2
      · have hi' : i < len := by simpa using hi
        rw [List.getElem_map, List.getElem_range]
        exact (hR i hi').1
end Ow
end Go.Proofs.YtgodhaphbgllhaaGreatDoor
