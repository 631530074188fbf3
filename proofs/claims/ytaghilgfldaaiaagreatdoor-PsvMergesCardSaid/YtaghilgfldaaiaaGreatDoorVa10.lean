/-
  Lemmas and walks, texts joined: ORSort.
-/
import Derived.Test.YtaghilgfldaaiaaGreatDoorVa06
import Derived.Test.YtaghilgfldaaiaaGreatDoorVa09
set_option linter.unusedSimpArgs false
set_option linter.unusedVariables false
/-
  The walk of Sort of the reference.
-/
namespace Go.Proofs.YtaghilgfldaaiaaGreatDoor
namespace Ow
open Go.RowKit Lw Go.Proofs.YtaghilgfldaaiaaGreatDoor.Ap Go.Proofs.YtaghilgfldaaiaaGreatDoor.Op Go.Proofs.YtaghilgfldaaiaaGreatDoor.Mp Go.Proofs.YtaghilgfldaaiaaGreatDoor.Mw Go.Proofs.YtaghilgfldaaiaaGreatDoor.At

theorem wanted_go {c A B : Prop} [Decidable c] (hc : c) (h : A) : if c then A else B := by rw [if_pos hc]; exact h
theorem infoA (q : Ob) : (Tryz.prog.info? 33).map (·.size) = some (obsC q).toArray.size := info8
theorem there_A {w : World} {b o : Nat} (q : Ob) (h : w.there b o 8) : w.there b o (obsC q).toArray.size := h
/-- One store of an observation, as a step of a region that draws. -/
theorem store_O {op : Oper} {a : Act} {w : World} {K : Act → World → Prop} {Q : Exit → Act → World → Prop} (x y : Operand) (ho : op.op = .store 33 x y) (b o : Nat) (q : Ob) (hx : a.eval x = .pointer (some ⟨b, o, none⟩)) (hy : a.eval y = .agg (obsC q).toArray) (ht : w.there b o 8)
    (h : K (a.put op.dst undef) (w.setCells b o (obsC q))) : op.wp Tryz.prog a w K Q := wp_store_mid 33 x y ho b o (obsC q).toArray hx hy (there_A q ht) (infoA q) (all_oneCell_toArray (obsC_one q)) h
theorem there_setO {w : World} {b o b' o' : Nat} {q : Ob} (h : w.there b o 8) : (w.setCells b' o' (obsC q)).there b o 8 := World.there_setCells h _ _ _
theorem step_store_O {md : Region.Mode} {ops : Array Oper} {Q : Exit → Act → World → Prop} {fuel : Nat} {listed : Array Bool} {a : Act} {w : World} {i : Nat} {o : Oper} (hr : Region.ready md ops listed = [i]) (ho : ops[i]? = some o) (hw : Region.wanted o (yielded ops a.tmps) = true) (x y : Operand) (hop : o.op = .store 33 x y) (b off : Nat) (q : Ob)
    (hx : a.eval x = .pointer (some ⟨b, off, none⟩)) (hy : a.eval y = .agg (obsC q).toArray) (ht : w.there b off 8) (h : wpAnyH Tryz.prog md ops Q (fun _ => True) fuel (listed.setIfInBounds i true) (a.put o.dst undef) (w.setCells b off (obsC q))) : wpAnyH Tryz.prog md ops Q (fun _ => True) (fuel + 1) listed a w :=
  wpAnyH_ready hr (by simp) (AllReadyH.cons ho (fun K' hK => wanted_go hw (store_O x y hop b off q hx hy ht (hK.out _ _ trivial (fun _ => h)))) AllReadyH.nil)
/-- The row that is being sorted. -/
structure SW (W0 : World) (B g cap : Nat) (y : List Ob) (w : World) : Prop where
  own : OwnO w B (.slice (some ⟨g, 0, none⟩) y.length cap) y
  below : Below B W0 w
  lt : W0.heap.size ≤ w.heap.size
theorem SW.call {W0 w w' : World} {B g cap : Nat} {y : List Ob} (h : SW W0 B g cap y w) (hb : Below w.heap.size w w') : SW W0 B g cap y w' := ⟨h.own.below hb, h.below.trans (hb.mono h.own.2), Nat.le_trans h.lt hb.size⟩
theorem SW.drew {W0 w : World} {B g cap : Nat} {y : List Ob} (h : SW W0 B g cap y w) : SW W0 B g cap y w.drew := h.call (Below.refl _ _).drew
theorem SW.row {W0 w : World} {B g cap : Nat} {y : List Ob} (h : SW W0 B g cap y w) {i : Nat} (hi : i < y.length) {o : Ob} (e : y[i] = o) : w.rangeAt g (i * 8) (obsC o) := by rw [← e]; exact (own_row h.own hi).1
theorem SW.swap {W0 w : World} {B g cap : Nat} {y : List Ob} (h : SW W0 B g cap y w) (hg : B ≤ g) {m j : Nat} (hm : m < y.length) (hj : j < y.length) {p q : Ob} (e1 : y[m] = p) (e2 : y[j] = q) : SW W0 B g cap (swapO y m j hm hj) ((w.setCells g (m * 8) (obsC q)).setCells g (j * 8) (obsC p)) := by
  have o := own_swap h.own hm hj
  rw [e1, e2] at o
  have z1 := sets_size g (obsC q) (m * 8) w
  have z2 := sets_size g (obsC p) (j * 8) (w.setCells g (m * 8) (obsC q))
  refine ⟨by rw [swapO_len]; exact o, below_sets g hg _ _ (below_sets g hg _ _ h.below), by rw [z2, z1]; exact h.lt⟩
theorem OBs.swap {y : List Ob} (h : OBs y) {m j : Nat} (hm : m < y.length) (hj : j < y.length) : OBs (swapO y m j hm hj) := fun i hi => by
  have hi' : i < y.length := by rw [swapO_len] at hi; exact hi
  rw [swapO_get y m j hm hj i hi']
  by_cases a : i = j
  · rw [if_pos a]; exact h m hm
  · rw [if_neg a]
    by_cases b : i = m
    · rw [if_pos b]; exact h j hj
    · rw [if_neg b]; exact h i hi'
theorem OBs.perm {y l : List Ob} (h : OBs l) (p : y.Perm l) : OBs y := fun i hi => by
  have := p.subset (List.getElem_mem hi)
  obtain ⟨k, hk, e⟩ := List.getElem_of_mem this
  rw [← e]; exact h k hk
theorem OBs.take {l : List Ob} (h : OBs l) (k : Nat) : OBs (l.take k) := fun i hi => by
  have : i < l.length := by simp at hi; omega
  rw [List.getElem_take]; exact h i this
set_option maxRecDepth 100000 in
set_option maxHeartbeats 40000000 in
theorem rsort_any (x : Option Addr) (cap : Nat) (l : List Ob) (w : World) (hl : SlA w x l) (hm : l.length ≤ 1000000) (hb : OBs l) :
    Calls Tryz.prog 34 #[.slice x l.length cap] w (SortPost l w) := by
  have HL := Lib.hid (fun w' (h : Below w.heap.size w w') => hl.below h)
  have HBS := Lib.hid hb
  have CA := Lib.hid (rall_any x cap l w hl hm hb)
  obtain ⟨n, hnl⟩ : ∃ n, l.length = n := ⟨_, rfl⟩
  by_cases hz : allC l = 0
  · have n5 : n ≤ 500 := by have := (allC_ok hz).1; omega
    have FIN : Hid (∀ x, x.Perm l → ordL x → SortIs l x 0) := Lib.hid (fun x h g => Or.inl ⟨hz, h, g, rfl⟩)
    rw [hz] at CA
    rw [hnl] at CA ⊢
    have NL := Lib.hid hnl
    clear hl hb hnl hz hm
    go_enter Tryz.func34, Tryz.ntmps34
    go_wp2_with fail
    refine CA.out.mono ?_
    rintro e w1 ⟨rfl, hb1⟩
    have B1 := Lib.hid hb1
    clear hb1 CA
    go_wp2_with fail
    go_loopw [5, 6] (fun v i wr => ∃ (k : Nat) (y : List Ob), k ≤ n ∧ i = .int .i64 k ∧ Hid (OwnO wr w.heap.size v y) ∧ Hid (y.Perm (l.take k) ∧ ordL y) ∧ Hid (Below w.heap.size w wr)) (fun _ i _ => n - (intOf i).toNat)
    case atStart => exact ⟨0, [], Nat.zero_le _, rfl, Lib.hid (OwnO.nil w1 _ B1.out.size), Lib.hid ⟨List.Perm.refl _, List.Pairwise.nil⟩, B1⟩
    case round =>
      obtain ⟨k, y, hk, rfl, O, PO, B⟩ := hrel
      clear B1
      by_cases hlt : k < n
      · have hkl : k < l.length := by rw [NL.out]; exact hlt
        obtain ⟨b, off, rfl, lt, row⟩ := (HL.out _ B.out).get hkl
        have R := Lib.hid (row k hkl)
        have zy : y.length = k := by rw [PO.out.1.length_eq, List.length_take]; omega
        have P2 := Lib.hid (show (y ++ [l[k]'hkl]).Perm (l.take (k + 1)) by rw [take_snocO hkl]; exact PO.out.1.append_right _)
        have I2 : Hid (Ins (y ++ [l[k]'hkl]) k) := Lib.hid (by have := ins_start (o := l[k]'hkl) PO.out.2; rwa [zy] at this)
        have BS := Lib.hid (show OBs (y ++ [l[k]'hkl]) from OBs.perm (HBS.out.take (k + 1)) P2.out)
        have i1 : (k : Int) < (n : Int) := by omega
        have zl : y.length ≤ 1000000 := by omega
        have zy2 : (y ++ [l[k]'hkl]).length = k + 1 := by simp [zy]
        clear row lt FIN PO
        generalize l[k]'hkl = o at *
        go_wp2_with (first | (refine wpList_load_mid rfl _ (.tmp 22) rfl b (off + k * 8) rfl (obsC o) _ R.out Tryz.underlying33 rfl info8 ?_) | (at_builtin; refine wp_app _ rfl (.tmp 19) (.tmp 24) rfl w.heap.size _ y o rfl (by first | rfl | simp [Act.eval]) O.out zl ?_; intro v' w3 hO3 hb3))
        obtain ⟨g, cp, rfl, hg, lt3⟩ : ∃ g cp, v' = .slice (some ⟨g, 0, none⟩) (k + 1) cp ∧ w.heap.size ≤ g ∧ g < w3.heap.size := by
          rcases owns_form hO3.1 with ⟨h, _⟩ | ⟨g, cp, h, hg, lt, _⟩
          · simp at h
          · exact ⟨g, cp, by rw [h, zy2], hg, lt⟩
        have S3 := Lib.hid (show SW w w.heap.size g cp (y ++ [o]) w3 from ⟨by rw [zy2]; exact hO3, B.out.trans hb3, Nat.le_trans B.out.size hb3.size⟩)
        generalize y ++ [o] = y1 at *
        have Z1 := Lib.hid zy2
        clear hO3 hb3 B O R zy zy2 zl lt3 HL
        go_wp2_with fail
        go_loopw [7] (fun jv wr2 => ∃ (j : Nat) (z : List Ob), j ≤ k ∧ jv = .int .i64 j ∧ Hid (z.length = k + 1) ∧ Hid (z.Perm y1) ∧ Hid (OBs z) ∧ Hid (Ins z j) ∧ Hid (SW w w.heap.size g cp z wr2)) (fun jv _ => (intOf jv).toNat)
        case atStart => exact ⟨k, y1, Nat.le_refl _, rfl, Z1, Lib.hid (List.Perm.refl _), BS, I2, S3⟩
        case round =>
          obtain ⟨j, z, hj, rfl, ZZ, PZ, BZ, IZ, SZ⟩ := hrel
          clear S3 I2 BS
          by_cases h0 : j = 0
          · subst h0
            have OK := Lib.hid (ins_stop IZ.out (Or.inl rfl))
            have g0 : decide ((0 : Int) < ((0 : Nat) : Int)) = false := by decide
            have O4 := Lib.hid (show OwnO wr w.heap.size (.slice (some ⟨g, 0, none⟩) (k + 1) cp) z by have := SZ.out.own; rwa [ZZ.out] at this)
            have B4 := Lib.hid SZ.out.below
            have P4 := Lib.hid (PZ.out.trans P2.out)
            clear IZ SZ PZ BZ P2 ZZ
            go_wp2_with fail
            go_quiet (fail)
            have O5 := Lib.hid (O4.out.below (drewN_below2 (Below.refl _ _) nq))
            have B5 := Lib.hid (B4.out.trans (drewN_below2 (Below.refl _ _) nq))
            clear O4 B4
            go_wp2_with fail
            go_roundw
            case rel => exact ⟨k + 1, z, by omega, by go_num, O5, Lib.hid ⟨P4.out, OK.out⟩, B5⟩
            case measure => simp [intOf]; omega
          · obtain ⟨m, hm⟩ : ∃ m, j = m + 1 := ⟨j - 1, by omega⟩
            have zk := ZZ.out
            have hml : m < z.length := by omega
            have hjl : j < z.length := by omega
            obtain ⟨p, hp⟩ : ∃ p, z[m] = p := ⟨_, rfl⟩
            obtain ⟨q, hq⟩ : ∃ q, z[j] = q := ⟨_, rfl⟩
            have HP := Lib.hid hp
            have HQ := Lib.hid hq
            have bp := BZ.out m hml
            have bq := BZ.out j hjl
            rw [hp] at bp
            rw [hq] at bq
            have CP := Lib.hid (fun w' => rcompare_any p q w' ⟨bp.b0, bp.b1⟩ ⟨bq.b0, bq.b1⟩)
            have STOP : Hid (¬ 0 < cmpO p q → ordL z) := Lib.hid (fun h => ins_stop IZ.out (Or.inr ⟨m, hm, fun _ => by rw [hp, hq]; omega⟩))
            have STEP : Hid (0 < cmpO p q → Ins (swapO z m j hml hjl) m) := Lib.hid (fun h => ins_step IZ.out hm hjl (by rw [hp, hq]; exact h))
            generalize cmpO p q = K at *
            have j0 : (0 : Int) < (j : Int) := by omega
            have g1 : decide (0 < j) = true := decide_eq_true (by omega)
            have wm : IntKind.i64.wrap ((j : Int) - 1) = (m : Int) := by rw [wrap_small _ (by omega) (by omega)]; omega
            have m0 : (0 : Int) ≤ (m : Int) := by omega
            have m1 : (m : Int) < (k : Int) + 1 := by omega
            have j1 : (j : Int) < (k : Int) + 1 := by omega
            have m2 : m < k + 1 := by omega
            have j2 : j < k + 1 := by omega
            have HM := Lib.hid hm
            clear hp hq bp bq IZ zk hm
            by_cases hK0 : 0 < K
            · have ST := Lib.hid (STEP.out hK0)
              have gK : decide (0 < K) = true := decide_eq_true hK0
              clear STOP STEP
              go_wp2_with fail
              refine wp_region_held_drew (S := SW w w.heap.size g cp z) (by kernel_rfl) SZ.out.drew (fun hHeld => ?_)
              refine wpAnyH_take (i := 0) (oi := ?oi0x1) (v := ?v0x1) ?hi0x1 (by kernel_rfl) (by kernel_rfl) (by kernel_rfl) ?hq0x1 ?hy0x1 hHeld ?rest0x1
              case hi0x1 => ((try simp only [List.getElem?_toArray, List.getElem?_cons_succ, List.getElem?_cons_zero]); (try rfl))
              case hq0x1 => exact fun _ _ _ h => h
              case hy0x1 => exact Or.inl ⟨by rfl, by intro w hSw; clear hSw; go_simp; try with_reducible rfl⟩
              try simp only [Act.put, List.setIfInBounds_toArray, List.set_cons_zero, List.set_cons_succ]
              refine wpAnyH_take (i := 1) (oi := ?oi1x2) (v := ?v1x2) ?hi1x2 (by kernel_rfl) (by kernel_rfl) (by kernel_rfl) ?hq1x2 ?hy1x2 hHeld ?rest1x2
              case hi1x2 => ((try simp only [List.getElem?_toArray, List.getElem?_cons_succ, List.getElem?_cons_zero]); (try rfl))
              case hq1x2 => exact fun _ _ _ h => h
              case hy1x2 => exact Or.inl ⟨by rfl, by intro w hSw; clear hSw; go_simp; try with_reducible rfl⟩
              try simp only [Act.put, List.setIfInBounds_toArray, List.set_cons_zero, List.set_cons_succ]
              refine wpAnyH_take (i := 2) (oi := ?oi2x3) (v := ?v2x3) ?hi2x3 (by kernel_rfl) (by kernel_rfl) (by kernel_rfl) ?hq2x3 ?hy2x3 hHeld ?rest2x3
              case hi2x3 => ((try simp only [List.getElem?_toArray, List.getElem?_cons_succ, List.getElem?_cons_zero]); (try rfl))
              case hq2x3 => exact fun _ _ _ h => h
              case hy2x3 => exact Or.inl ⟨by rfl, by intro w hSw; clear hSw; go_simp; try with_reducible rfl⟩
              try simp only [Act.put, List.setIfInBounds_toArray, List.set_cons_zero, List.set_cons_succ]
              refine wpAnyH_take (i := 3) (oi := ?oi3x4) (v := ?v3x4) ?hi3x4 (by kernel_rfl) (by kernel_rfl) (by kernel_rfl) ?hq3x4 ?hy3x4 hHeld ?rest3x4
              case hi3x4 => ((try simp only [List.getElem?_toArray, List.getElem?_cons_succ, List.getElem?_cons_zero]); (try rfl))
              case hq3x4 => exact fun _ _ _ h => h
              case hy3x4 => exact Or.inl ⟨by rfl, by intro w hSw; clear hSw; go_simp; try with_reducible rfl⟩
              try simp only [Act.put, List.setIfInBounds_toArray, List.set_cons_zero, List.set_cons_succ]
              refine wpAnyH_take (i := 4) (oi := ?oi4x5) (v := ?v4x5) ?hi4x5 (by kernel_rfl) (by kernel_rfl) (by kernel_rfl) ?hq4x5 ?hy4x5 hHeld ?rest4x5
              case hi4x5 => ((try simp only [List.getElem?_toArray, List.getElem?_cons_succ, List.getElem?_cons_zero]); (try rfl))
              case hq4x5 => exact fun _ _ _ h => h
              case hy4x5 => exact Or.inl ⟨by rfl, by intro w hSw; clear hSw; go_simp; try with_reducible rfl⟩
              try simp only [Act.put, List.setIfInBounds_toArray, List.set_cons_zero, List.set_cons_succ]
              refine wpAnyH_take (i := 5) (oi := ?oi5x6) (v := ?v5x6) ?hi5x6 (by kernel_rfl) (by kernel_rfl) (by kernel_rfl) ?hq5x6 ?hy5x6 hHeld ?rest5x6
              case hi5x6 => ((try simp only [List.getElem?_toArray, List.getElem?_cons_succ, List.getElem?_cons_zero]); (try rfl))
              case hq5x6 => exact fun _ _ _ h => h
              case hy5x6 => exact Or.inl ⟨by rfl, by intro w hSw; clear hSw; go_simp; try with_reducible rfl⟩
              try simp only [Act.put, List.setIfInBounds_toArray, List.set_cons_zero, List.set_cons_succ]
              refine wpAnyH_take (i := 6) (oi := ?oi6x7) (v := ?v6x7) ?hi6x7 (by kernel_rfl) (by kernel_rfl) (by kernel_rfl) ?hq6x7 ?hy6x7 hHeld ?rest6x7
              case hi6x7 => ((try simp only [List.getElem?_toArray, List.getElem?_cons_succ, List.getElem?_cons_zero]); (try rfl))
              case hq6x7 => exact fun _ _ _ h => h
              case hy6x7 => exact Or.inl ⟨by rfl, by intro w hSw; clear hSw; go_simp; try with_reducible rfl⟩
              try simp only [Act.put, List.setIfInBounds_toArray, List.set_cons_zero, List.set_cons_succ]
              refine wpAnyH_take (i := 7) (oi := ?oi7x8) (v := ?v7x8) ?hi7x8 (by kernel_rfl) (by kernel_rfl) (by kernel_rfl) ?hq7x8 ?hy7x8 hHeld ?rest7x8
              case hi7x8 => ((try simp only [List.getElem?_toArray, List.getElem?_cons_succ, List.getElem?_cons_zero]); (try rfl))
              case hq7x8 => exact fun _ _ _ h => h
              case hy7x8 => 
                refine' yieldsIf_load_mid ?_ 33 (.tmp 33) ?_ g (m * 8) ?_ (obsC p) _ ?_ Tryz.underlying33 ?_ info8
                · rfl
                · rfl
                · rfl
                · exact fun _ h => SW.row h hml HP.out
                · rfl
              try simp only [Act.put, List.setIfInBounds_toArray, List.set_cons_zero, List.set_cons_succ]
              refine wpAnyH_take (i := 8) (oi := ?oi8x9) (v := ?v8x9) ?hi8x9 (by kernel_rfl) (by kernel_rfl) (by kernel_rfl) ?hq8x9 ?hy8x9 hHeld ?rest8x9
              case hi8x9 => ((try simp only [List.getElem?_toArray, List.getElem?_cons_succ, List.getElem?_cons_zero]); (try rfl))
              case hq8x9 => exact fun _ _ _ h => h
              case hy8x9 => exact Or.inl ⟨by rfl, by intro w hSw; clear hSw; go_simp; try with_reducible rfl⟩
              try simp only [Act.put, List.setIfInBounds_toArray, List.set_cons_zero, List.set_cons_succ]
              refine wpAnyH_take (i := 9) (oi := ?oi9x10) (v := ?v9x10) ?hi9x10 (by kernel_rfl) (by kernel_rfl) (by kernel_rfl) ?hq9x10 ?hy9x10 hHeld ?rest9x10
              case hi9x10 => ((try simp only [List.getElem?_toArray, List.getElem?_cons_succ, List.getElem?_cons_zero]); (try rfl))
              case hq9x10 => exact fun _ _ _ h => h
              case hy9x10 => exact Or.inl ⟨by rfl, by intro w hSw; clear hSw; go_simp; try with_reducible rfl⟩
              try simp only [Act.put, List.setIfInBounds_toArray, List.set_cons_zero, List.set_cons_succ]
              refine wpAnyH_take (i := 10) (oi := ?oi10x11) (v := ?v10x11) ?hi10x11 (by kernel_rfl) (by kernel_rfl) (by kernel_rfl) ?hq10x11 ?hy10x11 hHeld ?rest10x11
              case hi10x11 => ((try simp only [List.getElem?_toArray, List.getElem?_cons_succ, List.getElem?_cons_zero]); (try rfl))
              case hq10x11 => exact fun _ _ _ h => h
              case hy10x11 => exact Or.inl ⟨by rfl, by intro w hSw; clear hSw; go_simp; try with_reducible rfl⟩
              try simp only [Act.put, List.setIfInBounds_toArray, List.set_cons_zero, List.set_cons_succ]
              refine wpAnyH_take (i := 11) (oi := ?oi11x12) (v := ?v11x12) ?hi11x12 (by kernel_rfl) (by kernel_rfl) (by kernel_rfl) ?hq11x12 ?hy11x12 hHeld ?rest11x12
              case hi11x12 => ((try simp only [List.getElem?_toArray, List.getElem?_cons_succ, List.getElem?_cons_zero]); (try rfl))
              case hq11x12 => exact fun _ _ _ h => h
              case hy11x12 => 
                refine' yieldsIf_load_mid ?_ 33 (.tmp 37) ?_ g (j * 8) ?_ (obsC q) _ ?_ Tryz.underlying33 ?_ info8
                · rfl
                · rfl
                · rfl
                · exact fun _ h => SW.row h hjl HQ.out
                · rfl
              try simp only [Act.put, List.setIfInBounds_toArray, List.set_cons_zero, List.set_cons_succ]
              refine wpAnyH_ready (rs := [12]) (by kernel_rfl) (by simp) ?_
              refine AllReadyH.cons rfl (fun K' hK => ?_) AllReadyH.nil
              have H1 := Lib.hid hHeld
              clear hHeld
              go_simp
              refine (CP.out _).mono ?_
              rintro e w9 ⟨rfl, hb9⟩
              refine hK.out _ _ (H1.out.call hb9) (fun hHeld => ?_)
              clear hK H1 hb9
              try simp only [Act.put, List.setIfInBounds_toArray, List.set_cons_zero, List.set_cons_succ]
              refine wpAnyH_take (i := 13) (oi := ?oi13x13) (v := ?v13x13) ?hi13x13 (by kernel_rfl) (by kernel_rfl) (by kernel_rfl) ?hq13x13 ?hy13x13 hHeld ?rest13x13
              case hi13x13 => ((try simp only [List.getElem?_toArray, List.getElem?_cons_succ, List.getElem?_cons_zero]); (try rfl))
              case hq13x13 => exact fun _ _ _ h => h
              case hy13x13 => exact Or.inl ⟨by rfl, by intro w hSw; clear hSw; go_simp; try with_reducible rfl⟩
              try simp only [Act.put, List.setIfInBounds_toArray, List.set_cons_zero, List.set_cons_succ]
              refine wpAnyH_take (i := 14) (oi := ?oi14x14) (v := ?v14x14) ?hi14x14 (by kernel_rfl) (by kernel_rfl) (by kernel_rfl) ?hq14x14 ?hy14x14 hHeld ?rest14x14
              case hi14x14 => ((try simp only [List.getElem?_toArray, List.getElem?_cons_succ, List.getElem?_cons_zero]); (try rfl))
              case hq14x14 => exact fun _ _ _ h => h
              case hy14x14 => exact Or.inl ⟨by rfl, by intro w hSw; clear hSw; go_simp; try with_reducible rfl⟩
              try simp only [Act.put, List.setIfInBounds_toArray, List.set_cons_zero, List.set_cons_succ]
              refine wpAnyH_done (by kernel_rfl) ?_ _
              have S5 := Lib.hid hHeld
              clear CP hHeld
              go_wp2_with fail
              refine wp_region_held_drew (S := fun _ => True) (by kernel_rfl) trivial (fun hHeld => ?_)
              have RP := S5.out.drew.row hml HP.out
              have RQ := S5.out.drew.row hjl HQ.out
              have TM := (own_row S5.out.drew.own hml).2
              have TJ := (own_row S5.out.drew.own hjl).2
              have S6 := Lib.hid (S5.out.drew.swap hg hml hjl HP.out HQ.out)
              refine wpAnyH_take (i := 0) (oi := ?oi0x29) (v := ?v0x29) ?hi0x29 (by kernel_rfl) (by kernel_rfl) (by kernel_rfl) ?hq0x29 ?hy0x29 hHeld ?rest0x29
              case hi0x29 => ((try simp only [List.getElem?_toArray, List.getElem?_cons_succ, List.getElem?_cons_zero]); (try rfl))
              case hq0x29 => exact fun _ _ _ h => h
              case hy0x29 => exact Or.inl ⟨by rfl, by intro w hSw; clear hSw; go_simp; try with_reducible rfl⟩
              try simp only [Act.put, List.setIfInBounds_toArray, List.set_cons_zero, List.set_cons_succ]
              refine wpAnyH_take (i := 1) (oi := ?oi1x30) (v := ?v1x30) ?hi1x30 (by kernel_rfl) (by kernel_rfl) (by kernel_rfl) ?hq1x30 ?hy1x30 hHeld ?rest1x30
              case hi1x30 => ((try simp only [List.getElem?_toArray, List.getElem?_cons_succ, List.getElem?_cons_zero]); (try rfl))
              case hq1x30 => exact fun _ _ _ h => h
              case hy1x30 => exact Or.inl ⟨by rfl, by intro w hSw; clear hSw; go_simp; try with_reducible rfl⟩
              try simp only [Act.put, List.setIfInBounds_toArray, List.set_cons_zero, List.set_cons_succ]
              refine wpAnyH_take (i := 2) (oi := ?oi2x31) (v := ?v2x31) ?hi2x31 (by kernel_rfl) (by kernel_rfl) (by kernel_rfl) ?hq2x31 ?hy2x31 hHeld ?rest2x31
              case hi2x31 => ((try simp only [List.getElem?_toArray, List.getElem?_cons_succ, List.getElem?_cons_zero]); (try rfl))
              case hq2x31 => exact fun _ _ _ h => h
              case hy2x31 => exact Or.inl ⟨by rfl, by intro w hSw; clear hSw; go_simp; try with_reducible rfl⟩
              try simp only [Act.put, List.setIfInBounds_toArray, List.set_cons_zero, List.set_cons_succ]
              refine wpAnyH_take (i := 3) (oi := ?oi3x32) (v := ?v3x32) ?hi3x32 (by kernel_rfl) (by kernel_rfl) (by kernel_rfl) ?hq3x32 ?hy3x32 hHeld ?rest3x32
              case hi3x32 => ((try simp only [List.getElem?_toArray, List.getElem?_cons_succ, List.getElem?_cons_zero]); (try rfl))
              case hq3x32 => exact fun _ _ _ h => h
              case hy3x32 => exact Or.inl ⟨by rfl, by intro w hSw; clear hSw; go_simp; try with_reducible rfl⟩
              try simp only [Act.put, List.setIfInBounds_toArray, List.set_cons_zero, List.set_cons_succ]
              refine wpAnyH_take (i := 4) (oi := ?oi4x33) (v := ?v4x33) ?hi4x33 (by kernel_rfl) (by kernel_rfl) (by kernel_rfl) ?hq4x33 ?hy4x33 hHeld ?rest4x33
              case hi4x33 => ((try simp only [List.getElem?_toArray, List.getElem?_cons_succ, List.getElem?_cons_zero]); (try rfl))
              case hq4x33 => exact fun _ _ _ h => h
              case hy4x33 => exact Or.inl ⟨by rfl, by intro w hSw; clear hSw; go_simp; try with_reducible rfl⟩
              try simp only [Act.put, List.setIfInBounds_toArray, List.set_cons_zero, List.set_cons_succ]
              refine wpAnyH_take (i := 5) (oi := ?oi5x34) (v := ?v5x34) ?hi5x34 (by kernel_rfl) (by kernel_rfl) (by kernel_rfl) ?hq5x34 ?hy5x34 hHeld ?rest5x34
              case hi5x34 => ((try simp only [List.getElem?_toArray, List.getElem?_cons_succ, List.getElem?_cons_zero]); (try rfl))
              case hq5x34 => exact fun _ _ _ h => h
              case hy5x34 => exact Or.inl ⟨by rfl, by intro w hSw; clear hSw; go_simp; try with_reducible rfl⟩
              try simp only [Act.put, List.setIfInBounds_toArray, List.set_cons_zero, List.set_cons_succ]
              refine wpAnyH_take (i := 6) (oi := ?oi6x35) (v := ?v6x35) ?hi6x35 (by kernel_rfl) (by kernel_rfl) (by kernel_rfl) ?hq6x35 ?hy6x35 hHeld ?rest6x35
              case hi6x35 => ((try simp only [List.getElem?_toArray, List.getElem?_cons_succ, List.getElem?_cons_zero]); (try rfl))
              case hq6x35 => exact fun _ _ _ h => h
              case hy6x35 => exact Or.inl ⟨by rfl, by intro w hSw; clear hSw; go_simp; try with_reducible rfl⟩
              try simp only [Act.put, List.setIfInBounds_toArray, List.set_cons_zero, List.set_cons_succ]
              refine wpAnyH_take (i := 7) (oi := ?oi7x36) (v := ?v7x36) ?hi7x36 (by kernel_rfl) (by kernel_rfl) (by kernel_rfl) ?hq7x36 ?hy7x36 hHeld ?rest7x36
              case hi7x36 => ((try simp only [List.getElem?_toArray, List.getElem?_cons_succ, List.getElem?_cons_zero]); (try rfl))
              case hq7x36 => exact fun _ _ _ h => h
              case hy7x36 => exact Or.inl ⟨by rfl, by intro w hSw; clear hSw; go_simp; try with_reducible rfl⟩
              try simp only [Act.put, List.setIfInBounds_toArray, List.set_cons_zero, List.set_cons_succ]
              refine wpAnyH_take (i := 9) (oi := ?oi9x37) (v := ?v9x37) ?hi9x37 (by kernel_rfl) (by kernel_rfl) (by kernel_rfl) ?hq9x37 ?hy9x37 hHeld ?rest9x37
              case hi9x37 => ((try simp only [List.getElem?_toArray, List.getElem?_cons_succ, List.getElem?_cons_zero]); (try rfl))
              case hq9x37 => exact fun _ _ _ h => h
              case hy9x37 => exact Or.inl ⟨by rfl, by intro w hSw; clear hSw; go_simp; try with_reducible rfl⟩
              try simp only [Act.put, List.setIfInBounds_toArray, List.set_cons_zero, List.set_cons_succ]
              refine wpAnyH_take (i := 10) (oi := ?oi10x38) (v := ?v10x38) ?hi10x38 (by kernel_rfl) (by kernel_rfl) (by kernel_rfl) ?hq10x38 ?hy10x38 hHeld ?rest10x38
              case hi10x38 => ((try simp only [List.getElem?_toArray, List.getElem?_cons_succ, List.getElem?_cons_zero]); (try rfl))
              case hq10x38 => exact fun _ _ _ h => h
              case hy10x38 => exact Or.inl ⟨by rfl, by intro w hSw; clear hSw; go_simp; try with_reducible rfl⟩
              try simp only [Act.put, List.setIfInBounds_toArray, List.set_cons_zero, List.set_cons_succ]
              refine wpAnyH_take (i := 11) (oi := ?oi11x39) (v := ?v11x39) ?hi11x39 (by kernel_rfl) (by kernel_rfl) (by kernel_rfl) ?hq11x39 ?hy11x39 hHeld ?rest11x39
              case hi11x39 => ((try simp only [List.getElem?_toArray, List.getElem?_cons_succ, List.getElem?_cons_zero]); (try rfl))
              case hq11x39 => exact fun _ _ _ h => h
              case hy11x39 => exact Or.inl ⟨by rfl, by intro w hSw; clear hSw; go_simp; try with_reducible rfl⟩
              try simp only [Act.put, List.setIfInBounds_toArray, List.set_cons_zero, List.set_cons_succ]
              refine wpAnyH_take (i := 12) (oi := ?oi12x40) (v := ?v12x40) ?hi12x40 (by kernel_rfl) (by kernel_rfl) (by kernel_rfl) ?hq12x40 ?hy12x40 hHeld ?rest12x40
              case hi12x40 => ((try simp only [List.getElem?_toArray, List.getElem?_cons_succ, List.getElem?_cons_zero]); (try rfl))
              case hq12x40 => exact fun _ _ _ h => h
              case hy12x40 => exact Or.inl ⟨by rfl, by intro w hSw; clear hSw; go_simp; try with_reducible rfl⟩
              try simp only [Act.put, List.setIfInBounds_toArray, List.set_cons_zero, List.set_cons_succ]
              refine wpAnyH_ready (rs := [8, 13]) (by kernel_rfl) (by simp) ?_
              refine AllReadyH.cons rfl (fun K' hK => ?_) (AllReadyH.cons rfl (fun K' hK => ?_) AllReadyH.nil)
              ·
                clear hHeld
                refine wanted_go (by rfl) ?_
                refine' wp_load_mid 33 (.tmp 51) rfl g (j * 8) rfl (obsC q) _ RQ Tryz.underlying33 rfl info8 ?_
                refine hK.out _ _ trivial (fun hHeld => ?_)
                clear hK
                simp only [List.getElem_toArray, List.getElem_cons_succ, List.getElem_cons_zero, Act.put, List.setIfInBounds_toArray, List.set_cons_zero, List.set_cons_succ]
                refine wpAnyH_ready (rs := [13]) (by kernel_rfl) (by simp) ?_
                refine AllReadyH.cons rfl (fun K' hK => ?_) AllReadyH.nil
                clear hHeld
                refine wanted_go (by rfl) ?_
                refine' wp_load_mid 33 (.tmp 56) rfl g (m * 8) rfl (obsC p) _ RP Tryz.underlying33 rfl info8 ?_
                refine hK.out _ _ trivial (fun hHeld => ?_)
                clear hK
                simp only [List.getElem_toArray, List.getElem_cons_succ, List.getElem_cons_zero, Act.put, List.setIfInBounds_toArray, List.set_cons_zero, List.set_cons_succ]
                refine wpAnyH_take (i := 14) (oi := ?oi14x41) (v := ?v14x41) ?hi14x41 (by kernel_rfl) (by kernel_rfl) (by kernel_rfl) ?hq14x41 ?hy14x41 hHeld ?rest14x41
                case hi14x41 => ((try simp only [List.getElem?_toArray, List.getElem?_cons_succ, List.getElem?_cons_zero]); (try rfl))
                case hq14x41 => exact fun _ _ _ h => h
                case hy14x41 => exact Or.inl ⟨by rfl, by intro w hSw; clear hSw; go_simp; try with_reducible rfl⟩
                try simp only [Act.put, List.setIfInBounds_toArray, List.set_cons_zero, List.set_cons_succ]
                refine step_store_O (i := 15) (o := ?o15x42) (by kernel_rfl) ?ho15x42 ?hw15x42 (.tmp 58) (.tmp 52) ?hop15x42 g (m * 8) q ?hx15x42 ?hy15x42 (TM) ?rest15x42
                case ho15x42 => ((try simp only [List.getElem?_toArray, List.getElem?_cons_succ, List.getElem?_cons_zero]); (try rfl))
                case hw15x42 => rfl
                case hop15x42 => rfl
                case hx15x42 => rfl
                case hy15x42 => rfl
                try simp only [Act.put, List.setIfInBounds_toArray, List.set_cons_zero, List.set_cons_succ]
                refine wpAnyH_take (i := 16) (oi := ?oi16x43) (v := ?v16x43) ?hi16x43 (by kernel_rfl) (by kernel_rfl) (by kernel_rfl) ?hq16x43 ?hy16x43 hHeld ?rest16x43
                case hi16x43 => ((try simp only [List.getElem?_toArray, List.getElem?_cons_succ, List.getElem?_cons_zero]); (try rfl))
                case hq16x43 => exact fun _ _ _ h => h
                case hy16x43 => exact Or.inl ⟨by rfl, by intro w hSw; clear hSw; go_simp; try with_reducible rfl⟩
                try simp only [Act.put, List.setIfInBounds_toArray, List.set_cons_zero, List.set_cons_succ]
                refine step_store_O (i := 17) (o := ?o17x44) (by kernel_rfl) ?ho17x44 ?hw17x44 (.tmp 59) (.tmp 57) ?hop17x44 g (j * 8) p ?hx17x44 ?hy17x44 (there_setO TJ) ?rest17x44
                case ho17x44 => ((try simp only [List.getElem?_toArray, List.getElem?_cons_succ, List.getElem?_cons_zero]); (try rfl))
                case hw17x44 => rfl
                case hop17x44 => rfl
                case hx17x44 => rfl
                case hy17x44 => rfl
                try simp only [Act.put, List.setIfInBounds_toArray, List.set_cons_zero, List.set_cons_succ]
                refine wpAnyH_done (by kernel_rfl) ?_ _
                clear hHeld RP RQ TM TJ S5
                go_wp2_with fail
                go_roundw
                case rel => exact ⟨m, swapO z m j hml hjl, by omega, by go_num, Lib.hid (by rw [swapO_len]; exact ZZ.out), Lib.hid ((swapO_perm z m j hml hjl).trans PZ.out), Lib.hid (BZ.out.swap hml hjl), ST, S6⟩
                case measure => have hm := HM.out; simp [intOf]; omega
              ·
                clear hHeld
                refine wanted_go (by rfl) ?_
                refine' wp_load_mid 33 (.tmp 56) rfl g (m * 8) rfl (obsC p) _ RP Tryz.underlying33 rfl info8 ?_
                refine hK.out _ _ trivial (fun hHeld => ?_)
                clear hK
                simp only [List.getElem_toArray, List.getElem_cons_succ, List.getElem_cons_zero, Act.put, List.setIfInBounds_toArray, List.set_cons_zero, List.set_cons_succ]
                refine wpAnyH_ready (rs := [8]) (by kernel_rfl) (by simp) ?_
                refine AllReadyH.cons rfl (fun K' hK => ?_) AllReadyH.nil
                clear hHeld
                refine wanted_go (by rfl) ?_
                refine' wp_load_mid 33 (.tmp 51) rfl g (j * 8) rfl (obsC q) _ RQ Tryz.underlying33 rfl info8 ?_
                refine hK.out _ _ trivial (fun hHeld => ?_)
                clear hK
                simp only [List.getElem_toArray, List.getElem_cons_succ, List.getElem_cons_zero, Act.put, List.setIfInBounds_toArray, List.set_cons_zero, List.set_cons_succ]
                refine wpAnyH_take (i := 14) (oi := ?oi14x45) (v := ?v14x45) ?hi14x45 (by kernel_rfl) (by kernel_rfl) (by kernel_rfl) ?hq14x45 ?hy14x45 hHeld ?rest14x45
                case hi14x45 => ((try simp only [List.getElem?_toArray, List.getElem?_cons_succ, List.getElem?_cons_zero]); (try rfl))
                case hq14x45 => exact fun _ _ _ h => h
                case hy14x45 => exact Or.inl ⟨by rfl, by intro w hSw; clear hSw; go_simp; try with_reducible rfl⟩
                try simp only [Act.put, List.setIfInBounds_toArray, List.set_cons_zero, List.set_cons_succ]
                refine step_store_O (i := 15) (o := ?o15x46) (by kernel_rfl) ?ho15x46 ?hw15x46 (.tmp 58) (.tmp 52) ?hop15x46 g (m * 8) q ?hx15x46 ?hy15x46 (TM) ?rest15x46
                case ho15x46 => ((try simp only [List.getElem?_toArray, List.getElem?_cons_succ, List.getElem?_cons_zero]); (try rfl))
                case hw15x46 => rfl
                case hop15x46 => rfl
                case hx15x46 => rfl
                case hy15x46 => rfl
                try simp only [Act.put, List.setIfInBounds_toArray, List.set_cons_zero, List.set_cons_succ]
                refine wpAnyH_take (i := 16) (oi := ?oi16x47) (v := ?v16x47) ?hi16x47 (by kernel_rfl) (by kernel_rfl) (by kernel_rfl) ?hq16x47 ?hy16x47 hHeld ?rest16x47
                case hi16x47 => ((try simp only [List.getElem?_toArray, List.getElem?_cons_succ, List.getElem?_cons_zero]); (try rfl))
                case hq16x47 => exact fun _ _ _ h => h
                case hy16x47 => exact Or.inl ⟨by rfl, by intro w hSw; clear hSw; go_simp; try with_reducible rfl⟩
                try simp only [Act.put, List.setIfInBounds_toArray, List.set_cons_zero, List.set_cons_succ]
                refine step_store_O (i := 17) (o := ?o17x48) (by kernel_rfl) ?ho17x48 ?hw17x48 (.tmp 59) (.tmp 57) ?hop17x48 g (j * 8) p ?hx17x48 ?hy17x48 (there_setO TJ) ?rest17x48
                case ho17x48 => ((try simp only [List.getElem?_toArray, List.getElem?_cons_succ, List.getElem?_cons_zero]); (try rfl))
                case hw17x48 => rfl
                case hop17x48 => rfl
                case hx17x48 => rfl
                case hy17x48 => rfl
                try simp only [Act.put, List.setIfInBounds_toArray, List.set_cons_zero, List.set_cons_succ]
                refine wpAnyH_done (by kernel_rfl) ?_ _
                clear hHeld RP RQ TM TJ S5
                go_wp2_with fail
                go_roundw
                case rel => exact ⟨m, swapO z m j hml hjl, by omega, by go_num, Lib.hid (by rw [swapO_len]; exact ZZ.out), Lib.hid ((swapO_perm z m j hml hjl).trans PZ.out), Lib.hid (BZ.out.swap hml hjl), ST, S6⟩
                case measure => have hm := HM.out; simp [intOf]; omega
            · have ST := Lib.hid (STOP.out hK0)
              have gK : decide (0 < K) = false := decide_eq_false hK0
              clear STEP STOP
              go_wp2_with fail
              refine wp_region_held_drew (S := SW w w.heap.size g cp z) (by kernel_rfl) SZ.out.drew (fun hHeld => ?_)
              refine wpAnyH_take (i := 0) (oi := ?oi0x15) (v := ?v0x15) ?hi0x15 (by kernel_rfl) (by kernel_rfl) (by kernel_rfl) ?hq0x15 ?hy0x15 hHeld ?rest0x15
              case hi0x15 => ((try simp only [List.getElem?_toArray, List.getElem?_cons_succ, List.getElem?_cons_zero]); (try rfl))
              case hq0x15 => exact fun _ _ _ h => h
              case hy0x15 => exact Or.inl ⟨by rfl, by intro w hSw; clear hSw; go_simp; try with_reducible rfl⟩
              try simp only [Act.put, List.setIfInBounds_toArray, List.set_cons_zero, List.set_cons_succ]
              refine wpAnyH_take (i := 1) (oi := ?oi1x16) (v := ?v1x16) ?hi1x16 (by kernel_rfl) (by kernel_rfl) (by kernel_rfl) ?hq1x16 ?hy1x16 hHeld ?rest1x16
              case hi1x16 => ((try simp only [List.getElem?_toArray, List.getElem?_cons_succ, List.getElem?_cons_zero]); (try rfl))
              case hq1x16 => exact fun _ _ _ h => h
              case hy1x16 => exact Or.inl ⟨by rfl, by intro w hSw; clear hSw; go_simp; try with_reducible rfl⟩
              try simp only [Act.put, List.setIfInBounds_toArray, List.set_cons_zero, List.set_cons_succ]
              refine wpAnyH_take (i := 2) (oi := ?oi2x17) (v := ?v2x17) ?hi2x17 (by kernel_rfl) (by kernel_rfl) (by kernel_rfl) ?hq2x17 ?hy2x17 hHeld ?rest2x17
              case hi2x17 => ((try simp only [List.getElem?_toArray, List.getElem?_cons_succ, List.getElem?_cons_zero]); (try rfl))
              case hq2x17 => exact fun _ _ _ h => h
              case hy2x17 => exact Or.inl ⟨by rfl, by intro w hSw; clear hSw; go_simp; try with_reducible rfl⟩
              try simp only [Act.put, List.setIfInBounds_toArray, List.set_cons_zero, List.set_cons_succ]
              refine wpAnyH_take (i := 3) (oi := ?oi3x18) (v := ?v3x18) ?hi3x18 (by kernel_rfl) (by kernel_rfl) (by kernel_rfl) ?hq3x18 ?hy3x18 hHeld ?rest3x18
              case hi3x18 => ((try simp only [List.getElem?_toArray, List.getElem?_cons_succ, List.getElem?_cons_zero]); (try rfl))
              case hq3x18 => exact fun _ _ _ h => h
              case hy3x18 => exact Or.inl ⟨by rfl, by intro w hSw; clear hSw; go_simp; try with_reducible rfl⟩
              try simp only [Act.put, List.setIfInBounds_toArray, List.set_cons_zero, List.set_cons_succ]
              refine wpAnyH_take (i := 4) (oi := ?oi4x19) (v := ?v4x19) ?hi4x19 (by kernel_rfl) (by kernel_rfl) (by kernel_rfl) ?hq4x19 ?hy4x19 hHeld ?rest4x19
              case hi4x19 => ((try simp only [List.getElem?_toArray, List.getElem?_cons_succ, List.getElem?_cons_zero]); (try rfl))
              case hq4x19 => exact fun _ _ _ h => h
              case hy4x19 => exact Or.inl ⟨by rfl, by intro w hSw; clear hSw; go_simp; try with_reducible rfl⟩
              try simp only [Act.put, List.setIfInBounds_toArray, List.set_cons_zero, List.set_cons_succ]
              refine wpAnyH_take (i := 5) (oi := ?oi5x20) (v := ?v5x20) ?hi5x20 (by kernel_rfl) (by kernel_rfl) (by kernel_rfl) ?hq5x20 ?hy5x20 hHeld ?rest5x20
              case hi5x20 => ((try simp only [List.getElem?_toArray, List.getElem?_cons_succ, List.getElem?_cons_zero]); (try rfl))
              case hq5x20 => exact fun _ _ _ h => h
              case hy5x20 => exact Or.inl ⟨by rfl, by intro w hSw; clear hSw; go_simp; try with_reducible rfl⟩
              try simp only [Act.put, List.setIfInBounds_toArray, List.set_cons_zero, List.set_cons_succ]
              refine wpAnyH_take (i := 6) (oi := ?oi6x21) (v := ?v6x21) ?hi6x21 (by kernel_rfl) (by kernel_rfl) (by kernel_rfl) ?hq6x21 ?hy6x21 hHeld ?rest6x21
              case hi6x21 => ((try simp only [List.getElem?_toArray, List.getElem?_cons_succ, List.getElem?_cons_zero]); (try rfl))
              case hq6x21 => exact fun _ _ _ h => h
              case hy6x21 => exact Or.inl ⟨by rfl, by intro w hSw; clear hSw; go_simp; try with_reducible rfl⟩
              try simp only [Act.put, List.setIfInBounds_toArray, List.set_cons_zero, List.set_cons_succ]
              refine wpAnyH_take (i := 7) (oi := ?oi7x22) (v := ?v7x22) ?hi7x22 (by kernel_rfl) (by kernel_rfl) (by kernel_rfl) ?hq7x22 ?hy7x22 hHeld ?rest7x22
              case hi7x22 => ((try simp only [List.getElem?_toArray, List.getElem?_cons_succ, List.getElem?_cons_zero]); (try rfl))
              case hq7x22 => exact fun _ _ _ h => h
              case hy7x22 => 
                refine' yieldsIf_load_mid ?_ 33 (.tmp 33) ?_ g (m * 8) ?_ (obsC p) _ ?_ Tryz.underlying33 ?_ info8
                · rfl
                · rfl
                · rfl
                · exact fun _ h => SW.row h hml HP.out
                · rfl
              try simp only [Act.put, List.setIfInBounds_toArray, List.set_cons_zero, List.set_cons_succ]
              refine wpAnyH_take (i := 8) (oi := ?oi8x23) (v := ?v8x23) ?hi8x23 (by kernel_rfl) (by kernel_rfl) (by kernel_rfl) ?hq8x23 ?hy8x23 hHeld ?rest8x23
              case hi8x23 => ((try simp only [List.getElem?_toArray, List.getElem?_cons_succ, List.getElem?_cons_zero]); (try rfl))
              case hq8x23 => exact fun _ _ _ h => h
              case hy8x23 => exact Or.inl ⟨by rfl, by intro w hSw; clear hSw; go_simp; try with_reducible rfl⟩
              try simp only [Act.put, List.setIfInBounds_toArray, List.set_cons_zero, List.set_cons_succ]
              refine wpAnyH_take (i := 9) (oi := ?oi9x24) (v := ?v9x24) ?hi9x24 (by kernel_rfl) (by kernel_rfl) (by kernel_rfl) ?hq9x24 ?hy9x24 hHeld ?rest9x24
              case hi9x24 => ((try simp only [List.getElem?_toArray, List.getElem?_cons_succ, List.getElem?_cons_zero]); (try rfl))
              case hq9x24 => exact fun _ _ _ h => h
              case hy9x24 => exact Or.inl ⟨by rfl, by intro w hSw; clear hSw; go_simp; try with_reducible rfl⟩
              try simp only [Act.put, List.setIfInBounds_toArray, List.set_cons_zero, List.set_cons_succ]
              refine wpAnyH_take (i := 10) (oi := ?oi10x25) (v := ?v10x25) ?hi10x25 (by kernel_rfl) (by kernel_rfl) (by kernel_rfl) ?hq10x25 ?hy10x25 hHeld ?rest10x25
              case hi10x25 => ((try simp only [List.getElem?_toArray, List.getElem?_cons_succ, List.getElem?_cons_zero]); (try rfl))
              case hq10x25 => exact fun _ _ _ h => h
              case hy10x25 => exact Or.inl ⟨by rfl, by intro w hSw; clear hSw; go_simp; try with_reducible rfl⟩
              try simp only [Act.put, List.setIfInBounds_toArray, List.set_cons_zero, List.set_cons_succ]
              refine wpAnyH_take (i := 11) (oi := ?oi11x26) (v := ?v11x26) ?hi11x26 (by kernel_rfl) (by kernel_rfl) (by kernel_rfl) ?hq11x26 ?hy11x26 hHeld ?rest11x26
              case hi11x26 => ((try simp only [List.getElem?_toArray, List.getElem?_cons_succ, List.getElem?_cons_zero]); (try rfl))
              case hq11x26 => exact fun _ _ _ h => h
              case hy11x26 => 
                refine' yieldsIf_load_mid ?_ 33 (.tmp 37) ?_ g (j * 8) ?_ (obsC q) _ ?_ Tryz.underlying33 ?_ info8
                · rfl
                · rfl
                · rfl
                · exact fun _ h => SW.row h hjl HQ.out
                · rfl
              try simp only [Act.put, List.setIfInBounds_toArray, List.set_cons_zero, List.set_cons_succ]
              refine wpAnyH_ready (rs := [12]) (by kernel_rfl) (by simp) ?_
              refine AllReadyH.cons rfl (fun K' hK => ?_) AllReadyH.nil
              have H1 := Lib.hid hHeld
              clear hHeld
              go_simp
              refine (CP.out _).mono ?_
              rintro e w9 ⟨rfl, hb9⟩
              refine hK.out _ _ (H1.out.call hb9) (fun hHeld => ?_)
              clear hK H1 hb9
              try simp only [Act.put, List.setIfInBounds_toArray, List.set_cons_zero, List.set_cons_succ]
              refine wpAnyH_take (i := 13) (oi := ?oi13x27) (v := ?v13x27) ?hi13x27 (by kernel_rfl) (by kernel_rfl) (by kernel_rfl) ?hq13x27 ?hy13x27 hHeld ?rest13x27
              case hi13x27 => ((try simp only [List.getElem?_toArray, List.getElem?_cons_succ, List.getElem?_cons_zero]); (try rfl))
              case hq13x27 => exact fun _ _ _ h => h
              case hy13x27 => exact Or.inl ⟨by rfl, by intro w hSw; clear hSw; go_simp; try with_reducible rfl⟩
              try simp only [Act.put, List.setIfInBounds_toArray, List.set_cons_zero, List.set_cons_succ]
              refine wpAnyH_take (i := 14) (oi := ?oi14x28) (v := ?v14x28) ?hi14x28 (by kernel_rfl) (by kernel_rfl) (by kernel_rfl) ?hq14x28 ?hy14x28 hHeld ?rest14x28
              case hi14x28 => ((try simp only [List.getElem?_toArray, List.getElem?_cons_succ, List.getElem?_cons_zero]); (try rfl))
              case hq14x28 => exact fun _ _ _ h => h
              case hy14x28 => exact Or.inl ⟨by rfl, by intro w hSw; clear hSw; go_simp; try with_reducible rfl⟩
              try simp only [Act.put, List.setIfInBounds_toArray, List.set_cons_zero, List.set_cons_succ]
              refine wpAnyH_done (by kernel_rfl) ?_ _
              have OK := ST
              have O4 := Lib.hid (show OwnO w9 w.heap.size (.slice (some ⟨g, 0, none⟩) (k + 1) cp) z by have := hHeld.own; rwa [ZZ.out] at this)
              have B4 := Lib.hid hHeld.below
              have P4 := Lib.hid (PZ.out.trans P2.out)
              clear CP hHeld SZ PZ BZ P2 ZZ ST
              go_wp2_with fail
              go_roundw
              case rel => exact ⟨k + 1, z, by omega, by go_num, O4, Lib.hid ⟨P4.out, OK.out⟩, B4⟩
              case measure => simp [intOf]; omega
      · obtain rfl : k = n := by omega
        have tk : l.take k = l := by rw [← NL.out, List.take_length]
        have PO2 := PO.out
        rw [tk] at PO2
        have F := Lib.hid (FIN.out y PO2.1 PO2.2)
        have SV := Lib.hid (slV_of O.out.1)
        clear HL O tk PO PO2 FIN HBS
        go_wp2_with fail
        go_ret2
        exact ⟨_, y, 0, rfl, F.out, SV.out, B.out⟩
  · have FIN := Lib.hid (show SortIs l [] (allC l) from Or.inr ⟨hz, rfl, rfl⟩)
    have hnz : (allC l != 0) = true := by rw [bne, beq_eq_false_iff_ne.2 hz]; rfl
    clear hl hb hnl hm HL hz HBS
    generalize allC l = K at *
    go_enter Tryz.func34, Tryz.ntmps34
    go_wp2_with fail
    refine CA.out.mono ?_
    rintro e w1 ⟨rfl, hb1⟩
    have B1 := Lib.hid hb1
    clear hb1 CA
    go_wp2_with fail
    go_ret2
    exact ⟨_, [], K, rfl, FIN.out, SlV.nil _, B1.out⟩
end Ow
end Go.Proofs.YtaghilgfldaaiaaGreatDoor
