/-
  Lemmas and walks, texts joined: VPrs, OLaid, ORoundL, ORdPlan, VAlv, OCmpW, OCmpW2, OSrt, OForm2, OBackPl, OAllPl2, OInsPl, ORSort, VRMg, VRd, VRRnd, OSame, VRdL, VLaid.
-/
import Derived.Deep.RegionHeld3
import Derived.LoopTactic
import Derived.Sort.Grow
import Derived.Shelf.SlSortCmp.WholeK
import Derived.Laws.AppendOwnNone
import Derived.RegionTactic
import Derived.BigRegion
import Derived.StillTailTactics
import Derived.Test.YtaghilgfldaaiaaGreatDoorVb08
import Derived.Test.YtaghilgfldaaiaaGreatDoorVb05
import Derived.Test.YtaghilgfldaaiaaGreatDoorVb02
import Derived.Test.YtaghilgfldaaiaaGreatDoorCards
import Derived.Test.YtaghilgfldaaiaaGreatDoorVb07
import Derived.Test.YtaghilgfldaaiaaGreatDoorVb04
set_option linter.unusedSimpArgs false
set_option linter.unusedVariables false
/-
  The walk of Parse of psv.
-/
namespace Go.Proofs.YtaghilgfldaaiaaGreatDoor
namespace Vw
open Go.RowKit Lw Go.Proofs.YtaghilgfldaaiaaGreatDoor.Ap Go.Proofs.YtaghilgfldaaiaaGreatDoor.Vp Go.Proofs.YtaghilgfldaaiaaGreatDoor.Op Go.Proofs.YtaghilgfldaaiaaGreatDoor.Ow Go.Proofs.YtaghilgfldaaiaaGreatDoor.Mp Go.Proofs.YtaghilgfldaaiaaGreatDoor.Mw Go.Proofs.YtaghilgfldaaiaaGreatDoor.At

set_option maxRecDepth 100000 in
set_option maxHeartbeats 16000000 in
theorem vparse_any (s : ByteArray) (w : World) (hE : ES w) (hM : MX w) (hs : s.size ≤ 1000000)
    (hc : ∀ body n h rows, s.data.toList = body ++ [10] → noteR (pieces 10 body) = some (n, h :: rows) → ∀ x ∈ rows, ∀ p ∈ pieces 124 x, p.length ≤ 100) :
    Calls Tryz.prog 19 #[.string s] w (ParseTPost s w) := by
  have HE := Lib.hid (fun w' (h : Below w.heap.size w w') => hE.below h)
  have HM := Lib.hid (fun w' (h : Below w.heap.size w w') => hM.below h)
  obtain ⟨p0, b0, z0⟩ := PQ.new w
  obtain ⟨w0, hw0⟩ : ∃ v, ((w.alloc (.cells #[.slice none 0 0] 42)).alloc (.cells #[.slice none 0 0] 22)).alloc (.cells #[.int .i64 0] 25) = v := ⟨_, rfl⟩
  rw [hw0] at p0 b0 z0
  have W0 := Lib.hid hw0
  have P0 := Lib.hid p0
  have B0 := Lib.hid b0
  have hmf : ∀ (fn : Fn) (first cap : Array Value) (w : World), (Instr.makeFunc fn first cap).run Tryz.prog w = .ok (.func fn first cap) w := fun _ _ _ _ => rfl
  have CS := Lib.hid (fun w' => Tryz.strings_CutSuffix s ⟨#[10]⟩ w' (by omega))
  rw [show (⟨#[10]⟩ : ByteArray).data.toList = [10] from rfl] at CS
  rcases suffix_cases s.data.toList with ⟨body, hbd, h1, h2⟩ | ⟨hno, h1⟩
  · rw [h1, h2] at CS
    obtain ⟨lm, mm, hmm⟩ := id hM
    have zb : body.length ≤ 999999 := by
      have z : s.data.toList.length = s.size := rfl
      rw [hbd, List.length_append] at z
      simp only [List.length_cons, List.length_nil] at z
      omega
    have FINN : Hid (tabR (pieces 10 body) = none → ParseTIs s [] [] 12) := Lib.hid (fun h => Or.inr (Or.inr ⟨fun b hb => by rw [← body_uniq hbd hb]; exact h, rfl, rfl, rfl⟩))
    have FINM : Hid (∀ m k, tabR (pieces 10 body) = some (m, k) → (50 < m.length ∨ 500 < k.length) → ParseTIs s [] [] 4) := Lib.hid (fun m k h g => Or.inr (Or.inl ⟨body, m, k, hbd, h, g, rfl, rfl, rfl⟩))
    have FINY : Hid (∀ m k, tabR (pieces 10 body) = some (m, k) → ¬ (50 < m.length ∨ 500 < k.length) → ParseTIs s m k 0) := Lib.hid (fun m k h g => Or.inl ⟨body, hbd, h, by omega, by omega, rfl⟩)
    have HC := Lib.hid (fun n h rows => hc body n h rows hbd)
    have SPL : Hid (∀ w', Below w.heap.size w w' → Calls Tryz.prog 49 #[.string (stL body), .string ⟨#[10]⟩] w' fun e w2 => e = .returned (.slice (some ⟨w'.heap.size, 0, none⟩) (pieces 10 body).length (pieces 10 body).length) ∧ w2 = w'.alloc (.cells (strC ((pieces 10 body).map stL)).toArray 9)) := Lib.hid (fun w' h => (Tryz.strings_Split (stL body) ⟨#[10]⟩ mm w' (by rw [stL_size]; omega) ((h.cell (p := ⟨_, 0, none⟩) lm).trans hmm) (Nat.le_refl 1)).mono fun _ _ ⟨x, y⟩ => ⟨by rw [x, split_len, stL_L], by rw [y, split_pieces, stL_L]; rfl⟩)
    have SPB : Hid (∀ (x : List UInt8), x.length ≤ 1000000 → ∀ w', Below w.heap.size w w' → Calls Tryz.prog 49 #[.string (stL x), .string ⟨#[124]⟩] w' fun e w2 => e = .returned (.slice (some ⟨w'.heap.size, 0, none⟩) (pieces 124 x).length (pieces 124 x).length) ∧ w2 = w'.alloc (.cells (strC ((pieces 124 x).map stL)).toArray 9)) := Lib.hid (fun x zx w' h => (Tryz.strings_Split (stL x) ⟨#[124]⟩ mm w' (by rw [stL_size]; omega) ((h.cell (p := ⟨_, 0, none⟩) lm).trans hmm) (Nat.le_refl 1)).mono fun _ _ ⟨x, y⟩ => ⟨by rw [x, split_len, stL_L], by rw [y, split_pieces, stL_L]; rfl⟩)
    have TRM := Lib.hid (fun (t : ByteArray) (h : t.size ≤ 1000000) w' => Tryz.strings_Trim_one t 32 (by decide) w' (by omega))
    have HPF := Lib.hid (fun (t : ByteArray) w' => Tryz.strings_HasPrefix t ⟨#[35]⟩ w')
    have PM : Hid (∀ p ∈ pieces 10 body, p.length ≤ 999999) := Lib.hid (fun p hp => by have := (pieces_mem hp).1; omega)
    have PLn : Hid ((pieces 10 body).length ≤ 1000000) := Lib.hid (by
      rw [pieces_len]
      have := List.count_le_length (a := (10 : UInt8)) (l := body)
      omega)
    rw [show (⟨body.toArray⟩ : ByteArray) = stL body from rfl] at CS
    generalize pieces 10 body = L at *
    clear hE hM hc hw0 p0 hbd h1 h2 lm hmm zb
    go_enter_defers Tryz.func19, Tryz.ntmps19
    go_upto_region 1 with fail
    rw [W0.out]
    go_wp2_with fail
    refine (CS.out _).mono ?_
    rintro e w1 ⟨rfl, rfl⟩
    go_wp2_with fail
    refine (need_yes _).mono ?_
    rintro e w2 ⟨rfl, rfl⟩
    go_wp2_with fail
    refine (SPL.out _ B0.out).mono ?_
    rintro e w5 ⟨rfl, hw5⟩
    have al := (Below.refl w1.heap.size w1).alloc (Nat.le_refl _) (.cells (strC (L.map stL)).toArray 9)
    have r5 := Rw.new w1 (strC (L.map stL)) 9
    have z5 : (w1.alloc (.cells (strC (L.map stL)).toArray 9)).heap.size = w1.heap.size + 1 := by simp
    rw [← hw5] at al r5 z5
    obtain ⟨q, hq⟩ : ∃ q, w1.heap.size = q := ⟨_, rfl⟩
    rw [hq] at r5 z0 z5
    have N5 : Hid (PN w w5.heap.size q (strC (L.map stL)) (.slice none 0 0) [] w5) := Lib.hid ⟨P0.out.call al, r5, Own1.nil _ _ _ (Nat.le_refl _), ⟨by omega, by omega⟩, below_then B0.out al⟩
    obtain ⟨n, hn⟩ : ∃ n, L.length = n := ⟨_, rfl⟩
    have NL := Lib.hid hn
    have pl := PLn.out
    rw [hn] at pl ⊢
    try rw [hq]
    clear hw5 al r5 z0 z5 SPL CS hn hq b0 P0 B0 W0 PLn
    go_wp2_with fail
    go_loopw [7] (fun v wr => ∃ (k m o : Nat) (ns : List ByteArray) (vn : Value), k + m = n ∧ (0 < m → o = k) ∧ v = .slice (some ⟨q, o, none⟩) m m ∧ ns.length ≤ k ∧ Hid (NoteTo L k ns) ∧ Hid (PN w w5.heap.size q (strC (L.map stL)) vn ns wr)) (fun v _ => lenS v)
    case atStart => exact ⟨0, n, 0, [], _, Nat.zero_add _, fun _ => rfl, rfl, Nat.zero_le _, Lib.hid (noteTo_zero L), N5⟩
    case round =>
      obtain ⟨k, m, o, ns, vn, hkm, ho, rfl, hnk, NT, X⟩ := hrel
      clear N5
      by_cases hm0 : m = 0
      · subst hm0
        obtain rfl : k = n := by omega
        have E := Lib.hid (FINN.out (tab_no2 (by have := NT.out; rw [← NL.out] at this; exact noteTo_end this)))
        clear ho hkm
        go_wp2_with fail
        refine (need_no _).mono ?_
        rintro e w6 ⟨rfl, rfl⟩
        exact parse_raise E.out X.out.pq X.out.below rfl rfl rfl
      · obtain rfl := ho (by omega)
        have hkl : o < L.length := by rw [NL.out]; omega
        have m1 : 0 < m := by omega
        have m2 : (0 : Int) < (m : Int) := by omega
        have hcell : wr.cell? ⟨q, o, none⟩ = some (.string (stL (L[o]'hkl))) := by
          refine X.out.cl.cell (j := o) ?_
          unfold strC
          rw [List.getElem?_map, List.getElem?_map, List.getElem?_eq_getElem hkl]
          rfl
        have HP := Lib.hid (fun w' => HPF.out (stL (L[o]'hkl)) w')
        rw [stL_L, pref_head] at HP
        have zx := PM.out _ (List.getElem_mem hkl)
        clear HPF
        by_cases h35 : (L[o]'hkl).head? = some 35
        · rw [decide_eq_true h35] at HP
          have BAD := Lib.hid (fun h => FINN.out (tab_no1 (noteTo_bad hkl NT.out h35 h)))
          have NXT := Lib.hid (fun h => noteTo_next hkl NT.out h35 h)
          have zt : (stL (L[o]'hkl).tail).size ≤ 1000000 := by rw [stL_size, List.length_tail]; omega
          have TK := Lib.hid (fun w' => TRM.out (stL (L[o]'hkl).tail) zt w')
          rw [show (⟨(Lib.trimB (stL (L[o]'hkl).tail).data.toList 32).toArray⟩ : ByteArray) = trimS (stL (L[o]'hkl).tail) from rfl] at TK
          have zz : (trimS (stL (L[o]'hkl).tail)).size ≤ 1000000 := by
            have := trimB_le (stL (L[o]'hkl).tail).data.toList 32
            have z : (stL (L[o]'hkl).tail).data.toList.length = (stL (L[o]'hkl).tail).size := rfl
            unfold trimS
            rw [stL_size]
            omega
          have ex : (stL (L[o]'hkl)).extract 1 (stL (L[o]'hkl)).size = stL (L[o]'hkl).tail := by
            apply ByteArray.ext
            apply Array.ext'
            rw [ByteArray.data_extract, Array.toList_extract, List.extract_eq_take_drop, stL_size]
            show ((L[o]'hkl).drop 1).take _ = (L[o]'hkl).tail
            rw [List.drop_one, List.take_of_length_le (by rw [List.length_tail]; omega)]
          have x1 : 1 ≤ (stL (L[o]'hkl)).size := by
            rw [stL_size]
            cases hx : L[o]'hkl with
            | nil => rw [hx] at h35; cases h35
            | cons a l => simp
          have x2 : (1 : Int) ≤ ((stL (L[o]'hkl)).size : Int) := by omega
          clear h35 NT
          generalize trimS (stL (L[o]'hkl).tail) = t at *
          generalize stL (L[o]'hkl).tail = tl at *
          generalize stL (L[o]'hkl) = x at *
          go_wp2_with fail
          refine (HP.out _).mono ?_
          rintro e w6 ⟨rfl, rfl⟩
          go_wp2_with fail
          refine (TK.out _).mono ?_
          rintro e w7 ⟨rfl, hw7⟩
          have b7 : Below w6.heap.size w6 w7 := by rcases hw7 with rfl | rfl; exact Below.refl _ _; exact (Below.refl _ _).drew
          have X7 := Lib.hid (X.out.call b7)
          clear hw7 b7 X TK HP hcell
          have IN := Lib.hid (isnote_any t w7 (by unfold maxLen; omega))
          go_wp2_with fail
          refine IN.out.mono ?_
          rintro e w8 ⟨rfl, hb8⟩
          have X8 := Lib.hid (X7.out.call hb8)
          clear hb8 X7 IN
          by_cases hnp : noteP t
          · rw [decide_eq_true hnp]
            have NT2 := Lib.hid (NXT.out hnp)
            clear BAD NXT hnp
            go_wp2_with fail
            refine (need_yes _).mono ?_
            rintro e w9 ⟨rfl, rfl⟩
            have c9 := X8.out.pq.r1.cell (j := 0) (v := _) rfl
            have LLn := Lib.hid (show (strC ns).length ≤ 1000000 by rw [strC_len]; omega)
            have q3 := X8.out.lt
            obtain ⟨m', hm'⟩ : ∃ m', m = m' + 1 := ⟨m - 1, by omega⟩
            obtain ⟨o', ho'⟩ : ∃ o', (if m' = 0 then o else o + 1) = o' := ⟨_, rfl⟩
            have hsl := fun W => slice_tail W q o m m' hm'
            rw [ho'] at hsl
            have OO : Hid (0 < m' → o' = o + 1) := Lib.hid (fun h => by rw [← ho', if_neg (by omega)])
            have MM := Lib.hid hm'
            clear ho' hm'
            go_wp2_with (at_builtin; refine wp_app1 (bytes := 16) Tryz.underlying42 infoS rfl (by decide) _ rfl (.tmp 39) (.tmp 41) rfl w5.heap.size _ (strC ns) #[.string t] 1 1 rfl rfl rfl (by simp [Value.oneCell']) X8.out.nt LLn.out (by decide) ?_; intro v' w10 OW2 hb2; obtain ⟨g9, cap9, hv9, _⟩ := OW2.formN (n := ns.length + 1) (by rw [List.length_append, strC_len]; rfl) (Nat.succ_pos _); subst hv9; have c10 := (X8.out.pq.far hb2 (by omega)).r1.cell (j := 0) (v := _) rfl; have f10 := (X8.out.pq.far hb2 (by omega)).r1.free (j := 0) (by simp); have X10 := Lib.hid (X8.out.add (ns' := ns ++ [t]) (by rw [← strC_snoc]; exact OW2) hb2); clear OW2 hb2)
            go_roundw
            case rel => exact ⟨o + 1, m', o', ns ++ [t], _, by have := MM.out; omega, OO.out, rfl, by rw [List.length_append]; simp only [List.length_cons, List.length_nil]; omega, NT2, X10⟩
            case measure => have := MM.out; simp [lenS]; omega
          · rw [decide_eq_false hnp]
            have E := Lib.hid (BAD.out hnp)
            clear BAD NXT hnp
            go_wp2_with fail
            refine (need_no _).mono ?_
            rintro e w9 ⟨rfl, rfl⟩
            exact parse_raise E.out X8.out.pq X8.out.below rfl rfl rfl
        · rw [decide_eq_false h35] at HP
          have NH := Lib.hid (noteTo_head hkl NT.out h35)
          have TG := Lib.hid (tab_go NH.out)
          have HCr := Lib.hid (HC.out _ _ _ NH.out)
          have zs : (stL (L[o]'hkl)).size ≤ 1000000 := by rw [stL_size]; omega
          have HD := Lib.hid (fun w' (h : Below w.heap.size w w') => vhead_any (stL (L[o]'hkl)) w' (HM.out _ h) zs)
          have RL : Hid ((L.drop (o + 1)).length + 1 = m) := Lib.hid (by rw [List.length_drop, NL.out]; omega)
          have RI : Hid (∀ j (h : j < (L.drop (o + 1)).length), ∃ g : o + 1 + j < L.length, (L.drop (o + 1))[j]'h = L[o + 1 + j]'g) := Lib.hid (fun j h => ⟨by rw [List.length_drop] at h; omega, by rw [List.getElem_drop]⟩)
          have HXL : Hid ((stL (L[o]'hkl)).data.toList = L[o]'hkl) := Lib.hid rfl
          obtain ⟨rows, hrows⟩ : ∃ r, L.drop (o + 1) = r := ⟨_, rfl⟩
          rw [hrows] at TG HCr RL RI
          clear h35 NT NH hrows
          generalize stL (L[o]'hkl) = x at *
          generalize L[o]'hkl = xl at *
          go_wp2_with fail
          refine (HP.out _).mono ?_
          rintro e w6 ⟨rfl, rfl⟩
          go_wp2_with fail
          refine (need_yes _).mono ?_
          rintro e w7 ⟨rfl, rfl⟩
          go_wp2_with fail
          refine (HD.out _ X.out.below).mono ?_
          rintro e w8 ⟨hh, hb8⟩
          rcases hh with ⟨g, oc, ord, hr, h8, ol, rfl, hB, hCA⟩ | ⟨hr, rfl⟩
          · rw [HXL.out] at hr
            have TG2 : Hid (tabR L = (rowsR ord rows).map fun m => (ns, m)) := Lib.hid (by rw [TG.out, hr]; rfl)
            have lB := X.out.nt.2
            have X8 := Lib.hid ((X.out.call hb8).rows hCA (by omega))
            have H8 := Lib.hid h8
            obtain ⟨m', hm'⟩ : ∃ m', m = m' + 1 := ⟨m - 1, by omega⟩
            obtain ⟨o', ho'⟩ : ∃ o', (if m' = 0 then o else o + 1) = o' := ⟨_, rfl⟩
            have hsl := fun W => slice_tail W q o m m' hm'
            rw [ho'] at hsl
            have OO : Hid (0 < m' → o' = o + 1) := Lib.hid (fun h => by rw [← ho', if_neg (by omega)])
            have RM : Hid (rows.length = m') := Lib.hid (by have := RL.out; omega)
            have zm' : m' ≤ 1000001 := by omega
            clear ho' hm' hr hB hCA hb8 h8 X HP HD TG HXL lB RL zx zs hcell
            go_wp2_with fail
            go_loopw [56] (fun i wr2 => ∃ (j : Nat) (vd : Value) (ms : List Ob), j ≤ m' ∧ i = .int .i64 j ∧ ms.length = j ∧ Hid (RowTo ord rows j ms) ∧ Hid (PR w w5.heap.size w8.heap.size q g (strC (L.map stL)) ord vn ns vd ms wr2)) (fun i _ => m' - (intOf i).toNat)
            case atStart => exact ⟨0, _, [], Nat.zero_le _, rfl, rfl, Lib.hid (rowTo_zero ord rows), X8⟩
            case round =>
              obtain ⟨j, vd, ms, hj, rfl, zm, RT, X⟩ := hrel
              clear X8
              by_cases hlt : j < m'
              · have hjl : j < rows.length := by rw [RM.out]; exact hlt
                obtain ⟨gl, eL⟩ := RI.out j hjl
                have j1 : (j : Int) < (m' : Int) := by omega
                have j0 : (0 : Int) ≤ (j : Int) := by omega
                have hcell : wr.cell? ⟨q, o' + j, none⟩ = some (.string (stL (rows[j]'hjl))) := by
                  rw [OO.out (by omega), eL]
                  refine X.out.cl.cell (j := o + 1 + j) ?_
                  unfold strC
                  rw [List.getElem?_map, List.getElem?_map, List.getElem?_eq_getElem gl]
                  rfl
                have zx2 : (rows[j]'hjl).length ≤ 999999 := by rw [eL]; exact PM.out _ (List.getElem_mem gl)
                have hl := HCr.out _ (List.getElem_mem hjl)
                have BAD : Hid (rowR ord (((pieces 124 (rows[j]'hjl)).map stL).map trimS) = none → ParseTIs s [] [] 12) := Lib.hid (fun h => FINN.out (by
                  rw [TG2.out, rowTo_bad hjl RT.out (by unfold rowX; rw [← h, List.map_map]; rfl)]
                  rfl))
                have YES : Hid (∀ ob, rowR ord (((pieces 124 (rows[j]'hjl)).map stL).map trimS) = some ob → RowTo ord rows (j + 1) (ms ++ [ob])) := Lib.hid (fun ob h => rowTo_next hjl RT.out (by unfold rowX; rw [← h, List.map_map]; rfl))
                have zPC : ((pieces 124 (rows[j]'hjl)).map stL).length ≤ 1000000 := by
                  rw [List.length_map, pieces_len]
                  have := List.count_le_length (a := (124 : UInt8)) (l := rows[j]'hjl)
                  omega
                have hPC : ∀ t ∈ (pieces 124 (rows[j]'hjl)).map stL, t.size ≤ 100 := fun t ht => by
                  obtain ⟨p, hp, rfl⟩ := List.mem_map.1 ht
                  rw [stL_size]
                  exact hl p hp
                have SP : Hid (∀ w', Below w.heap.size w w' → Calls Tryz.prog 49 #[.string (stL (rows[j]'hjl)), .string ⟨#[124]⟩] w' fun e w2 => ∃ g2, e = .returned (.slice (some ⟨g2, 0, none⟩) ((pieces 124 (rows[j]'hjl)).map stL).length ((pieces 124 (rows[j]'hjl)).map stL).length) ∧ CA w2 g2 (strC ((pieces 124 (rows[j]'hjl)).map stL)) ∧ Below w'.heap.size w' w2) := Lib.hid (fun w' h => (SPB.out _ (by omega) w' h).mono fun _ _ ⟨x, y⟩ => ⟨w'.heap.size, by rw [x, List.length_map], by
                  subst y
                  have R := Rw.new w' (strC ((pieces 124 (rows[j]'hjl)).map stL)) 9
                  exact ⟨R.lt, fun i v hv => R.cell hv⟩, by subst y; exact (Below.refl _ _).alloc (Nat.le_refl _) _⟩)
                clear hl zx2 eL
                generalize (pieces 124 (rows[j]'hjl)).map stL = PC at *
                have RW : Hid (∀ w' g2, Below w.heap.size w w' → CA w' g2 (strC PC) → CA w' g (intL ord) → Calls Tryz.prog 37 #[.slice (some ⟨g2, 0, none⟩) PC.length PC.length, .slice (some ⟨g, 0, none⟩) ord.length oc] w' (RowPost ord PC w')) := Lib.hid (fun w' g2 h c1 c2 => row_any _ _ PC _ _ ord w' (HM.out _ h) (HE.out _ h) c1.stA c2.inA H8.out hPC (by omega) (by omega))
                clear hPC zPC
                generalize stL (rows[j]'hjl) = xs at *
                generalize PC.length = nn at *
                go_upto_region 15 with fail
                clear hcell
                refine wp_region_held_drew (S := fun _ => True) (by kernel_rfl) trivial (fun hHeld => ?_)
                have XD := Lib.hid (X.out.call (Below.refl _ _).drew)
                clear X
                refine wpAnyH_take (i := 1) (oi := ?oi1x1) (v := ?v1x1) ?hi1x1 (by kernel_rfl) (by kernel_rfl) (by kernel_rfl) ?hq1x1 ?hy1x1 hHeld ?rest1x1
                case hi1x1 => ((try simp only [List.getElem?_toArray, List.getElem?_cons_succ, List.getElem?_cons_zero]); (try rfl))
                case hq1x1 => exact fun c a w h => parse_put _ _ _ (by decide) (by decide) (by decide) c a w h
                case hy1x1 => exact Or.inl ⟨by rfl, by intro w hSw; clear hSw; go_simp; try with_reducible rfl⟩
                try simp only [Act.put, List.setIfInBounds_toArray, List.set_cons_zero, List.set_cons_succ]
                refine wpAnyH_take (i := 3) (oi := ?oi3x2) (v := ?v3x2) ?hi3x2 (by kernel_rfl) (by kernel_rfl) (by kernel_rfl) ?hq3x2 ?hy3x2 hHeld ?rest3x2
                case hi3x2 => ((try simp only [List.getElem?_toArray, List.getElem?_cons_succ, List.getElem?_cons_zero]); (try rfl))
                case hq3x2 => exact fun c a w h => parse_put _ _ _ (by decide) (by decide) (by decide) c a w h
                case hy3x2 => exact Or.inl ⟨by rfl, by intro w hSw; clear hSw; go_simp; try with_reducible rfl⟩
                try simp only [Act.put, List.setIfInBounds_toArray, List.set_cons_zero, List.set_cons_succ]
                refine wpAnyH_ready (rs := [0, 2]) (by kernel_rfl) (by simp) ?_
                refine AllReadyH.cons rfl (fun K' hK => ?_) (AllReadyH.cons rfl (fun K' hK => ?_) AllReadyH.nil)
                · have q2 := XD.out.pq.r2.cell (j := 0) (v := _) rfl
                  clear hHeld
                  go_simp
                  clear q2
                  refine hK.out _ _ trivial (fun hHeld => ?_)
                  clear hK
                  try simp only [Act.put, List.setIfInBounds_toArray, List.set_cons_zero, List.set_cons_succ]
                  refine wpAnyH_ready (rs := [2]) (by kernel_rfl) (by simp) ?_
                  refine AllReadyH.cons rfl (fun K' hK => ?_) AllReadyH.nil
                  clear hHeld
                  go_simp
                  refine (SP.out _ XD.out.below).mono ?_
                  rintro e wx ⟨g2, rfl, hca, hbx⟩
                  have CP := Lib.hid hca
                  replace XD := Lib.hid (XD.out.call hbx)
                  clear hca hbx SP
                  refine hK.out _ _ trivial (fun hHeld => ?_)
                  clear hK
                  try simp only [Act.put, List.setIfInBounds_toArray, List.set_cons_zero, List.set_cons_succ]
                  refine wpAnyH_ready (rs := [4]) (by kernel_rfl) (by simp) ?_
                  refine AllReadyH.cons rfl (fun K' hK => ?_) AllReadyH.nil
                  clear hHeld
                  go_simp
                  refine (RW.out _ g2 XD.out.below CP.out XD.out.od).mono ?_
                  rintro e wy ⟨h, hby⟩
                  replace XD := Lib.hid (XD.out.call hby)
                  clear hby RW CP
                  rcases h with ⟨ob, h, rfl, hob⟩ | ⟨h, rfl⟩
                  rotate_left
                  · have F := Lib.hid (BAD.out h)
                    exact parse_raise F.out XD.out.pq XD.out.below rfl rfl rfl
                  have RT2 := Lib.hid (YES.out ob h)
                  clear h hob BAD YES
                  refine hK.out _ _ trivial (fun hHeld => ?_)
                  clear hK
                  try simp only [Act.put, List.setIfInBounds_toArray, List.set_cons_zero, List.set_cons_succ]
                  refine wpAnyH_ready (rs := [5]) (by kernel_rfl) (by simp) ?_
                  refine AllReadyH.cons rfl (fun K' hK => ?_) AllReadyH.nil
                  clear hHeld
                  go_simp
                  refine hK.out _ _ trivial (fun hHeld => ?_)
                  clear hK
                  try simp only [Act.put, List.setIfInBounds_toArray, List.set_cons_zero, List.set_cons_succ]
                  refine wpAnyH_ready (rs := [6]) (by kernel_rfl) (by simp) ?_
                  refine AllReadyH.cons rfl (fun K' hK => ?_) AllReadyH.nil
                  clear hHeld
                  rw [if_pos (by rfl)]
                  refine op_app wy (.tmp 60) (.tmp 65) rfl w8.heap.size vd ms ob rfl rfl XD.out.ob (by omega) ?_
                  intro v' w10 hO hb10
                  obtain ⟨g9, cap9, hv9⟩ : ∃ g cap, v' = .slice (some ⟨g, 0, none⟩) (ms ++ [ob]).length cap := by
                    rcases owns_form hO.1 with ⟨h, _⟩ | ⟨g, cap, h, _⟩
                    · simp at h
                    · exact ⟨g, cap, h⟩
                  rw [List.length_append, List.length_singleton, zm] at hv9
                  subst hv9
                  have lq := XD.out.lt
                  have lq2 := XD.out.lb
                  have c10 := (XD.out.pq.far hb10 (by omega)).r2.cell (j := 0) (v := _) rfl
                  have f10 := (XD.out.pq.far hb10 (by omega)).r2.free (j := 0) (by simp)
                  have X11 := Lib.hid (XD.out.add hO hb10)
                  clear hO hb10 lq lq2 XD
                  refine hK.out _ _ trivial (fun hHeld => ?_)
                  clear hK
                  try simp only [Act.put, List.setIfInBounds_toArray, List.set_cons_zero, List.set_cons_succ]
                  refine wpAnyH_ready (rs := [7]) (by kernel_rfl) (by simp) ?_
                  refine AllReadyH.cons rfl (fun K' hK => ?_) AllReadyH.nil
                  clear hHeld
                  go_simp
                  clear c10 f10
                  refine hK.out _ _ trivial (fun hHeld => ?_)
                  clear hK
                  try simp only [Act.put, List.setIfInBounds_toArray, List.set_cons_zero, List.set_cons_succ]
                  refine wpAnyH_done (by kernel_rfl) ?_ _
                  clear hHeld
                  go_wp2_with fail
                  go_roundw
                  case rel => exact ⟨j + 1, _, ms ++ [ob], by omega, by go_num, by rw [List.length_append, zm]; rfl, RT2, X11⟩
                  case measure => simp [intOf]; omega
                · clear hHeld
                  go_simp
                  refine (SP.out _ XD.out.below).mono ?_
                  rintro e wx ⟨g2, rfl, hca, hbx⟩
                  have CP := Lib.hid hca
                  replace XD := Lib.hid (XD.out.call hbx)
                  clear hca hbx SP
                  refine hK.out _ _ trivial (fun hHeld => ?_)
                  clear hK
                  try simp only [Act.put, List.setIfInBounds_toArray, List.set_cons_zero, List.set_cons_succ]
                  refine wpAnyH_ready (rs := [0, 4]) (by kernel_rfl) (by simp) ?_
                  refine AllReadyH.cons rfl (fun K' hK => ?_) (AllReadyH.cons rfl (fun K' hK => ?_) AllReadyH.nil)
                  · have q2 := XD.out.pq.r2.cell (j := 0) (v := _) rfl
                    clear hHeld
                    go_simp
                    clear q2
                    refine hK.out _ _ trivial (fun hHeld => ?_)
                    clear hK
                    try simp only [Act.put, List.setIfInBounds_toArray, List.set_cons_zero, List.set_cons_succ]
                    refine wpAnyH_ready (rs := [4]) (by kernel_rfl) (by simp) ?_
                    refine AllReadyH.cons rfl (fun K' hK => ?_) AllReadyH.nil
                    clear hHeld
                    go_simp
                    refine (RW.out _ g2 XD.out.below CP.out XD.out.od).mono ?_
                    rintro e wy ⟨h, hby⟩
                    replace XD := Lib.hid (XD.out.call hby)
                    clear hby RW CP
                    rcases h with ⟨ob, h, rfl, hob⟩ | ⟨h, rfl⟩
                    rotate_left
                    · have F := Lib.hid (BAD.out h)
                      exact parse_raise F.out XD.out.pq XD.out.below rfl rfl rfl
                    have RT2 := Lib.hid (YES.out ob h)
                    clear h hob BAD YES
                    refine hK.out _ _ trivial (fun hHeld => ?_)
                    clear hK
                    try simp only [Act.put, List.setIfInBounds_toArray, List.set_cons_zero, List.set_cons_succ]
                    refine wpAnyH_ready (rs := [5]) (by kernel_rfl) (by simp) ?_
                    refine AllReadyH.cons rfl (fun K' hK => ?_) AllReadyH.nil
                    clear hHeld
                    go_simp
                    refine hK.out _ _ trivial (fun hHeld => ?_)
                    clear hK
                    try simp only [Act.put, List.setIfInBounds_toArray, List.set_cons_zero, List.set_cons_succ]
                    refine wpAnyH_ready (rs := [6]) (by kernel_rfl) (by simp) ?_
                    refine AllReadyH.cons rfl (fun K' hK => ?_) AllReadyH.nil
                    clear hHeld
                    rw [if_pos (by rfl)]
                    refine op_app wy (.tmp 60) (.tmp 65) rfl w8.heap.size vd ms ob rfl rfl XD.out.ob (by omega) ?_
                    intro v' w10 hO hb10
                    obtain ⟨g9, cap9, hv9⟩ : ∃ g cap, v' = .slice (some ⟨g, 0, none⟩) (ms ++ [ob]).length cap := by
                      rcases owns_form hO.1 with ⟨h, _⟩ | ⟨g, cap, h, _⟩
                      · simp at h
                      · exact ⟨g, cap, h⟩
                    rw [List.length_append, List.length_singleton, zm] at hv9
                    subst hv9
                    have lq := XD.out.lt
                    have lq2 := XD.out.lb
                    have c10 := (XD.out.pq.far hb10 (by omega)).r2.cell (j := 0) (v := _) rfl
                    have f10 := (XD.out.pq.far hb10 (by omega)).r2.free (j := 0) (by simp)
                    have X11 := Lib.hid (XD.out.add hO hb10)
                    clear hO hb10 lq lq2 XD
                    refine hK.out _ _ trivial (fun hHeld => ?_)
                    clear hK
                    try simp only [Act.put, List.setIfInBounds_toArray, List.set_cons_zero, List.set_cons_succ]
                    refine wpAnyH_ready (rs := [7]) (by kernel_rfl) (by simp) ?_
                    refine AllReadyH.cons rfl (fun K' hK => ?_) AllReadyH.nil
                    clear hHeld
                    go_simp
                    clear c10 f10
                    refine hK.out _ _ trivial (fun hHeld => ?_)
                    clear hK
                    try simp only [Act.put, List.setIfInBounds_toArray, List.set_cons_zero, List.set_cons_succ]
                    refine wpAnyH_done (by kernel_rfl) ?_ _
                    clear hHeld
                    go_wp2_with fail
                    go_roundw
                    case rel => exact ⟨j + 1, _, ms ++ [ob], by omega, by go_num, by rw [List.length_append, zm]; rfl, RT2, X11⟩
                    case measure => simp [intOf]; omega
                  · clear hHeld
                    go_simp
                    refine (RW.out _ g2 XD.out.below CP.out XD.out.od).mono ?_
                    rintro e wy ⟨h, hby⟩
                    replace XD := Lib.hid (XD.out.call hby)
                    clear hby RW CP
                    rcases h with ⟨ob, h, rfl, hob⟩ | ⟨h, rfl⟩
                    rotate_left
                    · have F := Lib.hid (BAD.out h)
                      exact parse_raise F.out XD.out.pq XD.out.below rfl rfl rfl
                    have RT2 := Lib.hid (YES.out ob h)
                    clear h hob BAD YES
                    refine hK.out _ _ trivial (fun hHeld => ?_)
                    clear hK
                    try simp only [Act.put, List.setIfInBounds_toArray, List.set_cons_zero, List.set_cons_succ]
                    refine wpAnyH_ready (rs := [0, 5]) (by kernel_rfl) (by simp) ?_
                    refine AllReadyH.cons rfl (fun K' hK => ?_) (AllReadyH.cons rfl (fun K' hK => ?_) AllReadyH.nil)
                    · have q2 := XD.out.pq.r2.cell (j := 0) (v := _) rfl
                      clear hHeld
                      go_simp
                      clear q2
                      refine hK.out _ _ trivial (fun hHeld => ?_)
                      clear hK
                      try simp only [Act.put, List.setIfInBounds_toArray, List.set_cons_zero, List.set_cons_succ]
                      refine wpAnyH_ready (rs := [5]) (by kernel_rfl) (by simp) ?_
                      refine AllReadyH.cons rfl (fun K' hK => ?_) AllReadyH.nil
                      clear hHeld
                      go_simp
                      refine hK.out _ _ trivial (fun hHeld => ?_)
                      clear hK
                      try simp only [Act.put, List.setIfInBounds_toArray, List.set_cons_zero, List.set_cons_succ]
                      refine wpAnyH_ready (rs := [6]) (by kernel_rfl) (by simp) ?_
                      refine AllReadyH.cons rfl (fun K' hK => ?_) AllReadyH.nil
                      clear hHeld
                      rw [if_pos (by rfl)]
                      refine op_app wy (.tmp 60) (.tmp 65) rfl w8.heap.size vd ms ob rfl rfl XD.out.ob (by omega) ?_
                      intro v' w10 hO hb10
                      obtain ⟨g9, cap9, hv9⟩ : ∃ g cap, v' = .slice (some ⟨g, 0, none⟩) (ms ++ [ob]).length cap := by
                        rcases owns_form hO.1 with ⟨h, _⟩ | ⟨g, cap, h, _⟩
                        · simp at h
                        · exact ⟨g, cap, h⟩
                      rw [List.length_append, List.length_singleton, zm] at hv9
                      subst hv9
                      have lq := XD.out.lt
                      have lq2 := XD.out.lb
                      have c10 := (XD.out.pq.far hb10 (by omega)).r2.cell (j := 0) (v := _) rfl
                      have f10 := (XD.out.pq.far hb10 (by omega)).r2.free (j := 0) (by simp)
                      have X11 := Lib.hid (XD.out.add hO hb10)
                      clear hO hb10 lq lq2 XD
                      refine hK.out _ _ trivial (fun hHeld => ?_)
                      clear hK
                      try simp only [Act.put, List.setIfInBounds_toArray, List.set_cons_zero, List.set_cons_succ]
                      refine wpAnyH_ready (rs := [7]) (by kernel_rfl) (by simp) ?_
                      refine AllReadyH.cons rfl (fun K' hK => ?_) AllReadyH.nil
                      clear hHeld
                      go_simp
                      clear c10 f10
                      refine hK.out _ _ trivial (fun hHeld => ?_)
                      clear hK
                      try simp only [Act.put, List.setIfInBounds_toArray, List.set_cons_zero, List.set_cons_succ]
                      refine wpAnyH_done (by kernel_rfl) ?_ _
                      clear hHeld
                      go_wp2_with fail
                      go_roundw
                      case rel => exact ⟨j + 1, _, ms ++ [ob], by omega, by go_num, by rw [List.length_append, zm]; rfl, RT2, X11⟩
                      case measure => simp [intOf]; omega
                    · clear hHeld
                      go_simp
                      refine hK.out _ _ trivial (fun hHeld => ?_)
                      clear hK
                      try simp only [Act.put, List.setIfInBounds_toArray, List.set_cons_zero, List.set_cons_succ]
                      refine wpAnyH_ready (rs := [0]) (by kernel_rfl) (by simp) ?_
                      refine AllReadyH.cons rfl (fun K' hK => ?_) AllReadyH.nil
                      have q2 : (wy.alloc (.cells #[.string ob.name, .string ob.site, .int .i64 ob.t, .int .i64 ob.ra, .int .i64 ob.dec, .int .i64 ob.sg, .int .i64 ob.mag, .int .u8 ob.band] 33)).cell? ⟨w.heap.size + 1, 0, none⟩ = some vd := (XD.out.call ((Below.refl _ _).alloc (Nat.le_refl _) (.cells (obsC ob).toArray 33))).pq.r2.cell (j := 0) (v := _) rfl
                      clear hHeld
                      go_simp
                      clear q2
                      refine hK.out _ _ trivial (fun hHeld => ?_)
                      clear hK
                      try simp only [Act.put, List.setIfInBounds_toArray, List.set_cons_zero, List.set_cons_succ]
                      refine wpAnyH_ready (rs := [6]) (by kernel_rfl) (by simp) ?_
                      refine AllReadyH.cons rfl (fun K' hK => ?_) AllReadyH.nil
                      clear hHeld
                      rw [if_pos (by rfl)]
                      refine op_app wy (.tmp 60) (.tmp 65) rfl w8.heap.size vd ms ob rfl rfl XD.out.ob (by omega) ?_
                      intro v' w10 hO hb10
                      obtain ⟨g9, cap9, hv9⟩ : ∃ g cap, v' = .slice (some ⟨g, 0, none⟩) (ms ++ [ob]).length cap := by
                        rcases owns_form hO.1 with ⟨h, _⟩ | ⟨g, cap, h, _⟩
                        · simp at h
                        · exact ⟨g, cap, h⟩
                      rw [List.length_append, List.length_singleton, zm] at hv9
                      subst hv9
                      have lq := XD.out.lt
                      have lq2 := XD.out.lb
                      have c10 := (XD.out.pq.far hb10 (by omega)).r2.cell (j := 0) (v := _) rfl
                      have f10 := (XD.out.pq.far hb10 (by omega)).r2.free (j := 0) (by simp)
                      have X11 := Lib.hid (XD.out.add hO hb10)
                      clear hO hb10 lq lq2 XD
                      refine hK.out _ _ trivial (fun hHeld => ?_)
                      clear hK
                      try simp only [Act.put, List.setIfInBounds_toArray, List.set_cons_zero, List.set_cons_succ]
                      refine wpAnyH_ready (rs := [7]) (by kernel_rfl) (by simp) ?_
                      refine AllReadyH.cons rfl (fun K' hK => ?_) AllReadyH.nil
                      clear hHeld
                      go_simp
                      clear c10 f10
                      refine hK.out _ _ trivial (fun hHeld => ?_)
                      clear hK
                      try simp only [Act.put, List.setIfInBounds_toArray, List.set_cons_zero, List.set_cons_succ]
                      refine wpAnyH_done (by kernel_rfl) ?_ _
                      clear hHeld
                      go_wp2_with fail
                      go_roundw
                      case rel => exact ⟨j + 1, _, ms ++ [ob], by omega, by go_num, by rw [List.length_append, zm]; rfl, RT2, X11⟩
                      case measure => simp [intOf]; omega
              · obtain rfl : j = m' := by omega
                have RE := rowTo_end (ord := ord) (rows := rows) (ms := ms) (by have := RT.out; rwa [← RM.out] at this)
                have TT : tabR L = some (ns, ms) := by rw [TG2.out, RE]; rfl
                have F4 := Lib.hid (FINM.out ns ms TT)
                have F0 := Lib.hid (FINY.out ns ms TT)
                obtain ⟨xa, ca, hvn, _⟩ := Own1.stV X.out.nt
                obtain ⟨xd, cd, hvd, _⟩ := slV_of X.out.ob.1
                rw [zm] at hvd
                subst hvn hvd
                have c1 := X.out.pq.r1.cell (j := 0) (v := _) rfl
                have f1 := X.out.pq.r1.free (j := 0) (by simp)
                have c2 := X.out.pq.r2.cell (j := 0) (v := _) rfl
                have f2 := X.out.pq.r2.free (j := 0) (by simp)
                have c3 := X.out.pq.r3.cell (j := 0) (v := _) rfl
                have f3 := X.out.pq.r3.free (j := 0) (by simp)
                have P4 := Lib.hid (X.out.fin (.slice none 0 0) (.slice none 0 0) (.int .i64 4))
                have P0 := Lib.hid ((X.out.call (Below.refl _ _).drew).fin (.slice xa ns.length ca) (.slice xd j cd) (.int .i64 0))
                have Y0 := Lib.hid (X.out.call (Below.refl _ _).drew).pq
                have lj := zm
                clear RT X RE TT FINM FINY FINN TG2 HCr RM OO RI zm hsl
                by_cases g1 : 50 < ns.length
                · have i1 : (50 : Int) < (ns.length : Int) := by omega
                  have F := Lib.hid (F4.out (Or.inl g1))
                  clear F4 F0 Y0 P0
                  go_wp2_with fail
                  exact parse_end F.out P4.out.1 (StV.nil _) (SlV.nil _) P4.out.2.2.2 rfl rfl rfl
                · have i1 : ¬ (50 : Int) < (ns.length : Int) := by omega
                  by_cases g2 : 500 < j
                  · have i2 : (500 : Int) < (j : Int) := by omega
                    have F := Lib.hid (F4.out (Or.inr (by omega)))
                    clear F4 F0 Y0 P0
                    go_wp2_with fail
                    exact parse_end F.out P4.out.1 (StV.nil _) (SlV.nil _) P4.out.2.2.2 rfl rfl rfl
                  · have i2 : ¬ (500 : Int) < (j : Int) := by omega
                    have F := Lib.hid (F0.out (by omega))
                    clear F4 F0 P4
                    go_upto_region 19 with fail
                    clear c1 f1 c2 f2 c3 f3
                    refine wp_region_held_drew (S := fun wx => ∃ c, PQ w.heap.size (.slice xa ns.length ca) (.slice xd j cd) (.int .i64 c) wx) (by kernel_rfl) ⟨_, Y0.out⟩ (fun hHeld => ?_)
                    obtain ⟨v0, hv0⟩ : ∃ v, wr.drew = v := ⟨_, rfl⟩
                    rw [hv0] at hHeld Y0 P0 ⊢
                    have c1 := Y0.out.r1.cell (j := 0) (v := _) rfl
                    have f1 := Y0.out.r1.free (j := 0) (by simp)
                    have c2 := Y0.out.r2.cell (j := 0) (v := _) rfl
                    have f2 := Y0.out.r2.free (j := 0) (by simp)
                    have c3 := Y0.out.r3.cell (j := 0) (v := _) rfl
                    have f3 := Y0.out.r3.free (j := 0) (by simp)
                    refine wpAnyH_take (i := 0) (oi := ?oi0x901) (v := ?v0x901) ?hi0x901 (by kernel_rfl) (by kernel_rfl) (by kernel_rfl) ?hq0x901 ?hy0x901 hHeld ?rest0x901
                    case hi0x901 => ((try simp only [List.getElem?_toArray, List.getElem?_cons_succ, List.getElem?_cons_zero]); (try rfl))
                    case hq0x901 => exact fun c a w h => parse_put _ _ _ (by decide) (by decide) (by decide) c a w h
                    case hy0x901 => exact Or.inl ⟨by rfl, by intro w hSw; obtain ⟨_, hc⟩ := hSw; have q := hc.r1.cell (j := 0) (v := _) rfl; clear hc; go_simp; try with_reducible rfl⟩
                    try simp only [Act.put, List.setIfInBounds_toArray, List.set_cons_zero, List.set_cons_succ]
                    refine wpAnyH_take (i := 1) (oi := ?oi1x902) (v := ?v1x902) ?hi1x902 (by kernel_rfl) (by kernel_rfl) (by kernel_rfl) ?hq1x902 ?hy1x902 hHeld ?rest1x902
                    case hi1x902 => ((try simp only [List.getElem?_toArray, List.getElem?_cons_succ, List.getElem?_cons_zero]); (try rfl))
                    case hq1x902 => exact fun c a w h => parse_put _ _ _ (by decide) (by decide) (by decide) c a w h
                    case hy1x902 => exact Or.inl ⟨by rfl, by intro w hSw; obtain ⟨_, hc⟩ := hSw; have q := hc.r2.cell (j := 0) (v := _) rfl; clear hc; go_simp; try with_reducible rfl⟩
                    try simp only [Act.put, List.setIfInBounds_toArray, List.set_cons_zero, List.set_cons_succ]
                    refine wpAnyH_ready (rs := [2]) (by kernel_rfl) (by simp) ?_
                    refine AllReadyH.cons rfl (fun K' hK => ?_) AllReadyH.nil
                    clear hHeld
                    go_simp
                    have Y1 := Lib.hid (Y0.out.set1 (.slice xa ns.length ca))
                    refine hK.out _ _ ⟨_, Y1.out⟩ (fun hHeld => ?_)
                    clear hK
                    try simp only [Act.put, List.setIfInBounds_toArray, List.set_cons_zero, List.set_cons_succ]
                    refine wpAnyH_ready (rs := [3]) (by kernel_rfl) (by simp) ?_
                    refine AllReadyH.cons rfl (fun K' hK => ?_) AllReadyH.nil
                    clear hHeld
                    go_simp
                    have Y2 := Lib.hid (Y1.out.set2 (.slice xd j cd))
                    refine hK.out _ _ ⟨_, Y2.out⟩ (fun hHeld => ?_)
                    clear hK
                    try simp only [Act.put, List.setIfInBounds_toArray, List.set_cons_zero, List.set_cons_succ]
                    refine wpAnyH_ready (rs := [4]) (by kernel_rfl) (by simp) ?_
                    refine AllReadyH.cons rfl (fun K' hK => ?_) AllReadyH.nil
                    clear hHeld
                    go_simp
                    have Y3 := Lib.hid (Y2.out.set3 (.int .i64 0))
                    refine hK.out _ _ ⟨_, Y3.out⟩ (fun hHeld => ?_)
                    clear hK
                    try simp only [Act.put, List.setIfInBounds_toArray, List.set_cons_zero, List.set_cons_succ]
                    refine wpAnyH_done (by kernel_rfl) ?_ _
                    clear hHeld
                    go_wp2_with fail
                    exact parse_end F.out P0.out.1 P0.out.2.1 P0.out.2.2.1 P0.out.2.2.2 rfl rfl rfl
          · rw [HXL.out] at hr
            have E := Lib.hid (FINN.out (by rw [TG.out, hr]; rfl))
            have X8 := Lib.hid (X.out.call hb8)
            exact parse_raise E.out X8.out.pq X8.out.below rfl rfl rfl
  · have NO := Lib.hid (show ParseTIs s [] [] 12 from Or.inr (Or.inr ⟨fun b hb => absurd hb (hno b), rfl, rfl, rfl⟩))
    rw [h1] at CS
    clear hE hM hc hw0 p0 b0 hno h1 HE HM
    go_enter_defers Tryz.func19, Tryz.ntmps19
    go_upto_region 1 with fail
    rw [W0.out]
    go_wp2_with fail
    refine (CS.out _).mono ?_
    rintro e w1 ⟨rfl, rfl⟩
    go_wp2_with fail
    refine (need_no _).mono ?_
    rintro e w2 ⟨rfl, rfl⟩
    exact parse_raise NO.out P0.out B0.out rfl rfl rfl
end Vw
end Go.Proofs.YtaghilgfldaaiaaGreatDoor
/-
  What the rows of the laws of observations say of memory: the table of powers, and the error of strconv.
-/
namespace Go.Proofs.YtaghilgfldaaiaaGreatDoor
namespace Ow
open Go.RowKit Lw

theorem laidMet_tail {P : Program} {W : World} {x : String × DataW Unit} {rest : List (String × DataW Unit)} (h : laidMet P (x :: rest) W) : laidMet P rest W := by
  obtain ⟨n, d⟩ := x
  obtain ⟨ps, ⟨g', t', cs, fuel, p, q, hg', ht', hvar, hd, hr, hp⟩, hn, ha⟩ := h
  subst hp
  exact ⟨q, hr, (List.nodup_append.1 hn).2.1, fun b off hm => ha b off (List.mem_append_right _ hm)⟩
set_option maxRecDepth 100000 in
theorem err_one {enc : TypeId × Value → Unit} {W : World} {base : Nat} {sp : Nat → Bool} {fuel : Nat} {t : TypeId} {tys : Array (String × TypeId)} {v : Value} {y : DataW Unit × List MemPlace} (ht : Tryz.prog.underlying t = some (.interface tys)) (h : DataW.trod enc Tryz.prog W base sp false fuel t [v] = some y) : v = .nilIface ∨ ∃ te pe, v = .iface te pe := by
  cases fuel with
  | zero => simp [DataW.trod] at h
  | succ n =>
    cases v with
    | nilIface => exact Or.inl rfl
    | iface te pe => exact Or.inr ⟨te, pe, rfl⟩
    | _ => simp [DataW.trod, ht] at h
set_option maxRecDepth 100000 in
theorem err_cell {enc : TypeId × Value → Unit} {W : World} {base : Nat} {sp : Nat → Bool} {fuel : Nat} {t : TypeId} {tys : Array (String × TypeId)} {cs : List Value} {y : DataW Unit × List MemPlace} (ht : Tryz.prog.underlying t = some (.interface tys)) (h : DataW.trod enc Tryz.prog W base sp false fuel t cs = some y) :
    ∃ v, cs = [v] ∧ (v = .nilIface ∨ ∃ te pe, v = .iface te pe) := by
  cases fuel with
  | zero => simp [DataW.trod] at h
  | succ n =>
    match cs, h with
    | [], h => simp [DataW.trod, ht] at h
    | [v], h =>
      exact ⟨v, rfl, err_one ht h⟩
    | _ :: _ :: _, h => simp [DataW.trod, ht] at h
theorem es_of {W : World} (hL : laidMet Tryz.prog Rows.psvMergesRow.laid W) : ES W := by
  obtain ⟨ps, ⟨g', t', cs, fuel, p, q, hg', ht', hvar, hd, _, _⟩, _⟩ := laidMet_tail (laidMet_tail (laidMet_tail (laidMet_tail (laidMet_tail hL))))
  have hg : Tryz.prog.globalNamed "strconv.ErrSyntax" = some 6 := by kernel_rfl
  have hty : (Tryz.prog.globals[(6 : Nat)]?).map (·.type) = some 97 := by kernel_rfl
  obtain rfl := Option.some.inj (hg.symm.trans hg')
  obtain rfl := Option.some.inj (hty.symm.trans ht')
  obtain ⟨tys, hu⟩ : ∃ tys, Tryz.prog.underlying 97 = some (.interface tys) := ⟨_, Tryz.underlying97⟩
  obtain ⟨v, hc, hv⟩ := err_cell hu hd
  have c := World.var?_cell hg hvar 0
  have e0 : cs[0]? = some v := by
    rw [← Array.getElem?_toList, hc]; rfl
  rw [e0] at c
  refine ⟨?_, v, c, hv⟩
  rcases Nat.lt_or_ge 6 W.heap.size with h | h
  · exact h
  · exfalso
    unfold World.cell? at c
    rw [Array.getElem?_eq_none h] at c
    cases c
theorem tab_of {W : World} (hL : laidMet Tryz.prog Rows.psvMergesRow.laid W) : Gt.Tab W :=
  Lib.tabIs_of_head (t := 209) (e := 181) (n := 20) Gt.gPow (by kernel_rfl) (by kernel_rfl) (by kernel_rfl) (by kernel_rfl) (by kernel_rfl) (laidMet_tail (laidMet_tail hL))
end Ow
end Go.Proofs.YtaghilgfldaaiaaGreatDoor
/-
  The walk of the law ObsRound.
-/
namespace Go.Proofs.YtaghilgfldaaiaaGreatDoor
namespace Ow
open Go.RowKit Lw Go.Proofs.YtaghilgfldaaiaaGreatDoor.Ap Go.Proofs.YtaghilgfldaaiaaGreatDoor.Op Go.Proofs.YtaghilgfldaaiaaGreatDoor.Mp Go.Proofs.YtaghilgfldaaiaaGreatDoor.Mw Go.Proofs.YtaghilgfldaaiaaGreatDoor.At

theorem great_one {w : World} {o : Ob} (hb : OB o) : Calls Tryz.prog 9 #[.slice (some ⟨w.heap.size, 0, none⟩) 1 1, .int .i64 1] (w.alloc (.cells (obsC o).toArray 33)) fun e w' => e = .returned (.bool (decide (longP o))) ∧ (w.alloc (.cells (obsC o).toArray 33)) = w' := by
  have h := great_any w.heap.size 0 1 [o] 1 (w.alloc (.cells (obsC o).toArray 33)) (fun i hi => by
    have hi : i < 1 := hi
    obtain rfl : i = 0 := by omega
    exact rangeAt_new w _ _) (by show 1 ≤ _; omega) (fun x hx => by
    obtain rfl := List.mem_singleton.1 hx
    exact ⟨hb.n1, hb.n2⟩)
  have e : greatB [o] 1 = decide (longP o) := decide_eq_decide.2 ⟨fun g => by
    rcases g with ⟨x, hx, g⟩ | ⟨g, _⟩ | g
    · obtain rfl := List.mem_singleton.1 hx; exact g
    · simp at g
    · simp at g, fun g => Or.inl ⟨o, List.mem_singleton_self o, g⟩⟩
  rw [e] at h
  exact h
end Ow
end Go.Proofs.YtaghilgfldaaiaaGreatDoor
/-
  Plain law of observations: the plan of the law ObsRound.
-/
namespace Go.Proofs.YtaghilgfldaaiaaGreatDoor
namespace Ow
open Go.RowKit Lw Go.Proofs.YtaghilgfldaaiaaGreatDoor.Ap Go.Proofs.YtaghilgfldaaiaaGreatDoor.Op Go.Proofs.YtaghilgfldaaiaaGreatDoor.Mp Go.Proofs.YtaghilgfldaaiaaGreatDoor.Mw Go.Proofs.YtaghilgfldaaiaaGreatDoor.At

theorem ok_ob {o : Ob} (ok : okO o) : OB o := by
  obtain ⟨t, n, s, _, _, _, _, _, _, _, m⟩ := ok
  obtain ⟨b0, b1, _⟩ := band_u8 m
  have b : -1000000000000000 ≤ bgv (-10227) 1972 1 ∧ bgv 36525 2100 1 ≤ 10000000000000000 := by decide +kernel
  unfold timeP at t
  have z : o.name.size ≤ 7 := by
    rcases n with h | h
    · have := h.1; omega
    · exact h.2.1
  exact ⟨by omega, by omega, b0, b1, by unfold maxLen; omega, by unfold maxLen; omega⟩
end Ow
end Go.Proofs.YtaghilgfldaaiaaGreatDoor
/-
  The walks of given, reads and alive of the law package of tables.
-/
namespace Go.Proofs.YtaghilgfldaaiaaGreatDoor
namespace Vw
open Go.RowKit Lw Go.Proofs.YtaghilgfldaaiaaGreatDoor.Ap Go.Proofs.YtaghilgfldaaiaaGreatDoor.Vp Go.Proofs.YtaghilgfldaaiaaGreatDoor.Op Go.Proofs.YtaghilgfldaaiaaGreatDoor.Ow Go.Proofs.YtaghilgfldaaiaaGreatDoor.Mp Go.Proofs.YtaghilgfldaaiaaGreatDoor.Mw Go.Proofs.YtaghilgfldaaiaaGreatDoor.At

theorem ob_G : OB oG := ok_ob k_okG
set_option maxRecDepth 100000 in
set_option maxHeartbeats 4000000 in
theorem given27_any (w : World) : Calls Tryz.prog 27 #[] w fun e w' => e = .returned (obsV oG) ∧ Below w.heap.size w w' := by
  have PA := Lib.hid (fun w' => Ap.parse_any tG w' (by decide))
  have RS := Lib.hid (Res.new w)
  go_enter Tryz.func27, Tryz.ntmps27
  go_wp2_with fail
  refine (PA.out _).mono ?_
  rintro e w1 ⟨t, c, rfl, hP, hb⟩
  obtain ⟨rfl, rfl⟩ := hP.uniq k_timeG
  have RS1 := Lib.hid (RS.out.call hb)
  clear hP hb RS PA
  go_wp2_with (refine wpList_store_mid rfl _ (.tmp 0) (.tmp 8) rfl w.heap.size 0 _ rfl rfl ?_ info8 ?_ ?_; exact RS1.out.th; simp [Value.oneCell'])
  exact bodyPost_ret (ret_cell Tryz.results27 _ _ w.heap.size (obsC oG) _ rfl (World.rangeAt_setCells_same _ _ _ _ RS1.out.th) Tryz.underlying33 rfl info8) rfl ⟨rfl, below_setCells _ (Nat.le_refl _) _ _ _ RS1.out.below⟩
set_option maxRecDepth 100000 in
set_option maxHeartbeats 8000000 in
theorem reads27_any (s : ByteArray) (o : Ob) (w : World) (hE : ES w) (hM : MX w) (hs : s.size ≤ 1000000) (hc : SmallC s) (h : ParseTIs s [] [o] 0) : Calls Tryz.prog 28 #[.string s, obsV o] w fun e w' => e = .returned (.bool true) ∧ Below w.heap.size w w' := by
  have X0 := Lib.hid (OX.new w o)
  have PA := Lib.hid (fun w' (h : ES w') (g : MX w') => vparse_any s w' h g hs hc)
  have HE := Lib.hid (hE.below X0.out.below)
  have HM := Lib.hid (hM.below X0.out.below)
  have H := Lib.hid h
  have EQ : ∀ w', (Go.Op.equalIn 10000 33 (.agg #[.string o.name, .string o.site, .int .i64 o.t, .int .i64 o.ra, .int .i64 o.dec, .int .i64 o.sg, .int .i64 o.mag, .int .u8 o.band]) (.agg #[.string o.name, .string o.site, .int .i64 o.t, .int .i64 o.ra, .int .i64 o.dec, .int .i64 o.sg, .int .i64 o.mag, .int .u8 o.band])).run Tryz.prog w' = .ok true w' := fun w' => by
    have := obs_eql o o w'
    rw [decide_eq_true rfl] at this
    exact this
  clear hE hM hs hc h
  go_enter Tryz.func28, Tryz.ntmps28
  go_wp2_with fail
  refine (PA.out _ HE.out HM.out).mono ?_
  rintro e w1 ⟨v, d, n, m, c, rfl, hP, hv, hd, hb⟩
  obtain ⟨rfl, rfl, rfl⟩ := H.out.uniq hP
  obtain ⟨xn, cn, rfl, hxn⟩ := hv
  obtain ⟨xo, co, rfl, hxo⟩ := hd
  have X1 := Lib.hid (X0.out.call hb)
  obtain ⟨b, off, rfl, lt, row⟩ := hxo.get (i := 0) (by simp)
  have row := row 0 (by simp)
  have r := Lib.hid (show w1.rangeAt b (off + 0) (obsC o) from row)
  clear hb hP PA X0 HE HM H hxn hxo lt row
  go_upto_region 2 with fail
  refine wp_region_held_drew (S := fun wx => OX w w.heap.size o wx ∧ wx.rangeAt b off (obsC o)) (by kernel_rfl) ⟨X1.out.call (Below.refl _ _).drew, r.out⟩ (fun hHeld => ?_)
  refine wpAnyH_take (i := 0) (oi := ?oi0x1) (v := ?v0x1) ?hi0x1 (by kernel_rfl) (by kernel_rfl) (by kernel_rfl) ?hq0x1 ?hy0x1 hHeld ?rest0x1
  case hi0x1 => ((try simp only [List.getElem?_toArray, List.getElem?_cons_succ, List.getElem?_cons_zero]); (try rfl))
  case hq0x1 => exact fun _ _ _ h => h
  case hy0x1 => exact Or.inl ⟨by rfl, by intro w hSw; clear hSw; go_simp; try with_reducible rfl⟩
  try simp only [Act.put, List.setIfInBounds_toArray, List.set_cons_zero, List.set_cons_succ]
  refine wpAnyH_take (i := 1) (oi := ?oi1x2) (v := ?v1x2) ?hi1x2 (by kernel_rfl) (by kernel_rfl) (by kernel_rfl) ?hq1x2 ?hy1x2 hHeld ?rest1x2
  case hi1x2 => ((try simp only [List.getElem?_toArray, List.getElem?_cons_succ, List.getElem?_cons_zero]); (try rfl))
  case hq1x2 => exact fun _ _ _ h => h
  case hy1x2 => exact Or.inl ⟨by rfl, by intro w hSw; clear hSw; go_simp; try with_reducible rfl⟩
  try simp only [Act.put, List.setIfInBounds_toArray, List.set_cons_zero, List.set_cons_succ]
  refine wpAnyH_take (i := 2) (oi := ?oi2x3) (v := ?v2x3) ?hi2x3 (by kernel_rfl) (by kernel_rfl) (by kernel_rfl) ?hq2x3 ?hy2x3 hHeld ?rest2x3
  case hi2x3 => ((try simp only [List.getElem?_toArray, List.getElem?_cons_succ, List.getElem?_cons_zero]); (try rfl))
  case hq2x3 => exact fun _ _ _ h => h
  case hy2x3 => exact Or.inl ⟨by rfl, by intro w hSw; clear hSw; go_simp; try with_reducible rfl⟩
  try simp only [Act.put, List.setIfInBounds_toArray, List.set_cons_zero, List.set_cons_succ]
  refine wpAnyH_take (i := 3) (oi := ?oi3x4) (v := ?v3x4) ?hi3x4 (by kernel_rfl) (by kernel_rfl) (by kernel_rfl) ?hq3x4 ?hy3x4 hHeld ?rest3x4
  case hi3x4 => ((try simp only [List.getElem?_toArray, List.getElem?_cons_succ, List.getElem?_cons_zero]); (try rfl))
  case hq3x4 => exact fun _ _ _ h => h
  case hy3x4 => exact Or.inl ⟨by rfl, by intro w hSw; clear hSw; go_simp; try with_reducible rfl⟩
  try simp only [Act.put, List.setIfInBounds_toArray, List.set_cons_zero, List.set_cons_succ]
  refine wpAnyH_take (i := 4) (oi := ?oi4x5) (v := ?v4x5) ?hi4x5 (by kernel_rfl) (by kernel_rfl) (by kernel_rfl) ?hq4x5 ?hy4x5 hHeld ?rest4x5
  case hi4x5 => ((try simp only [List.getElem?_toArray, List.getElem?_cons_succ, List.getElem?_cons_zero]); (try rfl))
  case hq4x5 => exact fun _ _ _ h => h
  case hy4x5 => exact Or.inl ⟨by rfl, by intro w hSw; clear hSw; go_simp; try with_reducible rfl⟩
  try simp only [Act.put, List.setIfInBounds_toArray, List.set_cons_zero, List.set_cons_succ]
  refine wpAnyH_take (i := 5) (oi := ?oi5x6) (v := ?v5x6) ?hi5x6 (by kernel_rfl) (by kernel_rfl) (by kernel_rfl) ?hq5x6 ?hy5x6 hHeld ?rest5x6
  case hi5x6 => ((try simp only [List.getElem?_toArray, List.getElem?_cons_succ, List.getElem?_cons_zero]); (try rfl))
  case hq5x6 => exact fun _ _ _ h => h
  case hy5x6 => exact Or.inl ⟨by rfl, by intro w hSw; clear hSw; go_simp; try with_reducible rfl⟩
  try simp only [Act.put, List.setIfInBounds_toArray, List.set_cons_zero, List.set_cons_succ]
  refine wpAnyH_take (i := 6) (oi := ?oi6x7) (v := ?v6x7) ?hi6x7 (by kernel_rfl) (by kernel_rfl) (by kernel_rfl) ?hq6x7 ?hy6x7 hHeld ?rest6x7
  case hi6x7 => ((try simp only [List.getElem?_toArray, List.getElem?_cons_succ, List.getElem?_cons_zero]); (try rfl))
  case hq6x7 => exact fun _ _ _ h => h
  case hy6x7 => exact Or.inl ⟨by rfl, by intro w hSw; clear hSw; go_simp; try with_reducible rfl⟩
  try simp only [Act.put, List.setIfInBounds_toArray, List.set_cons_zero, List.set_cons_succ]
  refine wpAnyH_take (i := 7) (oi := ?oi7x8) (v := ?v7x8) ?hi7x8 (by kernel_rfl) (by kernel_rfl) (by kernel_rfl) ?hq7x8 ?hy7x8 hHeld ?rest7x8
  case hi7x8 => ((try simp only [List.getElem?_toArray, List.getElem?_cons_succ, List.getElem?_cons_zero]); (try rfl))
  case hq7x8 => exact fun _ _ _ h => h
  case hy7x8 => exact Or.inl ⟨by rfl, by intro w hSw; clear hSw; go_simp; try with_reducible rfl⟩
  try simp only [Act.put, List.setIfInBounds_toArray, List.set_cons_zero, List.set_cons_succ]
  refine wpAnyH_take (i := 8) (oi := ?oi8x9) (v := ?v8x9) ?hi8x9 (by kernel_rfl) (by kernel_rfl) (by kernel_rfl) ?hq8x9 ?hy8x9 hHeld ?rest8x9
  case hi8x9 => ((try simp only [List.getElem?_toArray, List.getElem?_cons_succ, List.getElem?_cons_zero]); (try rfl))
  case hq8x9 => exact fun _ _ _ h => h
  case hy8x9 => exact Or.inl ⟨by rfl, by intro w hSw; clear hSw; go_simp; try with_reducible rfl⟩
  try simp only [Act.put, List.setIfInBounds_toArray, List.set_cons_zero, List.set_cons_succ]
  refine wpAnyH_take (i := 9) (oi := ?oi9x10) (v := ?v9x10) ?hi9x10 (by kernel_rfl) (by kernel_rfl) (by kernel_rfl) ?hq9x10 ?hy9x10 hHeld ?rest9x10
  case hi9x10 => ((try simp only [List.getElem?_toArray, List.getElem?_cons_succ, List.getElem?_cons_zero]); (try rfl))
  case hq9x10 => exact fun _ _ _ h => h
  case hy9x10 => exact Or.inl ⟨by rfl, by intro w hSw; clear hSw; go_simp; try with_reducible rfl⟩
  try simp only [Act.put, List.setIfInBounds_toArray, List.set_cons_zero, List.set_cons_succ]
  refine wpAnyH_take (i := 10) (oi := ?oi10x11) (v := ?v10x11) ?hi10x11 (by kernel_rfl) (by kernel_rfl) (by kernel_rfl) ?hq10x11 ?hy10x11 hHeld ?rest10x11
  case hi10x11 => ((try simp only [List.getElem?_toArray, List.getElem?_cons_succ, List.getElem?_cons_zero]); (try rfl))
  case hq10x11 => exact fun _ _ _ h => h
  case hy10x11 => exact Or.inl ⟨by rfl, by intro w hSw; clear hSw; go_simp; try with_reducible rfl⟩
  try simp only [Act.put, List.setIfInBounds_toArray, List.set_cons_zero, List.set_cons_succ]
  refine wpAnyH_take (i := 11) (oi := ?oi11x12) (v := ?v11x12) ?hi11x12 (by kernel_rfl) (by kernel_rfl) (by kernel_rfl) ?hq11x12 ?hy11x12 hHeld ?rest11x12
  case hi11x12 => ((try simp only [List.getElem?_toArray, List.getElem?_cons_succ, List.getElem?_cons_zero]); (try rfl))
  case hq11x12 => exact fun _ _ _ h => h
  case hy11x12 => exact Or.inl ⟨by rfl, by intro w hSw; clear hSw; go_simp; try with_reducible rfl⟩
  try simp only [Act.put, List.setIfInBounds_toArray, List.set_cons_zero, List.set_cons_succ]
  refine wpAnyH_take (i := 12) (oi := ?oi12x13) (v := ?v12x13) ?hi12x13 (by kernel_rfl) (by kernel_rfl) (by kernel_rfl) ?hq12x13 ?hy12x13 hHeld ?rest12x13
  case hi12x13 => ((try simp only [List.getElem?_toArray, List.getElem?_cons_succ, List.getElem?_cons_zero]); (try rfl))
  case hq12x13 => exact fun _ _ _ h => h
  case hy12x13 => exact Or.inl ⟨by rfl, by intro w hSw; clear hSw; go_simp; try with_reducible rfl⟩
  try simp only [Act.put, List.setIfInBounds_toArray, List.set_cons_zero, List.set_cons_succ]
  refine wpAnyH_take (i := 13) (oi := ?oi13x14) (v := ?v13x14) ?hi13x14 (by kernel_rfl) (by kernel_rfl) (by kernel_rfl) ?hq13x14 ?hy13x14 hHeld ?rest13x14
  case hi13x14 => ((try simp only [List.getElem?_toArray, List.getElem?_cons_succ, List.getElem?_cons_zero]); (try rfl))
  case hq13x14 => exact fun _ _ _ h => h
  case hy13x14 => exact Or.inl ⟨by rfl, by intro w hSw; clear hSw; go_simp; try with_reducible rfl⟩
  try simp only [Act.put, List.setIfInBounds_toArray, List.set_cons_zero, List.set_cons_succ]
  refine wpAnyH_take (i := 14) (oi := ?oi14x15) (v := ?v14x15) ?hi14x15 (by kernel_rfl) (by kernel_rfl) (by kernel_rfl) ?hq14x15 ?hy14x15 hHeld ?rest14x15
  case hi14x15 => ((try simp only [List.getElem?_toArray, List.getElem?_cons_succ, List.getElem?_cons_zero]); (try rfl))
  case hq14x15 => exact fun _ _ _ h => h
  case hy14x15 => exact Or.inl ⟨by rfl, by intro w hSw; clear hSw; go_simp; try with_reducible rfl⟩
  try simp only [Act.put, List.setIfInBounds_toArray, List.set_cons_zero, List.set_cons_succ]
  refine wpAnyH_take (i := 15) (oi := ?oi15x16) (v := ?v15x16) ?hi15x16 (by kernel_rfl) (by kernel_rfl) (by kernel_rfl) ?hq15x16 ?hy15x16 hHeld ?rest15x16
  case hi15x16 => ((try simp only [List.getElem?_toArray, List.getElem?_cons_succ, List.getElem?_cons_zero]); (try rfl))
  case hq15x16 => exact fun _ _ _ h => h
  case hy15x16 =>
    refine' yieldsIf_load_mid ?_ 33 (.tmp 28) ?_ b off ?_ (obsC o) _ ?_ Tryz.underlying33 ?_ info8
    · rfl
    · rfl
    · rfl
    · exact fun _ h => h.2
    · rfl
  try simp only [Act.put, List.setIfInBounds_toArray, List.set_cons_zero, List.set_cons_succ]
  refine wpAnyH_take (i := 16) (oi := ?oi16x17) (v := ?v16x17) ?hi16x17 (by kernel_rfl) (by kernel_rfl) (by kernel_rfl) ?hq16x17 ?hy16x17 hHeld ?rest16x17
  case hi16x17 => ((try simp only [List.getElem?_toArray, List.getElem?_cons_succ, List.getElem?_cons_zero]); (try rfl))
  case hq16x17 => exact fun _ _ _ h => h
  case hy16x17 =>
    refine' yieldsIf_load_mid ?_ 33 (.tmp 3) ?_ w.heap.size 0 ?_ (obsC o) _ ?_ Tryz.underlying33 ?_ info8
    · rfl
    · rfl
    · rfl
    · exact fun _ h => h.1.row
    · rfl
  try simp only [Act.put, List.setIfInBounds_toArray, List.set_cons_zero, List.set_cons_succ]
  refine wpAnyH_take (i := 17) (oi := ?oi17x18) (v := ?v17x18) ?hi17x18 (by kernel_rfl) (by kernel_rfl) (by kernel_rfl) ?hq17x18 ?hy17x18 hHeld ?rest17x18
  case hi17x18 => ((try simp only [List.getElem?_toArray, List.getElem?_cons_succ, List.getElem?_cons_zero]); (try rfl))
  case hq17x18 => exact fun _ _ _ h => h
  case hy17x18 => exact Or.inl ⟨by rfl, by intro w hSw; clear hSw; go_simp; try with_reducible rfl⟩
  try simp only [Act.put, List.setIfInBounds_toArray, List.set_cons_zero, List.set_cons_succ]
  refine wpAnyH_take (i := 18) (oi := ?oi18x19) (v := ?v18x19) ?hi18x19 (by kernel_rfl) (by kernel_rfl) (by kernel_rfl) ?hq18x19 ?hy18x19 hHeld ?rest18x19
  case hi18x19 => ((try simp only [List.getElem?_toArray, List.getElem?_cons_succ, List.getElem?_cons_zero]); (try rfl))
  case hq18x19 => exact fun _ _ _ h => h
  case hy18x19 => exact Or.inl ⟨by rfl, by intro w hSw; clear hSw; go_simp; try with_reducible rfl⟩
  try simp only [Act.put, List.setIfInBounds_toArray, List.set_cons_zero, List.set_cons_succ]
  refine wpAnyH_take (i := 19) (oi := ?oi19x20) (v := ?v19x20) ?hi19x20 (by kernel_rfl) (by kernel_rfl) (by kernel_rfl) ?hq19x20 ?hy19x20 hHeld ?rest19x20
  case hi19x20 => ((try simp only [List.getElem?_toArray, List.getElem?_cons_succ, List.getElem?_cons_zero]); (try rfl))
  case hq19x20 => exact fun _ _ _ h => h
  case hy19x20 => exact Or.inl ⟨by rfl, by intro w hSw; clear hSw; go_simp; try with_reducible rfl⟩
  try simp only [Act.put, List.setIfInBounds_toArray, List.set_cons_zero, List.set_cons_succ]
  refine wpAnyH_done (by kernel_rfl) ?_ _
  clear hHeld
  go_wp2_with fail
  go_ret
  exact ⟨rfl, (X1.out.call (Below.refl _ _).drew).below⟩
set_option maxRecDepth 100000 in
set_option maxHeartbeats 8000000 in
theorem alive27_any (w : World) (hT : Gt.Tab w) (hE : ES w) (hM : MX w) : Calls Tryz.prog 16 #[] w fun e w' => e = .returned (.bool true) ∧ Below w.heap.size w w' := by
  have C1 := Lib.hid (fun w' => given27_any w')
  have HT := Lib.hid (fun w' (h : Below w.heap.size w w') => hT.below h)
  have HE := Lib.hid (fun w' (h : Below w.heap.size w w') => hE.below h)
  have HM := Lib.hid (fun w' (h : Below w.heap.size w w') => hM.below h)
  have C2 := Lib.hid (fun w' x (h : Gt.Tab w') (g : ES w') (hl : SlA w' x [oG]) => vprint_any none 0 [] x 1 [oG] w' h g (Or.inl rfl) hl (fun _ h => by cases h) (by decide) (by decide) (fun i hi => by
    have : i = 0 := by simpa using hi
    subst this
    exact ob_G))
  have nG : (sG.toList == [110, 97, 109, 101, 124, 115, 116, 110, 124, 111, 98, 115, 84, 105, 109, 101, 124, 114, 97, 124, 100, 101, 99, 124, 115, 105, 103, 109, 97, 124, 109, 97, 103, 124, 98, 97, 110, 100, 10, 120, 124, 70, 53, 49, 124, 50, 48, 50, 54, 45, 49, 49, 45, 49, 54, 84, 48, 51, 58, 48, 48, 58, 48, 48, 46, 48, 48, 48, 48, 48, 48, 90, 124, 49, 53, 46, 48, 48, 48, 48, 48, 48, 48, 48, 48, 124, 45, 49, 46, 48, 48, 48, 48, 48, 48, 48, 48, 48, 124, 50, 48, 48, 48, 48, 48, 124, 124, 10]) = true := by rw [Lib.toList_data]; rfl
  have R1 := Lib.hid (fun w' (h : ES w') (g : MX w') => reads27_any sG oG w' h g (by decide) small_sG k_sG)
  have R2 := Lib.hid (fun w' (h : ES w') (g : MX w') => reads27_any sG2 oG w' h g (by decide) small_sG2 k_sG2)
  clear hT hE hM
  go_enter Tryz.func16, Tryz.ntmps16
  go_wp2_with fail
  refine (C1.out _).mono ?_
  rintro e w1 ⟨rfl, hb⟩
  have a1 := (Below.refl w1.heap.size w1).alloc (Nat.le_refl _) (.cells (obsC oG).toArray 33)
  have B1 := Lib.hid (below_then hb a1)
  have S1 := Lib.hid (show SlA (w1.alloc (.cells (obsC oG).toArray 33)) (some ⟨w1.heap.size, 0, none⟩) [oG] from Or.inr ⟨w1.heap.size, 0, rfl, by simp, fun i hi => by
    have : i = 0 := by simpa using hi
    subst this
    exact rangeAt_new w1 _ _⟩)
  clear hb a1
  go_wp2_with fail
  refine (C2.out _ _ (HT.out _ B1.out) (HE.out _ B1.out) S1.out).mono ?_
  rintro e w2 ⟨s, c, rfl, hP, hb⟩
  obtain ⟨rfl, rfl⟩ := hP.uniq k_printG
  have B2 := Lib.hid (below_then B1.out hb)
  clear hb hP B1 S1 C2 HT
  go_wp2_with fail
  refine (C1.out _).mono ?_
  rintro e w3 ⟨rfl, hb⟩
  have B3 := Lib.hid (below_then B2.out hb)
  clear hb B2
  go_wp2_with fail
  refine (R1.out _ (HE.out _ B3.out) (HM.out _ B3.out)).mono ?_
  rintro e w4 ⟨rfl, hb⟩
  have B4 := Lib.hid (below_then B3.out hb)
  clear hb B3 R1
  go_wp2_with fail
  refine (C1.out _).mono ?_
  rintro e w5 ⟨rfl, hb⟩
  have B5 := Lib.hid (below_then B4.out hb)
  clear hb B4 C1
  go_wp2_with fail
  refine (R2.out _ (HE.out _ B5.out) (HM.out _ B5.out)).mono ?_
  rintro e w6 ⟨rfl, hb⟩
  have B6 := Lib.hid (below_then B5.out hb)
  clear hb B5 R2 HE HM
  go_wp2_with fail
  go_ret
  exact ⟨rfl, B6.out⟩
end Vw
end Go.Proofs.YtaghilgfldaaiaaGreatDoor
/-
  The walks of comparisons: number, text of the reference; cmp.Compare, cmp.Or.
-/
namespace Go.Proofs.YtaghilgfldaaiaaGreatDoor
namespace Ow
open Go.RowKit Lw Go.Proofs.YtaghilgfldaaiaaGreatDoor.Ap Go.Proofs.YtaghilgfldaaiaaGreatDoor.Op Go.Proofs.YtaghilgfldaaiaaGreatDoor.Mp Go.Proofs.YtaghilgfldaaiaaGreatDoor.Mw Go.Proofs.YtaghilgfldaaiaaGreatDoor.At

theorem bl_eq : ∀ (x y : List UInt8), Go.Op.bytesLess x y = decide (x < y)
  | [], [] => by simp [Go.Op.bytesLess]
  | _ :: _, [] => by simp [Go.Op.bytesLess]
  | [], _ :: _ => by simp [Go.Op.bytesLess]
  | a :: x, b :: y => by
    rw [Go.Op.bytesLess, bl_eq x y]
    by_cases h : a < b
    · simp [h, List.cons_lt_cons_iff]
    · by_cases g : a = b
      · subst g; simp [List.cons_lt_cons_iff]
      · simp [h, g, List.cons_lt_cons_iff]
theorem bl_t {x y : ByteArray} (h : x.data.toList < y.data.toList) : Go.Op.bytesLess x.toList y.toList = true := by rw [bl_eq, Lib.toList_data, Lib.toList_data]; exact decide_eq_true h
theorem bl_f {x y : ByteArray} (h : ¬ x.data.toList < y.data.toList) : Go.Op.bytesLess x.toList y.toList = false := by rw [bl_eq, Lib.toList_data, Lib.toList_data]; exact decide_eq_false h
theorem be_t {x y : ByteArray} (h : ¬ x.data.toList < y.data.toList) (g : ¬ y.data.toList < x.data.toList) : (x.toList == y.toList) = true := by
  rw [Lib.toList_data, Lib.toList_data, List.le_antisymm (List.not_lt.1 g) (List.not_lt.1 h)]; simp
theorem be_f {x y : ByteArray} (g : y.data.toList < x.data.toList) : (x.toList == y.toList) = false := by
  rw [Lib.toList_data, Lib.toList_data]
  exact beq_eq_false_iff_ne.2 fun e => by rw [e] at g; exact List.lt_irrefl _ g
theorem cS_m {x y : ByteArray} (h : x.data.toList < y.data.toList) : cS x y = -1 := if_pos h
theorem cS_p {x y : ByteArray} (h : ¬ x.data.toList < y.data.toList) (g : y.data.toList < x.data.toList) : cS x y = 1 := by unfold cS; rw [if_neg h, if_pos g]
theorem cS_z {x y : ByteArray} (h : ¬ x.data.toList < y.data.toList) (g : ¬ y.data.toList < x.data.toList) : cS x y = 0 := by unfold cS; rw [if_neg h, if_neg g]
set_option maxRecDepth 100000 in
set_option maxHeartbeats 1000000 in
theorem text_any (x y : ByteArray) (w : World) : Calls Tryz.prog 63 #[.string x, .string y] w fun e w' => e = .returned (.int .i64 (cS x y)) ∧ w = w' := by
  by_cases h : x.data.toList < y.data.toList
  · rw [cS_m h]
    have f1 := bl_t h
    clear h
    go_enter Tryz.func63, Tryz.ntmps63
    go_wp2_with go_in
    go_ret
    exact ⟨rfl, rfl⟩
  · by_cases g : y.data.toList < x.data.toList
    · rw [cS_p h g]
      have f1 := bl_f h
      have f2 := be_f g
      clear h g
      go_enter Tryz.func63, Tryz.ntmps63
      go_wp2_with go_in
      go_ret
      exact ⟨rfl, rfl⟩
    · rw [cS_z h g]
      have f1 := bl_f h
      have f2 := be_t h g
      clear h g
      go_enter Tryz.func63, Tryz.ntmps63
      go_wp2_with go_in
      go_ret
      exact ⟨rfl, rfl⟩
end Ow
end Go.Proofs.YtaghilgfldaaiaaGreatDoor
/-
  The walks of compare of obs, and of Compare of the reference.
-/
namespace Go.Proofs.YtaghilgfldaaiaaGreatDoor
namespace Ow
open Go.RowKit Lw Go.Proofs.YtaghilgfldaaiaaGreatDoor.Ap Go.Proofs.YtaghilgfldaaiaaGreatDoor.Op Go.Proofs.YtaghilgfldaaiaaGreatDoor.Mp Go.Proofs.YtaghilgfldaaiaaGreatDoor.Mw Go.Proofs.YtaghilgfldaaiaaGreatDoor.At Go.Sort

/-- The two boxes of a comparison. -/
structure CX (W0 : World) (b : Nat) (x y : Ob) (w : World) : Prop where
  at_ : ∃ m os, w = grow (W0.drewN m) os
  lt : b + 1 < w.heap.size
  rx : w.rangeAt b 0 (obsC x)
  ry : w.rangeAt (b + 1) 0 (obsC y)
theorem CX.drew {W0 w : World} {b : Nat} {x y : Ob} (h : CX W0 b x y w) : CX W0 b x y w.drew := by
  obtain ⟨m, os, e⟩ := h.at_
  have bl : Below w.heap.size w w.drew := (Below.refl _ _).drew
  exact ⟨⟨m + 1, os, by rw [e]; rfl⟩, h.lt, rangeAt_below h.rx bl (by have := h.lt; omega), rangeAt_below h.ry bl h.lt⟩
theorem CX.alloc {W0 w : World} {b : Nat} {x y : Ob} (h : CX W0 b x y w) (o : Obj) : CX W0 b x y (w.alloc o) := by
  obtain ⟨m, os, e⟩ := h.at_
  have bl : Below w.heap.size w (w.alloc o) := (Below.refl _ _).alloc (Nat.le_refl _) o
  exact ⟨⟨m, os ++ #[o], by rw [alloc_eq_grow, e, grow_grow]⟩, Nat.lt_of_lt_of_le h.lt bl.size, rangeAt_below h.rx bl (by have := h.lt; omega), rangeAt_below h.ry bl h.lt⟩
theorem CX.new (W : World) (x y : Ob) (t : TypeId) : CX W W.heap.size x y ((W.alloc (.cells (obsC x).toArray t)).alloc (.cells (obsC y).toArray t)) := by
  have b1 := (Below.refl (W.alloc (.cells (obsC x).toArray t)).heap.size (W.alloc (.cells (obsC x).toArray t))).alloc (Nat.le_refl _) (.cells (obsC y).toArray t)
  have e : (W.alloc (.cells (obsC x).toArray t)).heap.size = W.heap.size + 1 := by simp
  refine ⟨⟨0, #[.cells (obsC x).toArray t, .cells (obsC y).toArray t], ?_⟩, by simp, rangeAt_below (rangeAt_new W (obsC x) t) b1 (by simp), ?_⟩
  · rw [alloc_eq_grow, alloc_eq_grow, grow_grow]; rfl
  · have := rangeAt_new (W.alloc (.cells (obsC x).toArray t)) (obsC y) t
    rwa [e] at this
end Ow
end Go.Proofs.YtaghilgfldaaiaaGreatDoor
/-
  slices.SortFunc at records of observations.
-/
namespace Go.Proofs.YtaghilgfldaaiaaGreatDoor
namespace Ow
open Go.RowKit Lw Go.Proofs.YtaghilgfldaaiaaGreatDoor.Ap Go.Proofs.YtaghilgfldaaiaaGreatDoor.Op Go.Proofs.YtaghilgfldaaiaaGreatDoor.Mp Go.Proofs.YtaghilgfldaaiaaGreatDoor.Mw Go.Proofs.YtaghilgfldaaiaaGreatDoor.At Go.Sort Go.Lib

instance : Inhabited Ob := ⟨zeroO⟩
end Ow
end Go.Proofs.YtaghilgfldaaiaaGreatDoor
/-
  Plain law of observations: texts of angles that are read have texts; no walk here.
-/
namespace Go.Proofs.YtaghilgfldaaiaaGreatDoor
namespace Op
open Go.RowKit Lw Go.Proofs.YtaghilgfldaaiaaGreatDoor.Ap Go.Proofs.YtaghilgfldaaiaaGreatDoor.Mp Go.Proofs.YtaghilgfldaaiaaGreatDoor.At Go.Proofs.YtaghilgfldaaiaaGreatDoor.Ow Go.Proofs.YtaghilgfldaaiaaGreatDoor.Mw

/-- A clock, taken apart. -/
structure Clk (s : ByteArray) (h m c : Nat) (T : List UInt8) : Prop where
  hh : h < 100
  mm : m ≤ 59
  cc : c ≤ 59
  d : Ap.allD T
  l : T.length ≤ 6
  eq : s.data.toList = decL h 2 ++ ([32] ++ (decL m 2 ++ ([32] ++ (decL c 2 ++ (if T = [] then [] else 46 :: T)))))
  sc : Gp.secs s = h * 3600 + m * 60 + c
  tw : Gp.two s 0 = h
  rest : Gp.restOf s = ⟨T.toArray⟩
theorem pre_ne46 (h m c : Nat) : ∀ z ∈ decL h 2 ++ ([32] ++ (decL m 2 ++ ([32] ++ decL c 2))), z ≠ 46 := mem3 (allD_ne46 (decL_num _ _).2) (by decide) (allD_ne46 (decL_num _ _).2) (by decide) (allD_ne46 (decL_num _ _).2)
theorem decs_none {l : List UInt8} (h : ∀ c ∈ l, c ≠ 46) : decs ⟨l.toArray⟩ = 0 := by
  unfold decs ptS
  rw [toL_mk, size_mk]
  have : ptL l = l.length := ptL_uniq (Nat.le_refl _) (fun j g hj => fun e => h _ (List.getElem_mem g) (UInt8.toNat_inj.1 (Int.ofNat.inj e))) (fun g => absurd g (Nat.lt_irrefl _))
  rw [this]; omega
theorem Clk.decs {s : ByteArray} {h m c : Nat} {T : List UInt8} (k : Clk s h m c T) : decs s = T.length := by
  rw [← mk_toL s, k.eq]
  by_cases hT : T = []
  · rw [if_pos hT, hT, List.append_nil, decs_none (pre_ne46 h m c)]; rfl
  · rw [if_neg hT]
    have : decL h 2 ++ ([32] ++ (decL m 2 ++ ([32] ++ (decL c 2 ++ 46 :: T)))) = (decL h 2 ++ ([32] ++ (decL m 2 ++ ([32] ++ decL c 2)))) ++ 46 :: T := by simp
    rw [this, decs_app (pre_ne46 h m c)]
end Op
end Go.Proofs.YtaghilgfldaaiaaGreatDoor
/-
  Plain law of observations: the plan of the law ObsBack: what is read from a line has a line; no walk here.
-/
namespace Go.Proofs.YtaghilgfldaaiaaGreatDoor
namespace Op
open Go.RowKit Lw Go.Proofs.YtaghilgfldaaiaaGreatDoor.Ap Go.Proofs.YtaghilgfldaaiaaGreatDoor.Mp Go.Proofs.YtaghilgfldaaiaaGreatDoor.At Go.Proofs.YtaghilgfldaaiaaGreatDoor.Ow Go.Proofs.YtaghilgfldaaiaaGreatDoor.Mw

/-! ### Columns as lists -/
theorem bt_ext (s : ByteArray) (i j k : Nat) (hk : i + k < j) (hj : j ≤ s.size) : bt (s.extract i j) k = bt s (i + k) := by
  rw [bt_of _ k (by rw [ByteArray.size_extract]; omega), bt_of s (i + k) (by omega)]
  congr 2
  simp [ByteArray.getElem_eq_getElem_data]
theorem Clk.size {s : ByteArray} {h m c : Nat} {T : List UInt8} (k : Clk s h m c T) : s.size = 8 + (if T = [] then 0 else T.length + 1) := by
  rw [size_L, k.eq]
  by_cases hT : T = []
  · rw [if_pos hT, if_pos hT]; simp [decL_len]
  · rw [if_neg hT, if_neg hT]; simp [decL_len]; omega
end Op
end Go.Proofs.YtaghilgfldaaiaaGreatDoor
/-
  Plain law of observations: a line that is read has no line feed; no walk here.
-/
namespace Go.Proofs.YtaghilgfldaaiaaGreatDoor
namespace Op
open Go.RowKit Lw Go.Proofs.YtaghilgfldaaiaaGreatDoor.Ap Go.Proofs.YtaghilgfldaaiaaGreatDoor.Mp Go.Proofs.YtaghilgfldaaiaaGreatDoor.At Go.Proofs.YtaghilgfldaaiaaGreatDoor.Ow Go.Proofs.YtaghilgfldaaiaaGreatDoor.Mw

/-- No line feed. -/
def noL (l : List UInt8) : Prop := ∀ c ∈ l, c ≠ 10
instance (l : List UInt8) : Decidable (noL l) := by unfold noL; infer_instance
end Op
end Go.Proofs.YtaghilgfldaaiaaGreatDoor
/-
  Plain law of observations: inserting one into a sorted list; the row of memory behind an exchange.
-/
namespace Go.Proofs.YtaghilgfldaaiaaGreatDoor
namespace Ow
open Go.RowKit Lw Go.Proofs.YtaghilgfldaaiaaGreatDoor.Ap Go.Proofs.YtaghilgfldaaiaaGreatDoor.Op Go.Proofs.YtaghilgfldaaiaaGreatDoor.Mp Go.Proofs.YtaghilgfldaaiaaGreatDoor.Mw Go.Proofs.YtaghilgfldaaiaaGreatDoor.At

theorem own_row {w : World} {B g cap : Nat} {y : List Ob} (h : OwnO w B (.slice (some ⟨g, 0, none⟩) y.length cap) y) {i : Nat} (hi : i < y.length) : w.rangeAt g (i * 8) (obsC y[i]) ∧ w.there g (i * 8) 8 := by
  have ho := h
  obtain ⟨⟨h1, h2⟩, hB⟩ := h
  rcases owns_form ho.1 with ⟨rfl, _⟩ | ⟨g', cap', hv, hb, lt, hr⟩
  · simp at hi
  · have eg : g = g' := by
      have := congrArg (fun v => match v with | Value.slice (some a) _ _ => a.block | _ => 0) hv
      exact this
    subst eg
    have r := hr i hi
    rw [Nat.zero_add] at r
    refine ⟨r, fun t ht => ⟨r.isSome t ht, ?_⟩⟩
    rcases h2 with ⟨hv, _⟩ | ⟨g', cap', cur, hv, hb, hh, _⟩
    · cases hv
    · have eg : g = g' := by
        have := congrArg (fun v => match v with | Value.slice (some a) _ _ => a.block | _ => 0) hv
        exact this
      subst eg
      exact Lib.frozen_of_heap hh _
end Ow
end Go.Proofs.YtaghilgfldaaiaaGreatDoor
/-
  The walk of Sort of the reference.
-/
namespace Go.Proofs.YtaghilgfldaaiaaGreatDoor
namespace Ow
open Go.RowKit Lw Go.Proofs.YtaghilgfldaaiaaGreatDoor.Ap Go.Proofs.YtaghilgfldaaiaaGreatDoor.Op Go.Proofs.YtaghilgfldaaiaaGreatDoor.Mp Go.Proofs.YtaghilgfldaaiaaGreatDoor.Mw Go.Proofs.YtaghilgfldaaiaaGreatDoor.At

/-- The row that is being sorted. -/
structure SW (W0 : World) (B g cap : Nat) (y : List Ob) (w : World) : Prop where
  own : OwnO w B (.slice (some ⟨g, 0, none⟩) y.length cap) y
  below : Below B W0 w
  lt : W0.heap.size ≤ w.heap.size
theorem SW.call {W0 w w' : World} {B g cap : Nat} {y : List Ob} (h : SW W0 B g cap y w) (hb : Below w.heap.size w w') : SW W0 B g cap y w' := ⟨h.own.below hb, h.below.trans (hb.mono h.own.2), Nat.le_trans h.lt hb.size⟩
theorem SW.drew {W0 w : World} {B g cap : Nat} {y : List Ob} (h : SW W0 B g cap y w) : SW W0 B g cap y w.drew := h.call (Below.refl _ _).drew
theorem SW.row {W0 w : World} {B g cap : Nat} {y : List Ob} (h : SW W0 B g cap y w) {i : Nat} (hi : i < y.length) {o : Ob} (e : y[i] = o) : w.rangeAt g (i * 8) (obsC o) := by rw [← e]; exact (own_row h.own hi).1
theorem OBs.take {l : List Ob} (h : OBs l) (k : Nat) : OBs (l.take k) := fun i hi => by
  have : i < l.length := by simp at hi; omega
  rw [List.getElem_take]; exact h i this
end Ow
end Go.Proofs.YtaghilgfldaaiaaGreatDoor
/-
  The walk of Merge of the reference.
-/
namespace Go.Proofs.YtaghilgfldaaiaaGreatDoor
namespace Vw
open Go.RowKit Lw Go.Proofs.YtaghilgfldaaiaaGreatDoor.Ap Go.Proofs.YtaghilgfldaaiaaGreatDoor.Vp Go.Proofs.YtaghilgfldaaiaaGreatDoor.Op Go.Proofs.YtaghilgfldaaiaaGreatDoor.Ow Go.Proofs.YtaghilgfldaaiaaGreatDoor.Mp Go.Proofs.YtaghilgfldaaiaaGreatDoor.Mw Go.Proofs.YtaghilgfldaaiaaGreatDoor.At Go.Maps

/-- What stays while two are held against each other. -/
structure SR (w0 : World) (vk : Value) (K : List Ob) (vd : Value) (D : List Nat) (b off i k : Nat) (p q : Ob) (w : World) : Prop where
  rp : w.rangeAt b (off + i * 8) (obsC p)
  rq : w.rangeAt b (off + k * 8) (obsC q)
  lt : b < w.heap.size
  two : W2 w0.heap.size vk K vd D w
  below : Below w0.heap.size w0 w
theorem SR.call {w0 : World} {vk : Value} {K : List Ob} {vd : Value} {D : List Nat} {b off i k : Nat} {p q : Ob} {w w' : World} (h : SR w0 vk K vd D b off i k p q w) (hb : Below w.heap.size w w') : SR w0 vk K vd D b off i k p q w' :=
  ⟨rangeAt_below h.rp hb h.lt, rangeAt_below h.rq hb h.lt, Nat.lt_of_lt_of_le h.lt hb.size, h.two.below hb, below_then h.below hb⟩
end Vw
end Go.Proofs.YtaghilgfldaaiaaGreatDoor
/-
  The walk of read of the reference, at fields that are read right.
-/
namespace Go.Proofs.YtaghilgfldaaiaaGreatDoor
namespace Vw
open Go.RowKit Lw Go.Proofs.YtaghilgfldaaiaaGreatDoor.Ap Go.Proofs.YtaghilgfldaaiaaGreatDoor.Vp Go.Proofs.YtaghilgfldaaiaaGreatDoor.Op Go.Proofs.YtaghilgfldaaiaaGreatDoor.Ow Go.Proofs.YtaghilgfldaaiaaGreatDoor.Mp Go.Proofs.YtaghilgfldaaiaaGreatDoor.Mw Go.Proofs.YtaghilgfldaaiaaGreatDoor.At

/-- What read keeps: the observation's box, and the result's. -/
structure QX (w0 : World) (o q : Ob) (w : World) : Prop where
  bx : Rw w w0.heap.size (obsC o)
  rs : Rw w (w0.heap.size + 1) (obsC q)
  below : Below w0.heap.size w0 w
theorem QX.call {w0 w w' : World} {o q : Ob} (h : QX w0 o q w) (hb : Below w.heap.size w w') : QX w0 o q w' := ⟨h.bx.call hb, h.rs.call hb, below_then h.below hb⟩
theorem QX.new (w : World) (o : Ob) : QX w o zeroO ((w.alloc (.cells (obsC o).toArray 33)).alloc (.cells (obsC zeroO).toArray 33)) := by
  have a1 := (Below.refl w.heap.size w).alloc (Nat.le_refl _) (.cells (obsC o).toArray 33)
  have r1 := Rw.new w (obsC o) 33
  have e1 : (w.alloc (.cells (obsC o).toArray 33)).heap.size = w.heap.size + 1 := by simp
  generalize w.alloc (.cells (obsC o).toArray 33) = v1 at *
  have a2 := (Below.refl v1.heap.size v1).alloc (Nat.le_refl _) (.cells (obsC zeroO).toArray 33)
  have r2 := Rw.new v1 (obsC zeroO) 33
  rw [e1] at r2
  exact ⟨r1.call a2, r2, below_then a1 a2⟩
theorem QX.put {w0 w : World} {o o' q : Ob} (h : QX w0 o q w) (j : Nat) (v : Value) (hj : j < 8) (e : (obsC o).set j v = obsC o') : QX w0 o' q (w.setCell ⟨w0.heap.size, j, none⟩ v) := by
  have b := h.bx.set j v hj
  rw [e] at b
  exact ⟨b, h.rs.apart (Nat.succ_ne_self _) j v, h.below.setCell (p := ⟨w0.heap.size, j, none⟩) (Nat.le_refl _) v⟩
theorem QX.res {w0 w : World} {o q : Ob} (h : QX w0 o q w) (q' : Ob) : QX w0 o q' (w.setCells (w0.heap.size + 1) 0 (obsC q')) :=
  ⟨h.bx.sets_apart (obsC q') (Nat.ne_of_lt (Nat.lt_succ_self _)) 0, h.rs.sets (obsC q') rfl, below_setCells (w0.heap.size + 1) (Nat.le_succ _) (obsC q') 0 w h.below⟩
end Vw
end Go.Proofs.YtaghilgfldaaiaaGreatDoor
/-
  The walk of Round of the reference.
-/
namespace Go.Proofs.YtaghilgfldaaiaaGreatDoor
namespace Vw
open Go.RowKit Lw Go.Proofs.YtaghilgfldaaiaaGreatDoor.Ap Go.Proofs.YtaghilgfldaaiaaGreatDoor.Vp Go.Proofs.YtaghilgfldaaiaaGreatDoor.Op Go.Proofs.YtaghilgfldaaiaaGreatDoor.Ow Go.Proofs.YtaghilgfldaaiaaGreatDoor.Mp Go.Proofs.YtaghilgfldaaiaaGreatDoor.Mw Go.Proofs.YtaghilgfldaaiaaGreatDoor.At

/-- What stays while the columns are read. -/
structure ZS (w0 : World) (R f : Nat) (F : List ByteArray) (w : World) : Prop where
  rs : Rw w (w0.heap.size + 1) (obsC zeroO)
  cl : Rw w f (strC F)
  n1 : w0.heap.size + 1 ≠ R
  n2 : f ≠ R
  n3 : w0.heap.size ≤ R
  below : Below w0.heap.size w0 w
/-- .. and the observation that is read. -/
structure ZX (w0 : World) (R f : Nat) (F : List ByteArray) (q : Ob) (w : World) : Prop where
  sx : ZS w0 R f F w
  bx : Rw w R (obsC q)
theorem ZX.call {w0 w w' : World} {R f : Nat} {F : List ByteArray} {q : Ob} (h : ZX w0 R f F q w) (hb : Below w.heap.size w w') : ZX w0 R f F q w' :=
  ⟨⟨h.sx.rs.call hb, h.sx.cl.call hb, h.sx.n1, h.sx.n2, h.sx.n3, below_then h.sx.below hb⟩, h.bx.call hb⟩
theorem ZX.put {w0 w : World} {R f : Nat} {F : List ByteArray} {q : Ob} (h : ZX w0 R f F q w) (q' : Ob) : ZX w0 R f F q' (w.setCells R 0 (obsC q')) :=
  ⟨⟨h.sx.rs.sets_apart (obsC q') h.sx.n1 0, h.sx.cl.sets_apart (obsC q') h.sx.n2 0, h.sx.n1, h.sx.n2, h.sx.n3, below_setCells R h.sx.n3 (obsC q') 0 w h.sx.below⟩, h.bx.sets (obsC q') rfl⟩
end Vw
end Go.Proofs.YtaghilgfldaaiaaGreatDoor
/-
  The walk of Same of the reference at equal lists; Great at any slice; a copy of a slice.
-/
namespace Go.Proofs.YtaghilgfldaaiaaGreatDoor
namespace Ow
open Go.RowKit Lw Go.Proofs.YtaghilgfldaaiaaGreatDoor.Ap Go.Proofs.YtaghilgfldaaiaaGreatDoor.Op Go.Proofs.YtaghilgfldaaiaaGreatDoor.Mp Go.Proofs.YtaghilgfldaaiaaGreatDoor.Mw Go.Proofs.YtaghilgfldaaiaaGreatDoor.At

/-- Two rows that hold one list. -/
structure S2 (w0 : World) (a oa b ob : Nat) (l : List Ob) (w : World) : Prop where
  r1 : ObsAt w a oa l
  r2 : ObsAt w b ob l
  at_ : ∃ m, w = w0.drewN m
end Ow
end Go.Proofs.YtaghilgfldaaiaaGreatDoor
/-
  The walk of the law PsvRound.
-/
namespace Go.Proofs.YtaghilgfldaaiaaGreatDoor
namespace Vw
open Go.RowKit Lw Go.Proofs.YtaghilgfldaaiaaGreatDoor.Ap Go.Proofs.YtaghilgfldaaiaaGreatDoor.Vp Go.Proofs.YtaghilgfldaaiaaGreatDoor.Op Go.Proofs.YtaghilgfldaaiaaGreatDoor.Ow Go.Proofs.YtaghilgfldaaiaaGreatDoor.Mp Go.Proofs.YtaghilgfldaaiaaGreatDoor.Mw Go.Proofs.YtaghilgfldaaiaaGreatDoor.At

theorem round_two {o : Ob} (ok : okO o) : okO (roundP o) ∧ roundP (roundP o) = roundP o ∧ ((o.ra - (roundP o).ra + 1296000000000) % 1296000000000 ≤ 2 ∨ 1295999999998 ≤ (o.ra - (roundP o).ra + 1296000000000) % 1296000000000) ∧ o.dec - (roundP o).dec ≤ 2 ∧ -2 ≤ o.dec - (roundP o).dec ∧ 0 ≤ o.ra - (roundP o).ra + 1296000000000 ∧ o.ra - (roundP o).ra + 1296000000000 < 2592000000000 := by
  have ok2 := round_ok ok
  obtain ⟨ot, on, os, ow, or0, or1, od0, od1, og0, og1, om⟩ := ok
  have d1 := dg_near o.dec
  have a1 := dg_near o.ra
  have a2 := dg_turn or0 (by omega : o.ra ≤ 1296000000000)
  have a3 : dgR (dgR o.ra % turnI) % turnI = dgR o.ra % turnI := by
    by_cases h : dgR o.ra = 1296000000000
    · rw [h]; decide +kernel
    · have e : dgR o.ra % turnI = dgR o.ra := Int.emod_eq_of_lt a2.1 (by unfold turnI; omega)
      rw [e, dg_again, e]
  have e1 : (roundP o).ra = dgR o.ra % 1296000000000 := rfl
  have e2 : (roundP o).dec = dgR o.dec := rfl
  refine ⟨ok2, ?_, ?_, by rw [e2]; omega, by rw [e2]; omega, by rw [e1]; omega, by rw [e1]; omega⟩
  · show ({ o with ra := dgR (dgR o.ra % turnI) % turnI, dec := dgR (dgR o.dec) } : Ob) = { o with ra := dgR o.ra % turnI, dec := dgR o.dec }
    rw [a3, dg_again]
  · rw [e1]; omega
set_option maxRecDepth 100000 in
set_option maxHeartbeats 40000000 in
theorem vrl_bad (o : Ob) (w : World) (hT : Gt.Tab w) (hE : ES w) (hM : MX w) (hb : OB o) (no : longP o ∨ ¬ okO o) : Calls Tryz.prog 4 #[obsV o] w fun e w' => e = .returned (.bool true) ∧ Below w.heap.size w w' := by
  have X0 := Lib.hid (OX.new w o)
  have HT := Lib.hid (hT.below X0.out.below)
  have HE := Lib.hid (hE.below X0.out.below)
  have HM := Lib.hid (hM.below X0.out.below)
  have AL := Lib.hid (fun w' (h : Gt.Tab w') (g : ES w') (k : MX w') => alive27_any w' h g k)
  have GR := Lib.hid (fun w' : World => great_one (w := w') hb)
  have RC := Lib.hid (fun w' => rcheck_any o w' hb.t0 hb.t1 hb.b0 hb.b1 hb.n1 hb.n2)
  clear hT hE hM hb
  obtain ⟨nm, st, tt, ra, dec, sg, mg, bd⟩ := o
  go_enter Tryz.func4, Tryz.ntmps4
  go_wp2_with fail
  refine (AL.out _ HT.out HE.out HM.out).mono ?_
  rintro e w1 ⟨rfl, hb⟩
  have X1 := Lib.hid (X0.out.call hb)
  clear hb AL HT HE HM X0
  go_wp2_with (refine wpList_load_mid rfl _ (.tmp 1) rfl w.heap.size 0 rfl (obsC ⟨nm, st, tt, ra, dec, sg, mg, bd⟩) _ X1.out.row Tryz.underlying33 rfl info8 ?_)
  refine (GR.out _).mono ?_
  rintro e w2 ⟨rfl, rfl⟩
  have X2 := Lib.hid (X1.out.call ((Below.refl w1.heap.size w1).alloc (Nat.le_refl _) (.cells (obsC ⟨nm, st, tt, ra, dec, sg, mg, bd⟩).toArray 33)))
  by_cases hl : longP ⟨nm, st, tt, ra, dec, sg, mg, bd⟩
  · rw [decide_eq_true hl]
    clear no hl GR RC X1
    go_wp2_with fail
    go_ret
    exact ⟨rfl, X2.out.below⟩
  · rw [decide_eq_false hl]
    rw [show checkC ⟨nm, st, tt, ra, dec, sg, mg, bd⟩ = 8 from if_neg (no.resolve_left hl)] at RC
    clear no hl GR
    have q0 := X1.out.row 0 _ rfl
    have q1 := X1.out.row 1 _ rfl
    have q2 := X1.out.row 2 _ rfl
    have q3 := X1.out.row 3 _ rfl
    have q4 := X1.out.row 4 _ rfl
    have q5 := X1.out.row 5 _ rfl
    have q6 := X1.out.row 6 _ rfl
    have q7 := X1.out.row 7 _ rfl
    simp only [Nat.zero_add] at q0 q1 q2 q3 q4 q5 q6 q7
    have lt1 := X1.out.lt
    go_wp2_with fail
    refine (RC.out _).mono ?_
    rintro e w3 ⟨rfl, hb⟩
    have X3 := Lib.hid (X2.out.call hb)
    clear hb X2 X1 q0 q1 q2 q3 q4 q5 q6 q7 lt1
    go_wp2_with fail
    go_ret
    exact ⟨rfl, X3.out.below⟩
set_option maxRecDepth 100000 in
set_option maxHeartbeats 40000000 in
theorem vrl_main (o : Ob) (w : World) (hT : Gt.Tab w) (hE : ES w) (hM : MX w) (hb : OB o) (ok : okO o) (nl : ¬ longP o) : Calls Tryz.prog 4 #[obsV o] w fun e w' => e = .returned (.bool true) ∧ Below w.heap.size w w' := by
  have X0 := Lib.hid (OX.new w o)
  have HT := Lib.hid (hT.below X0.out.below)
  have HE := Lib.hid (hE.below X0.out.below)
  have HM := Lib.hid (hM.below X0.out.below)
  have AL := Lib.hid (fun w' (h : Gt.Tab w') (g : ES w') (k : MX w') => alive27_any w' h g k)
  have GR := Lib.hid (fun w' : World => great_one (w := w') hb)
  have RC := Lib.hid (fun w' => rcheck_any o w' hb.t0 hb.t1 hb.b0 hb.b1 hb.n1 hb.n2)
  have HTw := Lib.hid hT
  have HEw := Lib.hid hE
  have HMw := Lib.hid hM
  rw [show checkC o = 0 from if_pos ok] at RC
  rw [decide_eq_false nl] at GR
  obtain ⟨ok2, e2, k7, k3, k4, k5, k6⟩ := round_two ok
  have ob2 := ok_ob ok2
  have V1 := Lib.hid (fun w' (h : Gt.Tab w') (g : ES w') (k : MX w') => vround_any o w' h g k hb)
  have V2 := Lib.hid (fun w' (h : Gt.Tab w') (g : ES w') (k : MX w') => vround_any (roundP o) w' h g k ob2)
  have Q1 := Lib.hid (show VRoundIs o (roundP o) 0 from Or.inl ⟨ok, rfl, rfl⟩)
  have Q2 := Lib.hid (show VRoundIs (roundP o) (roundP o) 0 from Or.inl ⟨ok2, e2.symm, rfl⟩)
  have RC2 := Lib.hid (fun w' => rcheck_any (roundP o) w' ob2.t0 ob2.t1 ob2.b0 ob2.b1 ob2.n1 ob2.n2)
  rw [show checkC (roundP o) = 0 from if_pos ok2] at RC2
  obtain ⟨q, hq⟩ : ∃ q, roundP o = q := ⟨_, rfl⟩
  have n1 : q.name = o.name := by rw [← hq]; rfl
  have n2 : q.site = o.site := by rw [← hq]; rfl
  have n3 : q.t = o.t := by rw [← hq]; rfl
  have n4 : q.sg = o.sg := by rw [← hq]; rfl
  have n5 : q.mag = o.mag := by rw [← hq]; rfl
  have n6 : q.band = o.band := by rw [← hq]; rfl
  rw [hq] at V2 Q1 Q2 RC2 k7 k3 k4 k5 k6
  clear hT hE hM hb ok nl ok2 e2 ob2 hq
  obtain ⟨nm, st, tt, ra, dec, sg, mg, bd⟩ := o
  obtain ⟨rn, rs, rt, rr, rd, rg, rm, rb⟩ := q
  obtain rfl : rn = nm := n1
  obtain rfl : rs = st := n2
  obtain rfl : rt = tt := n3
  obtain rfl : rg = sg := n4
  obtain rfl : rm = mg := n5
  obtain rfl : rb = bd := n6
  simp only at k7 k3 k4 k5 k6
  have EQ1 : ∀ w', (Go.Op.equalIn 10000 33 (.agg #[.string rn, .string rs, .int .i64 rt, .int .i64 rr, .int .i64 rd, .int .i64 rg, .int .i64 rm, .int .u8 rb]) (.agg #[.string rn, .string rs, .int .i64 rt, .int .i64 rr, .int .i64 rd, .int .i64 rg, .int .i64 rm, .int .u8 rb])).run Tryz.prog w' = .ok true w' := fun w' => by
    have := obs_eql ⟨rn, rs, rt, rr, rd, rg, rm, rb⟩ ⟨rn, rs, rt, rr, rd, rg, rm, rb⟩ w'
    rw [decide_eq_true rfl] at this
    exact this
  have EQ2 : ∀ w', (Go.Op.equalIn 10000 33 (.agg #[.string rn, .string rs, .int .i64 rt, .int .i64 ra, .int .i64 dec, .int .i64 rg, .int .i64 rm, .int .u8 rb]) (.agg #[.string rn, .string rs, .int .i64 rt, .int .i64 ra, .int .i64 dec, .int .i64 rg, .int .i64 rm, .int .u8 rb])).run Tryz.prog w' = .ok true w' := fun w' => by
    have := obs_eql ⟨rn, rs, rt, ra, dec, rg, rm, rb⟩ ⟨rn, rs, rt, ra, dec, rg, rm, rb⟩ w'
    rw [decide_eq_true rfl] at this
    exact this
  go_enter Tryz.func4, Tryz.ntmps4
  go_wp2_with fail
  refine (AL.out _ HT.out HE.out HM.out).mono ?_
  rintro e w1 ⟨rfl, hb⟩
  have X1 := Lib.hid (X0.out.call hb)
  clear hb AL X0 HT HE HM
  go_wp2_with (refine wpList_load_mid rfl _ (.tmp 1) rfl w.heap.size 0 rfl (obsC ⟨rn, rs, rt, ra, dec, rg, rm, rb⟩) _ X1.out.row Tryz.underlying33 rfl info8 ?_)
  refine (GR.out _).mono ?_
  rintro e w2 ⟨rfl, rfl⟩
  have X2 := Lib.hid (X1.out.call ((Below.refl w1.heap.size w1).alloc (Nat.le_refl _) (.cells (obsC ⟨rn, rs, rt, ra, dec, rg, rm, rb⟩).toArray 33)))
  have q0 := X1.out.row 0 _ rfl
  have q1 := X1.out.row 1 _ rfl
  have q2 := X1.out.row 2 _ rfl
  have q3 := X1.out.row 3 _ rfl
  have q4 := X1.out.row 4 _ rfl
  have q5 := X1.out.row 5 _ rfl
  have q6 := X1.out.row 6 _ rfl
  have q7 := X1.out.row 7 _ rfl
  simp only [Nat.zero_add] at q0 q1 q2 q3 q4 q5 q6 q7
  have lt1 := X1.out.lt
  clear GR
  go_wp2_with fail
  refine (RC.out _).mono ?_
  rintro e w3 ⟨rfl, hb⟩
  have X3 := Lib.hid (X2.out.call hb)
  clear hb X2 X1 q0 q1 q2 q3 q4 q5 q6 q7 lt1 RC
  go_wp2_with (refine wpList_load_mid rfl _ (.tmp 1) rfl w.heap.size 0 rfl (obsC ⟨rn, rs, rt, ra, dec, rg, rm, rb⟩) _ X3.out.row Tryz.underlying33 rfl info8 ?_)
  refine (V1.out _ (HTw.out.below X3.out.below) (HEw.out.below X3.out.below) (HMw.out.below X3.out.below)).mono ?_
  rintro e w5 ⟨q, c, rfl, hP, hb⟩
  obtain ⟨rfl, rfl⟩ := hP.uniq Q1.out
  have b5 : Below w5.heap.size w5 (w5.alloc (.cells (obsC ⟨rn, rs, rt, rr, rd, rg, rm, rb⟩).toArray 33)) := (Below.refl _ _).alloc (Nat.le_refl _) _
  have X5a := X3.out.call hb
  have X5 := Lib.hid (X5a.call b5)
  have B5 := Lib.hid (Box.new w5 ⟨rn, rs, rt, rr, rd, rg, rm, rb⟩)
  have AB := X5a.lt
  clear hb hP X3 V1 Q1 b5 X5a
  go_upto_region 5 with (refine wpList_store_new rfl _ (.tmp 4) (.tmp 27) rfl _ _ rfl rfl info8 rfl ?_ ?_; simp [Value.oneCell'])
  go_wp2_with (refine wpList_load_mid rfl _ (.tmp 4) rfl w5.heap.size 0 rfl (obsC ⟨rn, rs, rt, rr, rd, rg, rm, rb⟩) _ B5.out.row Tryz.underlying33 rfl info8 ?_)
  refine (V2.out _ (HTw.out.below X5.out.below) (HEw.out.below X5.out.below) (HMw.out.below X5.out.below)).mono ?_
  rintro e w7 ⟨q, c, rfl, hP, hb⟩
  obtain ⟨rfl, rfl⟩ := hP.uniq Q2.out
  have b7 : Below w7.heap.size w7 (w7.alloc (.cells (obsC ⟨rn, rs, rt, rr, rd, rg, rm, rb⟩).toArray 33)) := (Below.refl _ _).alloc (Nat.le_refl _) _
  have X7 := Lib.hid ((X5.out.call hb).call b7)
  have B7 := Lib.hid ((B5.out.call hb).call b7)
  have D7 := Lib.hid (Box.new w7 ⟨rn, rs, rt, rr, rd, rg, rm, rb⟩)
  clear hb hP X5 B5 V2 Q2 b7
  go_upto_region 6 with (refine wpList_store_new rfl _ (.tmp 6) (.tmp 32) rfl _ _ rfl rfl info8 rfl ?_ ?_; simp [Value.oneCell'])
  obtain ⟨w8, hw8⟩ : ∃ w8, w7.alloc (.cells (obsC ⟨rn, rs, rt, rr, rd, rg, rm, rb⟩).toArray 33) = w8 := ⟨_, rfl⟩
  rw [hw8] at X7 B7 D7
  try rw [show w7.alloc (.cells #[.string rn, .string rs, .int .i64 rt, .int .i64 rr, .int .i64 rd, .int .i64 rg, .int .i64 rm, .int .u8 rb] 33) = w8 from hw8]
  clear hw8
  have r0 := B7.out.row 0 _ rfl
  have r1 := B7.out.row 1 _ rfl
  have r2 := B7.out.row 2 _ rfl
  have r3 := B7.out.row 3 _ rfl
  have r4 := B7.out.row 4 _ rfl
  have r5 := B7.out.row 5 _ rfl
  have r6 := B7.out.row 6 _ rfl
  have r7 := B7.out.row 7 _ rfl
  simp only [Nat.zero_add] at r0 r1 r2 r3 r4 r5 r6 r7
  have u0 := D7.out.row 0 _ rfl
  have u1 := D7.out.row 1 _ rfl
  have u2 := D7.out.row 2 _ rfl
  have u3 := D7.out.row 3 _ rfl
  have u4 := D7.out.row 4 _ rfl
  have u5 := D7.out.row 5 _ rfl
  have u6 := D7.out.row 6 _ rfl
  have u7 := D7.out.row 7 _ rfl
  simp only [Nat.zero_add] at u0 u1 u2 u3 u4 u5 u6 u7
  have lt4 := B7.out.lt
  have lt6 := D7.out.lt
  go_wp2_with fail
  refine (RC2.out _).mono ?_
  rintro e w9 ⟨rfl, hb⟩
  have X9 := Lib.hid (X7.out.call hb)
  have B9 := Lib.hid (B7.out.call hb)
  clear hb X7 B7 D7 RC2 HTw HEw HMw r0 r1 r2 r3 r4 r5 r6 r7 u0 u1 u2 u3 u4 u5 u6 u7 lt4 lt6
  have r0 := B9.out.row 0 _ rfl
  have r1 := B9.out.row 1 _ rfl
  have r2 := B9.out.row 2 _ rfl
  have r3 := B9.out.row 3 _ rfl
  have r4 := B9.out.row 4 _ rfl
  have r5 := B9.out.row 5 _ rfl
  have r6 := B9.out.row 6 _ rfl
  have r7 := B9.out.row 7 _ rfl
  simp only [Nat.zero_add] at r0 r1 r2 r3 r4 r5 r6 r7
  have q0 := X9.out.row 0 _ rfl
  have q1 := X9.out.row 1 _ rfl
  have q2 := X9.out.row 2 _ rfl
  have q3 := X9.out.row 3 _ rfl
  have q4 := X9.out.row 4 _ rfl
  have q5 := X9.out.row 5 _ rfl
  have q6 := X9.out.row 6 _ rfl
  have q7 := X9.out.row 7 _ rfl
  simp only [Nat.zero_add] at q0 q1 q2 q3 q4 q5 q6 q7

  have f3 := (B9.out.th 3 (by omega)).2
  have f4 := (B9.out.th 4 (by omega)).2
  simp only [Nat.zero_add] at f3 f4
  obtain ⟨D, hD⟩ : ∃ D, dec - rd = D := ⟨_, rfl⟩
  obtain ⟨A1, hA1⟩ : ∃ A1, ra - rr = A1 := ⟨_, rfl⟩
  rw [hA1] at k7 k5 k6
  rw [hD] at k3 k4
  obtain ⟨A2, hA2⟩ : ∃ A2, A1 + 1296000000000 = A2 := ⟨_, rfl⟩
  rw [hA2] at k7 k5 k6
  obtain ⟨A3, hA3⟩ : ∃ A3, A2 % 1296000000000 = A3 := ⟨_, rfl⟩
  rw [hA3] at k7
  obtain ⟨M, hM⟩ : ∃ M, max D (-D) = M := ⟨_, rfl⟩
  have k8 : M ≤ 2 := by omega
  have kt : A2.tmod 1296000000000 = A3 := by rw [Int.tmod_eq_emod_of_nonneg k5]; exact hA3
  have ka : -1296000000000 ≤ A1 ∧ A1 ≤ 1296000000000 := by omega
  obtain ⟨ka0, ka1⟩ := ka
  clear hA3
  go_upto_region 8 with fail
  go_quiet (fail)
  go_upto_region 9 with fail
  clear r0 r1 r2 r5 r6 r7 q0 q1 q2 q5 q6 q7
  have W9 := Lib.hid (And.intro X9.out B9.out)
  clear X9 B9
  go_region
  clear r3 r4 q3 q4 f3 f4
  have ne : w.heap.size ≠ w5.heap.size := Nat.ne_of_lt AB
  have le : w.heap.size ≤ w5.heap.size := Nat.le_of_lt AB
  have BF := ((W9.out.2.draws (nq + 1)).set 3 (.int .i64 ra) ⟨rn, rs, rt, ra, rd, rg, rm, rb⟩ (by omega) rfl).set 4 (.int .i64 dec) ⟨rn, rs, rt, ra, dec, rg, rm, rb⟩ (by omega) rfl
  have XF := ((W9.out.1.draws (nq + 1)).apart ne le 3 (.int .i64 ra)).apart ne le 4 (.int .i64 dec)
  clear W9
  generalize ((w9.drewN (nq + 1)).setCell ⟨w5.heap.size, 3, none⟩ (.int .i64 ra)).setCell ⟨w5.heap.size, 4, none⟩ (.int .i64 dec) = wF at *
  have r0 := BF.row 0 _ rfl
  have r1 := BF.row 1 _ rfl
  have r2 := BF.row 2 _ rfl
  have r3 := BF.row 3 _ rfl
  have r4 := BF.row 4 _ rfl
  have r5 := BF.row 5 _ rfl
  have r6 := BF.row 6 _ rfl
  have r7 := BF.row 7 _ rfl
  simp only [Nat.zero_add] at r0 r1 r2 r3 r4 r5 r6 r7
  have q0 := XF.row 0 _ rfl
  have q1 := XF.row 1 _ rfl
  have q2 := XF.row 2 _ rfl
  have q3 := XF.row 3 _ rfl
  have q4 := XF.row 4 _ rfl
  have q5 := XF.row 5 _ rfl
  have q6 := XF.row 6 _ rfl
  have q7 := XF.row 7 _ rfl
  simp only [Nat.zero_add] at q0 q1 q2 q3 q4 q5 q6 q7
  have lt1 := BF.lt
  have lt2 := XF.lt
  have EB := Lib.hid XF.below
  clear BF XF ne le
  rcases k7 with k7 | k7
  · have k7' : A3 ≤ 2 := k7
    go_wp2_with fail
    go_ret
    exact ⟨by first | rfl | simp, EB.out⟩
  · have k7' : ¬ A3 ≤ 2 := by omega
    have k7'' : 2 < A3 := by omega
    go_wp2_with fail
    go_ret
    exact ⟨by first | rfl | simp, EB.out⟩
theorem psvround_any (o : Ob) (w : World) (hT : Gt.Tab w) (hE : ES w) (hM : MX w) (hb : OB o) : Calls Tryz.prog 4 #[obsV o] w fun e w' => e = .returned (.bool true) ∧ Below w.heap.size w w' := by
  by_cases h : longP o ∨ ¬ okO o
  · exact vrl_bad o w hT hE hM hb h
  · by_cases ok : okO o
    · exact vrl_main o w hT hE hM hb ok (fun g => h (Or.inl g))
    · exact absurd (Or.inr ok) h
end Vw
end Go.Proofs.YtaghilgfldaaiaaGreatDoor
/-
  What the rows of the laws of tables say of memory: the bound of internal/bytealg.
-/
namespace Go.Proofs.YtaghilgfldaaiaaGreatDoor
namespace Vw
open Go.RowKit Lw Go.Proofs.YtaghilgfldaaiaaGreatDoor.Ow Go.ChangeShapes Go.WideShapes

theorem int_of_shape {P : Program} {w : World} {g : Nat} {t : TypeId} {k : IntKind} {zero : Array Value} (h : w.ShapedOpen P) (hg : g < P.globals.size)
    (h0 : ((begin P (fun _ _ => 0) default).world.heap[g]?).bind Obj.row? = some (zero, t)) (hz : zero.size = 1)
    (hb : P.buildable t = true) (hc : P.cellTypes P.depth t = some [t]) (hu : P.underlying t = some (.int k)) : ∃ n, w.cell? ⟨g, 0, none⟩ = some (.int k n) := by
  obtain ⟨cs, hh, hs, hr⟩ := h.1 g zero t hg h0
  obtain ⟨ts, hts, _, hall⟩ := hr hb
  rw [hc] at hts
  cases hts
  have h1 : 0 < cs.size := by omega
  obtain ⟨u, hu', hok⟩ := hall 0 cs[0] (by simp [h1])
  have : u = t := by simpa using hu'.symm
  subst this
  have hcell : w.cell? ⟨g, 0, none⟩ = some cs[0] := by simp [World.cell?, hh, h1]
  rw [hcell]
  unfold Cell.ok at hok
  rw [hu] at hok
  cases hv : cs[0] <;> rw [hv] at hok <;> first | (obtain ⟨rfl, _⟩ := hok; exact ⟨_, rfl⟩) | simp at hok
theorem max_of {W : World} (h : W.ShapedOpen Tryz.prog) : MX W := by
  obtain ⟨m, hm⟩ := int_of_shape (P := Tryz.prog) (t := 3) (zero := #[.int .i64 0]) (g := 1) h (of_decide_eq_true (by kernel_rfl)) (by kernel_rfl) rfl (by kernel_rfl) (by kernel_rfl) Tryz.underlying3
  refine ⟨?_, m, hm⟩
  rcases Nat.lt_or_ge 1 W.heap.size with h | h
  · exact h
  · exfalso
    unfold World.cell? at hm
    rw [Array.getElem?_eq_none h] at hm
    cases hm
end Vw
end Go.Proofs.YtaghilgfldaaiaaGreatDoor
