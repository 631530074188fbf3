/-
  Lemmas and walks, texts joined: VCell2, VFld, VFld2, VRnd.
-/
import Derived.Deep.RegionHeld3
import Derived.Test.YtaghilgfldaaiaaGreatDoorVb05
import Derived.Test.YtaghilgfldaaiaaGreatDoorVb03
import Derived.Test.YtaghilgfldaaiaaGreatDoorVb04
import Derived.Test.YtaghilgfldaaiaaGreatDoorVb02
set_option linter.unusedSimpArgs false
set_option linter.unusedVariables false
/-
  The walk of row of psv.
-/
namespace Go.Proofs.YtaghilgfldaaiaaGreatDoor
namespace Vw
open Go.RowKit Lw Go.Proofs.YtaghilgfldaaiaaGreatDoor.Ap Go.Proofs.YtaghilgfldaaiaaGreatDoor.Vp Go.Proofs.YtaghilgfldaaiaaGreatDoor.Op Go.Proofs.YtaghilgfldaaiaaGreatDoor.Ow Go.Proofs.YtaghilgfldaaiaaGreatDoor.At Go.Proofs.YtaghilgfldaaiaaGreatDoor.Mp

theorem foldR_app (a b : List (Nat × ByteArray)) (o : Ob) : foldR (a ++ b) o = (foldR a o).bind (foldR b) := by
  unfold foldR
  rw [List.foldl_append]
  cases List.foldl (fun x p => x.bind (readF p.1 p.2)) (some o) a with
  | none => exact foldl_none b
  | some o' => rfl
theorem foldR_bad {l : List (Nat × ByteArray)} {k : Nat} (hk : k < l.length) {o o' : Ob} (h : foldR (l.take k) o = some o') (n : readF (l[k]'hk).1 (l[k]'hk).2 o' = none) : foldR l o = none := by
  have e : l = l.take k ++ (l[k]'hk :: l.drop (k + 1)) := by rw [← List.drop_eq_getElem_cons hk, List.take_append_drop]
  rw [e, foldR_app, h]
  show foldR _ o' = none
  rw [foldR_cons, n]
  rfl
theorem foldR_next {l : List (Nat × ByteArray)} {k : Nat} (hk : k < l.length) {o o' o2 : Ob} (h : foldR (l.take k) o = some o') (n : readF (l[k]'hk).1 (l[k]'hk).2 o' = some o2) : foldR (l.take (k + 1)) o = some o2 := by
  have e : l.take (k + 1) = l.take k ++ [l[k]'hk] := by simp
  rw [e, foldR_snoc, h]
  exact n
/-- The bounds of an observation that is read. -/
theorem read_ob {k : Nat} {s : ByteArray} {o o' : Ob} (h : readF k s o = some o') (hb : OB o) (hs : s.size ≤ maxLen) : OB o' := by
  unfold readF at h
  split at h
  · cases h; exact ⟨hb.t0, hb.t1, hb.b0, hb.b1, hs, hb.n2⟩
  split at h
  · cases h; exact ⟨hb.t0, hb.t1, hb.b0, hb.b1, hb.n1, hs⟩
  split at h
  · cases ht : timeR s with
    | none => rw [ht] at h; cases h
    | some t =>
      rw [ht] at h
      cases h
      unfold timeR at ht
      split at ht
      · rename_i ok
        have bd := FromIs.bd (from_k (textV s) ok.2 rfl)
        cases ht
        exact ⟨(show -9223372036854775808 ≤ textV s by omega), (show textV s ≤ 9223372036854775807 by omega), hb.b0, hb.b1, hb.n1, hb.n2⟩
      · cases ht
  split at h
  · cases ht : degR s with
    | none => rw [ht] at h; cases h
    | some a =>
      rw [ht] at h
      have h2 : (if 0 ≤ a then some { o with ra := a % turnI } else none) = some o' := h
      split at h2
      · cases h2; exact ⟨hb.t0, hb.t1, hb.b0, hb.b1, hb.n1, hb.n2⟩
      · cases h2
  split at h
  · cases ht : degR s with
    | none => rw [ht] at h; cases h
    | some a => rw [ht] at h; cases h; exact ⟨hb.t0, hb.t1, hb.b0, hb.b1, hb.n1, hb.n2⟩
  split at h
  · split at h
    · cases h; exact hb
    · cases ht : sigR s.data.toList with
      | none => rw [ht] at h; cases h
      | some a => rw [ht] at h; cases h; exact ⟨hb.t0, hb.t1, hb.b0, hb.b1, hb.n1, hb.n2⟩
  split at h
  · split at h
    · cases h; exact hb
    · cases ht : magR s.data.toList with
      | none => rw [ht] at h; cases h
      | some a => rw [ht] at h; cases h; exact ⟨hb.t0, hb.t1, hb.b0, hb.b1, hb.n1, hb.n2⟩
  · split at h
    · cases h; exact hb
    · split at h
      · rename_i z
        cases h
        have := Gp.byte_bd (s[0]'(by omega))
        have e := bt_0 (s := s) (by omega)
        exact ⟨hb.t0, hb.t1, (show 0 ≤ bt s 0 by rw [e]; omega), (show bt s 0 ≤ 255 by rw [e]; omega), hb.n1, hb.n2⟩
      · cases h
theorem base_ob : OB baseO := ⟨by decide, by decide, by decide, by decide, by decide, by decide⟩
theorem fold_ob : ∀ {l : List (Nat × ByteArray)} {o o' : Ob}, foldR l o = some o' → OB o → (∀ p ∈ l, p.2.size ≤ maxLen) → OB o'
  | [], o, o', h, hb, _ => by cases h; exact hb
  | p :: l, o, o', h, hb, hs => by
    rw [foldR_cons] at h
    cases hr : readF p.1 p.2 o with
    | none => rw [hr] at h; cases h
    | some o2 =>
      rw [hr] at h
      exact fold_ob h (read_ob hr hb (hs p (List.mem_cons_self ..))) (fun q hq => hs q (List.mem_cons_of_mem _ hq))
/-- The cell that is read, and the boxes. -/
structure CS (w0 : World) (b j : Nat) (s : ByteArray) (o : Ob) (w : World) : Prop where
  rx : RX w0 o w
  cell : w.cell? ⟨b, j, none⟩ = some (.string s) ∧ b < w0.heap.size ∧ b < w.heap.size
theorem CS.call {w0 w w' : World} {b j : Nat} {s : ByteArray} {o : Ob} (h : CS w0 b j s o w) (hb : Below w.heap.size w w') : CS w0 b j s o w' := ⟨h.rx.call hb, (hb.cell (p := ⟨b, j, none⟩) h.cell.2.2).trans h.cell.1, h.cell.2.1, Nat.lt_of_lt_of_le h.cell.2.2 hb.size⟩
theorem CS.cell_only {w0 w w' : World} {b j : Nat} {s : ByteArray} {o : Ob} (h : CS w0 b j s o w) (ho : Only (w0.heap.size + 1) w w') : w'.cell? ⟨b, j, none⟩ = some (.string s) ∧ b < w0.heap.size ∧ b < w'.heap.size := by
  refine ⟨?_, h.cell.2.1, Nat.lt_of_lt_of_le h.cell.2.2 ho.size⟩
  have e := ho.block b h.cell.2.2 (by have := h.cell.2.1; omega)
  have c := h.cell.1
  unfold World.cell? at c ⊢
  rw [e]
  exact c
def RowPost (order : List Nat) (cells : List ByteArray) (w : World) (e : Ending) (w' : World) : Prop :=
  ((∃ o, rowR order (cells.map trimS) = some o ∧ e = .returned (obsV o) ∧ OB o) ∨ (rowR order (cells.map trimS) = none ∧ e = .panicked malP)) ∧ Below w.heap.size w w'
theorem trimB_le (l : List UInt8) (c : UInt8) : (Lib.trimB l c).length ≤ l.length := by
  have d : ∀ l : List UInt8, (l.dropWhile (· == c)).length ≤ l.length := fun l => (List.dropWhile_suffix _).length_le
  unfold Lib.trimB Lib.trimLeftB Lib.trimRightB
  have a := d (l.reverse.dropWhile (· == c)).reverse
  have b := d l.reverse
  rw [List.length_reverse] at a b
  omega
set_option maxRecDepth 100000 in
set_option maxHeartbeats 40000000 in
theorem row_any (xc : Option Addr) (cc : Nat) (cells : List ByteArray) (xo : Option Addr) (co : Nat) (order : List Nat) (w : World) (hM : MX w) (hE : ES w) (hc : StA w xc cells) (ho : InA w xo order)
    (h8 : ∀ k ∈ order, k < 8) (hl : ∀ s ∈ cells, s.size ≤ 100) (z1 : cells.length ≤ 1000000) (z2 : order.length ≤ 1000000) :
    Calls Tryz.prog 37 #[.slice xc cells.length cc, .slice xo order.length co] w (RowPost order cells w) := by
  have HC := Lib.hid (fun w' (h : Below w.heap.size w w') => hc.below h)
  have HO := Lib.hid (fun w' (h : Below w.heap.size w w') => ho.below h)
  have HE := Lib.hid (fun w' (h : Below w.heap.size w w') => hE.below h)
  have HM := Lib.hid (fun w' (h : Below w.heap.size w w') => hM.below h)
  have H8 := Lib.hid (fun i (h : i < order.length) => h8 _ (List.getElem_mem h))
  have HL := Lib.hid (fun i (h : i < cells.length) => hl _ (List.getElem_mem h))
  obtain ⟨n, hn⟩ : ∃ n, order.length = n := ⟨_, rfl⟩
  obtain ⟨m, hm⟩ : ∃ m, cells.length = m := ⟨_, rfl⟩
  have HN := Lib.hid hn
  have HM2 := Lib.hid hm
  rw [hn] at z2 ⊢
  rw [hm] at z1 ⊢
  have hmf : ∀ (fn : Fn) (first cap : Array Value) (w : World), (Instr.makeFunc fn first cap).run Tryz.prog w = .ok (.func fn first cap) w := fun _ _ _ _ => rfl
  have NB : Hid (¬ m = n → rowR order (cells.map trimS) = none) := Lib.hid (fun h => by unfold rowR; rw [if_neg (by rw [List.length_map, hn, hm]; exact fun e => h e.symm)])
  obtain ⟨L, hL⟩ : ∃ L, order.zip (cells.map trimS) = L := ⟨_, rfl⟩
  have EQ : Hid (m = n → rowR order (cells.map trimS) = (foldR L baseO).bind okR) := Lib.hid (fun h => by unfold rowR; rw [if_pos (by rw [List.length_map, hn, hm, h]), hL])
  have LK : Hid (m = n → ∀ k (h1 : k < order.length) (h2 : k < cells.length), ∃ h : k < L.length, L[k]'h = (order[k]'h1, trimS (cells[k]'h2))) := Lib.hid (fun h k h1 h2 => by
    subst hL
    exact ⟨by rw [List.length_zip, List.length_map]; omega, by rw [List.getElem_zip, List.getElem_map]⟩)
  have LL : Hid (m = n → L.length = n) := Lib.hid (fun h => by rw [← hL, List.length_zip, List.length_map, hn, hm, h]; exact Nat.min_self n)
  have LS : Hid (∀ p ∈ L, p.2.size ≤ maxLen) := Lib.hid (fun p hp => by
    rw [← hL] at hp
    obtain ⟨s, hs, e⟩ := List.mem_map.1 (List.of_mem_zip hp).2
    rw [← e]
    have := hl s hs
    have t := trimB_le s.data.toList 32
    have zz : s.data.toList.length = s.size := rfl
    unfold trimS maxLen
    rw [stL_size]
    omega)
  have X0 : Hid (RX w baseO (((w.alloc (.cells (obsC zeroO).toArray 33)).alloc (.cells (obsC baseO).toArray 117)).alloc (.cells (fnV (w.heap.size + 1)).toArray 119))) := Lib.hid (by
    have a1 := (Below.refl w.heap.size w).alloc (Nat.le_refl _) (.cells (obsC zeroO).toArray 33)
    have r1 := Rw.new w (obsC zeroO) 33
    have e1 : (w.alloc (.cells (obsC zeroO).toArray 33)).heap.size = w.heap.size + 1 := by simp
    generalize w.alloc (.cells (obsC zeroO).toArray 33) = v1 at *
    have a2 := (Below.refl v1.heap.size v1).alloc (Nat.le_refl _) (.cells (obsC baseO).toArray 117)
    have r2 := Rw.new v1 (obsC baseO) 117
    have e2 : (v1.alloc (.cells (obsC baseO).toArray 117)).heap.size = v1.heap.size + 1 := by simp
    generalize v1.alloc (.cells (obsC baseO).toArray 117) = v2 at *
    have a3 := (Below.refl v2.heap.size v2).alloc (Nat.le_refl _) (.cells (fnV (w.heap.size + 1)).toArray 119)
    have r3 := Rw.new v2 (fnV (w.heap.size + 1)) 119
    rw [e2, e1] at r3
    rw [e1] at r2
    exact ⟨(r1.call a2).call a3, r2.call a3, r3, below_then (below_then a1 a2) a3⟩)
  clear hc ho hE hM h8 hl hn hm hL
  go_enter Tryz.func37, Tryz.ntmps37
  go_upto_region 3 with (refine wpList_store_new_at rfl _ (.tmp 6) (.tmp 28) rfl _ (fnV (w.heap.size + 1)).toArray _ ?_ rfl rfl (by kernel_rfl) rfl ?_ ?_; (first | rfl | simp); (first | rfl | simp [fnV, Value.oneCell']))
  obtain ⟨w1, hw1⟩ : ∃ W, ((w.alloc (.cells (obsC zeroO).toArray 33)).alloc (.cells (obsC baseO).toArray 117)).alloc (.cells (fnV (w.heap.size + 1)).toArray 119) = W := ⟨_, rfl⟩
  rw [hw1] at X0
  rw [show ((w.alloc (.cells #[.string ⟨#[]⟩, .string ⟨#[]⟩, .int .i64 0, .int .i64 0, .int .i64 0, .int .i64 0, .int .i64 0, .int .u8 0] 33)).alloc (.cells #[.string ⟨#[]⟩, .string ⟨#[]⟩, .int .i64 0, .int .i64 0, .int .i64 0, .int .i64 1000000, .int .i64 9999, .int .u8 32] 117)).alloc (.cells (fnV (w.heap.size + 1)).toArray 119) = w1 from hw1]
  clear hw1
  by_cases hmn : m = n
  rotate_left
  · have c0 : ((m : Int) == (n : Int)) = false := beq_eq_false_iff_ne.2 (by omega)
    have F := Lib.hid (NB.out hmn)
    clear NB EQ LK LL LS HC HO HE HM H8 HL
    go_wp2_with fail
    refine (need_no _).mono ?_
    rintro e w2 ⟨rfl, rfl⟩
    exact ⟨rfl, Or.inr ⟨F.out, rfl⟩, X0.out.below⟩
  subst hmn
  have c0 : ((m : Int) == (m : Int)) = true := beq_self_eq_true _
  replace EQ := Lib.hid (EQ.out rfl)
  replace LK := Lib.hid (LK.out rfl)
  replace LL := Lib.hid (LL.out rfl)
  clear NB
  go_wp2_with fail
  refine (need_yes _).mono ?_
  rintro e w2 ⟨rfl, rfl⟩
  go_wp2_with fail
  go_loopw [37] (fun i wr => ∃ k : Nat, k ≤ m ∧ i = .int .i64 k ∧ Hid (∃ o, foldR (L.take k) baseO = some o ∧ RX w o wr)) (fun i _ => m - (intOf i).toNat)
  case atStart => exact ⟨0, Nat.zero_le _, rfl, Lib.hid ⟨baseO, by rw [List.take_zero]; rfl, X0.out⟩⟩
  case round =>
    obtain ⟨k, hk, rfl, D⟩ := hrel
    clear X0
    obtain ⟨o, ho, hx⟩ := D.out
    have FO := Lib.hid ho
    have HX0 := Lib.hid hx
    clear D ho hx
    by_cases hlt : k < m
    · have hkc : k < cells.length := by rw [HM2.out]; exact hlt
      have hko : k < order.length := by rw [HN.out]; exact hlt
      obtain ⟨bc, oc, rfl, ltc, qc⟩ := (HC.out _ HX0.out.below).get hkc
      obtain ⟨bo, oo, rfl, lto, qo⟩ := (HO.out _ HX0.out.below).get hko
      have lc0 : bc < w.heap.size := by
        rcases HC.out w (Below.refl _ _) with h | ⟨b, off, h1, h2, _⟩
        · rw [h] at hkc; exact absurd hkc (Nat.not_lt_zero k)
        · cases h1; exact h2
      have i1 : (k : Int) < (m : Int) := by omega
      have i0 : (0 : Int) ≤ (k : Int) := by omega
      have K8 := H8.out k hko
      have S1 := HL.out k hkc
      obtain ⟨hkL, eL⟩ := LK.out k hko hkc
      have YES := Lib.hid (fun o' h => foldR_next hkL FO.out (o2 := o') (by rw [eL]; exact h))
      have NO := Lib.hid (fun h => show rowR order (cells.map trimS) = none from by rw [EQ.out, foldR_bad hkL FO.out (by rw [eL]; exact h)]; rfl)
      clear eL EQ LK
      simp only at YES NO
      obtain ⟨s, hs⟩ : ∃ s, cells[k]'hkc = s := ⟨_, rfl⟩
      rw [hs] at qc S1 YES NO
      obtain ⟨K, hK⟩ : ∃ K, order[k]'hko = K := ⟨_, rfl⟩
      rw [hK] at qo K8 YES NO
      clear hs hK
      have TR := Lib.hid (fun w' => Tryz.strings_Trim_one s 32 (by decide) w' (by unfold maxLen at *; omega))
      obtain ⟨S, hS⟩ : ∃ S, trimS s = S := ⟨_, rfl⟩
      have hS' : (⟨(Lib.trimB s.data.toList 32).toArray⟩ : ByteArray) = S := hS
      rw [hS'] at TR
      rw [hS] at YES NO
      have h1 : S.size ≤ 100 := by
        rw [← hS]
        have t := trimB_le s.data.toList 32
        have zz : s.data.toList.length = s.size := rfl
        unfold trimS
        rw [stL_size]
        omega
      have h2 : S.size ≤ 100000 := by omega
      have h3 : S.size ≤ maxLen := by unfold maxLen; omega
      clear hS hS'
      have ltw := lto
      have CSd := Lib.hid (show CS w bc (oc + k) s o wr.drew from (⟨HX0.out, qc, lc0, ltc⟩ : CS w bc (oc + k) s o wr).call (Below.refl _ _).drew)
      have RD := Lib.hid (fun w' (h : RX w o w') => And.intro h.rd (HM.out w' h.below))
      clear HX0 qc lc0 ltc ltw lto FO
      rcases (show K = 0 ∨ K = 1 ∨ K = 2 ∨ K = 3 ∨ K = 4 ∨ K = 5 ∨ K = 6 ∨ K = 7 by omega) with rfl | rfl | rfl | rfl | rfl | rfl | rfl | rfl
      · have qo' : wr.cell? ⟨bo, oo + k, none⟩ = some (.int .i64 (0 : Int)) := qo
        have RDK := Lib.hid (fun w' (h : RX w o w') => rd0_any S (w.heap.size + 1) o w' (RD.out w' h).1)
        clear qo RD
        go_upto_region 7 with fail
        refine wp_region_held_drew (S := fun wx => ∃ o, CS w bc (oc + k) s o wx) (by kernel_rfl) ⟨_, CSd.out⟩ (fun hHeld => ?_)
        have HX : Hid (RX w o wr.drew) := Lib.hid CSd.out.rx
        clear CSd
        refine wpAnyH_take (i := 0) (oi := ?oi0_0x1) (v := ?v0_0x1) ?hi0_0x1 (by kernel_rfl) (by kernel_rfl) (by kernel_rfl) ?hq0_0x1 ?hy0_0x1 hHeld ?rest0_0x1
        case hi0_0x1 => ((try simp only [List.getElem?_toArray, List.getElem?_cons_succ, List.getElem?_cons_zero]); (try rfl))
        case hq0_0x1 => exact fun _ _ _ h => h
        case hy0_0x1 => exact Or.inl ⟨by rfl, by intro w hSw; clear hSw; go_simp; try with_reducible rfl⟩
        try simp only [Act.put, List.setIfInBounds_toArray, List.set_cons_zero, List.set_cons_succ]
        refine wpAnyH_take (i := 1) (oi := ?oi0_1x2) (v := ?v0_1x2) ?hi0_1x2 (by kernel_rfl) (by kernel_rfl) (by kernel_rfl) ?hq0_1x2 ?hy0_1x2 hHeld ?rest0_1x2
        case hi0_1x2 => ((try simp only [List.getElem?_toArray, List.getElem?_cons_succ, List.getElem?_cons_zero]); (try rfl))
        case hq0_1x2 => exact fun _ _ _ h => h
        case hy0_1x2 => exact Or.inl ⟨by rfl, by intro w hSw; clear hSw; go_simp; try with_reducible rfl⟩
        try simp only [Act.put, List.setIfInBounds_toArray, List.set_cons_zero, List.set_cons_succ]
        refine wpAnyH_take (i := 2) (oi := ?oi0_2x3) (v := ?v0_2x3) ?hi0_2x3 (by kernel_rfl) (by kernel_rfl) (by kernel_rfl) ?hq0_2x3 ?hy0_2x3 hHeld ?rest0_2x3
        case hi0_2x3 => ((try simp only [List.getElem?_toArray, List.getElem?_cons_succ, List.getElem?_cons_zero]); (try rfl))
        case hq0_2x3 => exact fun _ _ _ h => h
        case hy0_2x3 => exact Or.inl ⟨by rfl, by intro w hSw; obtain ⟨_, hc⟩ := hSw; have q := hc.rx.fn.cell (j := 0) (v := _) rfl; clear hc; go_simp; try with_reducible rfl⟩
        try simp only [Act.put, List.setIfInBounds_toArray, List.set_cons_zero, List.set_cons_succ]
        refine wpAnyH_take (i := 3) (oi := ?oi0_3x4) (v := ?v0_3x4) ?hi0_3x4 (by kernel_rfl) (by kernel_rfl) (by kernel_rfl) ?hq0_3x4 ?hy0_3x4 hHeld ?rest0_3x4
        case hi0_3x4 => ((try simp only [List.getElem?_toArray, List.getElem?_cons_succ, List.getElem?_cons_zero]); (try rfl))
        case hq0_3x4 => exact fun _ _ _ h => h
        case hy0_3x4 => exact Or.inl ⟨by rfl, by intro w hSw; clear hSw; go_simp; try with_reducible rfl⟩
        try simp only [Act.put, List.setIfInBounds_toArray, List.set_cons_zero, List.set_cons_succ]
        refine wpAnyH_take (i := 4) (oi := ?oi0_4x5) (v := ?v0_4x5) ?hi0_4x5 (by kernel_rfl) (by kernel_rfl) (by kernel_rfl) ?hq0_4x5 ?hy0_4x5 hHeld ?rest0_4x5
        case hi0_4x5 => ((try simp only [List.getElem?_toArray, List.getElem?_cons_succ, List.getElem?_cons_zero]); (try rfl))
        case hq0_4x5 => exact fun _ _ _ h => h
        case hy0_4x5 => exact Or.inl ⟨by rfl, by intro w hSw; clear hSw; go_simp; try with_reducible rfl⟩
        try simp only [Act.put, List.setIfInBounds_toArray, List.set_cons_zero, List.set_cons_succ]
        refine wpAnyH_take (i := 5) (oi := ?oi0_5x6) (v := ?v0_5x6) ?hi0_5x6 (by kernel_rfl) (by kernel_rfl) (by kernel_rfl) ?hq0_5x6 ?hy0_5x6 hHeld ?rest0_5x6
        case hi0_5x6 => ((try simp only [List.getElem?_toArray, List.getElem?_cons_succ, List.getElem?_cons_zero]); (try rfl))
        case hq0_5x6 => exact fun _ _ _ h => h
        case hy0_5x6 => exact Or.inl ⟨by rfl, by intro w hSw; clear hSw; go_simp; try with_reducible rfl⟩
        try simp only [Act.put, List.setIfInBounds_toArray, List.set_cons_zero, List.set_cons_succ]
        refine wpAnyH_take (i := 6) (oi := ?oi0_6x7) (v := ?v0_6x7) ?hi0_6x7 (by kernel_rfl) (by kernel_rfl) (by kernel_rfl) ?hq0_6x7 ?hy0_6x7 hHeld ?rest0_6x7
        case hi0_6x7 => ((try simp only [List.getElem?_toArray, List.getElem?_cons_succ, List.getElem?_cons_zero]); (try rfl))
        case hq0_6x7 => exact fun _ _ _ h => h
        case hy0_6x7 => exact Or.inl ⟨by rfl, by intro w hSw; obtain ⟨_, hc⟩ := hSw; have q := hc.cell; clear hc; go_simp; try with_reducible rfl⟩
        try simp only [Act.put, List.setIfInBounds_toArray, List.set_cons_zero, List.set_cons_succ]
        refine wpAnyH_ready (rs := [7]) (by kernel_rfl) (by simp) ?_
        refine AllReadyH.cons rfl (fun K' hK => ?_) AllReadyH.nil
        have H1 := Lib.hid hHeld
        clear hHeld
        go_simp
        refine (TR.out _).mono ?_
        rintro e wx ⟨rfl, hwx⟩
        replace H1 := Lib.hid (H1.out.elim fun o h => (show ∃ o, CS w bc (oc + k) s o wx from ⟨o, h.call (by rcases hwx with rfl | rfl; exact Below.refl _ _; exact (Below.refl _ _).drew)⟩))
        have HXc : Hid (RX w o wx) := Lib.hid (by rcases hwx with rfl | rfl; exact HX.out; exact HX.out.call (Below.refl _ _).drew)
        clear hwx HX TR
        refine hK.out _ _ H1.out (fun hHeld => ?_)
        clear hK H1
        try simp only [Act.put, List.setIfInBounds_toArray, List.set_cons_zero, List.set_cons_succ]
        refine wpAnyH_ready (rs := [8]) (by kernel_rfl) (by simp) ?_
        refine AllReadyH.cons rfl (fun K' hK => ?_) AllReadyH.nil
        have H1 := Lib.hid hHeld
        clear hHeld
        go_simp
        refine (RDK.out _ HXc.out).mono ?_
        rintro e wx ⟨h, ho⟩
        rcases h with ⟨o', h, rfl, hr⟩ | ⟨h, rfl⟩
        rotate_left
        · have F := Lib.hid (NO.out h)
          exact ⟨rfl, Or.inr ⟨F.out, rfl⟩, HXc.out.below.trans (ho.below.mono (Nat.le_succ _))⟩
        have HXd := Lib.hid (HXc.out.read hr ho)
        have F := Lib.hid (YES.out o' h)
        replace H1 := Lib.hid (H1.out.elim fun _ h => (show ∃ o, CS w bc (oc + k) s o wx from ⟨o', HXd.out, (h.cell_only ho)⟩))
        clear HXc hr ho h RDK NO YES
        refine hK.out _ _ H1.out (fun hHeld => ?_)
        clear hK H1
        try simp only [Act.put, List.setIfInBounds_toArray, List.set_cons_zero, List.set_cons_succ]
        refine wpAnyH_done (by kernel_rfl) ?_ _
        clear hHeld
        go_wp2_with fail
        go_roundw
        case rel => exact ⟨k + 1, by omega, by go_num, Lib.hid ⟨o', F.out, HXd.out⟩⟩
        case measure => simp [intOf]; omega
      · have qo' : wr.cell? ⟨bo, oo + k, none⟩ = some (.int .i64 (1 : Int)) := qo
        have RDK := Lib.hid (fun w' (h : RX w o w') => rd1_any S (w.heap.size + 1) o w' (RD.out w' h).1)
        clear qo RD
        go_upto_region 7 with fail
        refine wp_region_held_drew (S := fun wx => ∃ o, CS w bc (oc + k) s o wx) (by kernel_rfl) ⟨_, CSd.out⟩ (fun hHeld => ?_)
        have HX : Hid (RX w o wr.drew) := Lib.hid CSd.out.rx
        clear CSd
        refine wpAnyH_take (i := 0) (oi := ?oi1_0x1) (v := ?v1_0x1) ?hi1_0x1 (by kernel_rfl) (by kernel_rfl) (by kernel_rfl) ?hq1_0x1 ?hy1_0x1 hHeld ?rest1_0x1
        case hi1_0x1 => ((try simp only [List.getElem?_toArray, List.getElem?_cons_succ, List.getElem?_cons_zero]); (try rfl))
        case hq1_0x1 => exact fun _ _ _ h => h
        case hy1_0x1 => exact Or.inl ⟨by rfl, by intro w hSw; clear hSw; go_simp; try with_reducible rfl⟩
        try simp only [Act.put, List.setIfInBounds_toArray, List.set_cons_zero, List.set_cons_succ]
        refine wpAnyH_take (i := 1) (oi := ?oi1_1x2) (v := ?v1_1x2) ?hi1_1x2 (by kernel_rfl) (by kernel_rfl) (by kernel_rfl) ?hq1_1x2 ?hy1_1x2 hHeld ?rest1_1x2
        case hi1_1x2 => ((try simp only [List.getElem?_toArray, List.getElem?_cons_succ, List.getElem?_cons_zero]); (try rfl))
        case hq1_1x2 => exact fun _ _ _ h => h
        case hy1_1x2 => exact Or.inl ⟨by rfl, by intro w hSw; clear hSw; go_simp; try with_reducible rfl⟩
        try simp only [Act.put, List.setIfInBounds_toArray, List.set_cons_zero, List.set_cons_succ]
        refine wpAnyH_take (i := 2) (oi := ?oi1_2x3) (v := ?v1_2x3) ?hi1_2x3 (by kernel_rfl) (by kernel_rfl) (by kernel_rfl) ?hq1_2x3 ?hy1_2x3 hHeld ?rest1_2x3
        case hi1_2x3 => ((try simp only [List.getElem?_toArray, List.getElem?_cons_succ, List.getElem?_cons_zero]); (try rfl))
        case hq1_2x3 => exact fun _ _ _ h => h
        case hy1_2x3 => exact Or.inl ⟨by rfl, by intro w hSw; obtain ⟨_, hc⟩ := hSw; have q := hc.rx.fn.cell (j := 1) (v := _) rfl; clear hc; go_simp; try with_reducible rfl⟩
        try simp only [Act.put, List.setIfInBounds_toArray, List.set_cons_zero, List.set_cons_succ]
        refine wpAnyH_take (i := 3) (oi := ?oi1_3x4) (v := ?v1_3x4) ?hi1_3x4 (by kernel_rfl) (by kernel_rfl) (by kernel_rfl) ?hq1_3x4 ?hy1_3x4 hHeld ?rest1_3x4
        case hi1_3x4 => ((try simp only [List.getElem?_toArray, List.getElem?_cons_succ, List.getElem?_cons_zero]); (try rfl))
        case hq1_3x4 => exact fun _ _ _ h => h
        case hy1_3x4 => exact Or.inl ⟨by rfl, by intro w hSw; clear hSw; go_simp; try with_reducible rfl⟩
        try simp only [Act.put, List.setIfInBounds_toArray, List.set_cons_zero, List.set_cons_succ]
        refine wpAnyH_take (i := 4) (oi := ?oi1_4x5) (v := ?v1_4x5) ?hi1_4x5 (by kernel_rfl) (by kernel_rfl) (by kernel_rfl) ?hq1_4x5 ?hy1_4x5 hHeld ?rest1_4x5
        case hi1_4x5 => ((try simp only [List.getElem?_toArray, List.getElem?_cons_succ, List.getElem?_cons_zero]); (try rfl))
        case hq1_4x5 => exact fun _ _ _ h => h
        case hy1_4x5 => exact Or.inl ⟨by rfl, by intro w hSw; clear hSw; go_simp; try with_reducible rfl⟩
        try simp only [Act.put, List.setIfInBounds_toArray, List.set_cons_zero, List.set_cons_succ]
        refine wpAnyH_take (i := 5) (oi := ?oi1_5x6) (v := ?v1_5x6) ?hi1_5x6 (by kernel_rfl) (by kernel_rfl) (by kernel_rfl) ?hq1_5x6 ?hy1_5x6 hHeld ?rest1_5x6
        case hi1_5x6 => ((try simp only [List.getElem?_toArray, List.getElem?_cons_succ, List.getElem?_cons_zero]); (try rfl))
        case hq1_5x6 => exact fun _ _ _ h => h
        case hy1_5x6 => exact Or.inl ⟨by rfl, by intro w hSw; clear hSw; go_simp; try with_reducible rfl⟩
        try simp only [Act.put, List.setIfInBounds_toArray, List.set_cons_zero, List.set_cons_succ]
        refine wpAnyH_take (i := 6) (oi := ?oi1_6x7) (v := ?v1_6x7) ?hi1_6x7 (by kernel_rfl) (by kernel_rfl) (by kernel_rfl) ?hq1_6x7 ?hy1_6x7 hHeld ?rest1_6x7
        case hi1_6x7 => ((try simp only [List.getElem?_toArray, List.getElem?_cons_succ, List.getElem?_cons_zero]); (try rfl))
        case hq1_6x7 => exact fun _ _ _ h => h
        case hy1_6x7 => exact Or.inl ⟨by rfl, by intro w hSw; obtain ⟨_, hc⟩ := hSw; have q := hc.cell; clear hc; go_simp; try with_reducible rfl⟩
        try simp only [Act.put, List.setIfInBounds_toArray, List.set_cons_zero, List.set_cons_succ]
        refine wpAnyH_ready (rs := [7]) (by kernel_rfl) (by simp) ?_
        refine AllReadyH.cons rfl (fun K' hK => ?_) AllReadyH.nil
        have H1 := Lib.hid hHeld
        clear hHeld
        go_simp
        refine (TR.out _).mono ?_
        rintro e wx ⟨rfl, hwx⟩
        replace H1 := Lib.hid (H1.out.elim fun o h => (show ∃ o, CS w bc (oc + k) s o wx from ⟨o, h.call (by rcases hwx with rfl | rfl; exact Below.refl _ _; exact (Below.refl _ _).drew)⟩))
        have HXc : Hid (RX w o wx) := Lib.hid (by rcases hwx with rfl | rfl; exact HX.out; exact HX.out.call (Below.refl _ _).drew)
        clear hwx HX TR
        refine hK.out _ _ H1.out (fun hHeld => ?_)
        clear hK H1
        try simp only [Act.put, List.setIfInBounds_toArray, List.set_cons_zero, List.set_cons_succ]
        refine wpAnyH_ready (rs := [8]) (by kernel_rfl) (by simp) ?_
        refine AllReadyH.cons rfl (fun K' hK => ?_) AllReadyH.nil
        have H1 := Lib.hid hHeld
        clear hHeld
        go_simp
        refine (RDK.out _ HXc.out).mono ?_
        rintro e wx ⟨h, ho⟩
        rcases h with ⟨o', h, rfl, hr⟩ | ⟨h, rfl⟩
        rotate_left
        · have F := Lib.hid (NO.out h)
          exact ⟨rfl, Or.inr ⟨F.out, rfl⟩, HXc.out.below.trans (ho.below.mono (Nat.le_succ _))⟩
        have HXd := Lib.hid (HXc.out.read hr ho)
        have F := Lib.hid (YES.out o' h)
        replace H1 := Lib.hid (H1.out.elim fun _ h => (show ∃ o, CS w bc (oc + k) s o wx from ⟨o', HXd.out, (h.cell_only ho)⟩))
        clear HXc hr ho h RDK NO YES
        refine hK.out _ _ H1.out (fun hHeld => ?_)
        clear hK H1
        try simp only [Act.put, List.setIfInBounds_toArray, List.set_cons_zero, List.set_cons_succ]
        refine wpAnyH_done (by kernel_rfl) ?_ _
        clear hHeld
        go_wp2_with fail
        go_roundw
        case rel => exact ⟨k + 1, by omega, by go_num, Lib.hid ⟨o', F.out, HXd.out⟩⟩
        case measure => simp [intOf]; omega
      · have qo' : wr.cell? ⟨bo, oo + k, none⟩ = some (.int .i64 (2 : Int)) := qo
        have RDK := Lib.hid (fun w' (h : RX w o w') => rd2_any S (w.heap.size + 1) o w' (RD.out w' h).1 h1)
        clear qo RD
        go_upto_region 7 with fail
        refine wp_region_held_drew (S := fun wx => ∃ o, CS w bc (oc + k) s o wx) (by kernel_rfl) ⟨_, CSd.out⟩ (fun hHeld => ?_)
        have HX : Hid (RX w o wr.drew) := Lib.hid CSd.out.rx
        clear CSd
        refine wpAnyH_take (i := 0) (oi := ?oi2_0x1) (v := ?v2_0x1) ?hi2_0x1 (by kernel_rfl) (by kernel_rfl) (by kernel_rfl) ?hq2_0x1 ?hy2_0x1 hHeld ?rest2_0x1
        case hi2_0x1 => ((try simp only [List.getElem?_toArray, List.getElem?_cons_succ, List.getElem?_cons_zero]); (try rfl))
        case hq2_0x1 => exact fun _ _ _ h => h
        case hy2_0x1 => exact Or.inl ⟨by rfl, by intro w hSw; clear hSw; go_simp; try with_reducible rfl⟩
        try simp only [Act.put, List.setIfInBounds_toArray, List.set_cons_zero, List.set_cons_succ]
        refine wpAnyH_take (i := 1) (oi := ?oi2_1x2) (v := ?v2_1x2) ?hi2_1x2 (by kernel_rfl) (by kernel_rfl) (by kernel_rfl) ?hq2_1x2 ?hy2_1x2 hHeld ?rest2_1x2
        case hi2_1x2 => ((try simp only [List.getElem?_toArray, List.getElem?_cons_succ, List.getElem?_cons_zero]); (try rfl))
        case hq2_1x2 => exact fun _ _ _ h => h
        case hy2_1x2 => exact Or.inl ⟨by rfl, by intro w hSw; clear hSw; go_simp; try with_reducible rfl⟩
        try simp only [Act.put, List.setIfInBounds_toArray, List.set_cons_zero, List.set_cons_succ]
        refine wpAnyH_take (i := 2) (oi := ?oi2_2x3) (v := ?v2_2x3) ?hi2_2x3 (by kernel_rfl) (by kernel_rfl) (by kernel_rfl) ?hq2_2x3 ?hy2_2x3 hHeld ?rest2_2x3
        case hi2_2x3 => ((try simp only [List.getElem?_toArray, List.getElem?_cons_succ, List.getElem?_cons_zero]); (try rfl))
        case hq2_2x3 => exact fun _ _ _ h => h
        case hy2_2x3 => exact Or.inl ⟨by rfl, by intro w hSw; obtain ⟨_, hc⟩ := hSw; have q := hc.rx.fn.cell (j := 2) (v := _) rfl; clear hc; go_simp; try with_reducible rfl⟩
        try simp only [Act.put, List.setIfInBounds_toArray, List.set_cons_zero, List.set_cons_succ]
        refine wpAnyH_take (i := 3) (oi := ?oi2_3x4) (v := ?v2_3x4) ?hi2_3x4 (by kernel_rfl) (by kernel_rfl) (by kernel_rfl) ?hq2_3x4 ?hy2_3x4 hHeld ?rest2_3x4
        case hi2_3x4 => ((try simp only [List.getElem?_toArray, List.getElem?_cons_succ, List.getElem?_cons_zero]); (try rfl))
        case hq2_3x4 => exact fun _ _ _ h => h
        case hy2_3x4 => exact Or.inl ⟨by rfl, by intro w hSw; clear hSw; go_simp; try with_reducible rfl⟩
        try simp only [Act.put, List.setIfInBounds_toArray, List.set_cons_zero, List.set_cons_succ]
        refine wpAnyH_take (i := 4) (oi := ?oi2_4x5) (v := ?v2_4x5) ?hi2_4x5 (by kernel_rfl) (by kernel_rfl) (by kernel_rfl) ?hq2_4x5 ?hy2_4x5 hHeld ?rest2_4x5
        case hi2_4x5 => ((try simp only [List.getElem?_toArray, List.getElem?_cons_succ, List.getElem?_cons_zero]); (try rfl))
        case hq2_4x5 => exact fun _ _ _ h => h
        case hy2_4x5 => exact Or.inl ⟨by rfl, by intro w hSw; clear hSw; go_simp; try with_reducible rfl⟩
        try simp only [Act.put, List.setIfInBounds_toArray, List.set_cons_zero, List.set_cons_succ]
        refine wpAnyH_take (i := 5) (oi := ?oi2_5x6) (v := ?v2_5x6) ?hi2_5x6 (by kernel_rfl) (by kernel_rfl) (by kernel_rfl) ?hq2_5x6 ?hy2_5x6 hHeld ?rest2_5x6
        case hi2_5x6 => ((try simp only [List.getElem?_toArray, List.getElem?_cons_succ, List.getElem?_cons_zero]); (try rfl))
        case hq2_5x6 => exact fun _ _ _ h => h
        case hy2_5x6 => exact Or.inl ⟨by rfl, by intro w hSw; clear hSw; go_simp; try with_reducible rfl⟩
        try simp only [Act.put, List.setIfInBounds_toArray, List.set_cons_zero, List.set_cons_succ]
        refine wpAnyH_take (i := 6) (oi := ?oi2_6x7) (v := ?v2_6x7) ?hi2_6x7 (by kernel_rfl) (by kernel_rfl) (by kernel_rfl) ?hq2_6x7 ?hy2_6x7 hHeld ?rest2_6x7
        case hi2_6x7 => ((try simp only [List.getElem?_toArray, List.getElem?_cons_succ, List.getElem?_cons_zero]); (try rfl))
        case hq2_6x7 => exact fun _ _ _ h => h
        case hy2_6x7 => exact Or.inl ⟨by rfl, by intro w hSw; obtain ⟨_, hc⟩ := hSw; have q := hc.cell; clear hc; go_simp; try with_reducible rfl⟩
        try simp only [Act.put, List.setIfInBounds_toArray, List.set_cons_zero, List.set_cons_succ]
        refine wpAnyH_ready (rs := [7]) (by kernel_rfl) (by simp) ?_
        refine AllReadyH.cons rfl (fun K' hK => ?_) AllReadyH.nil
        have H1 := Lib.hid hHeld
        clear hHeld
        go_simp
        refine (TR.out _).mono ?_
        rintro e wx ⟨rfl, hwx⟩
        replace H1 := Lib.hid (H1.out.elim fun o h => (show ∃ o, CS w bc (oc + k) s o wx from ⟨o, h.call (by rcases hwx with rfl | rfl; exact Below.refl _ _; exact (Below.refl _ _).drew)⟩))
        have HXc : Hid (RX w o wx) := Lib.hid (by rcases hwx with rfl | rfl; exact HX.out; exact HX.out.call (Below.refl _ _).drew)
        clear hwx HX TR
        refine hK.out _ _ H1.out (fun hHeld => ?_)
        clear hK H1
        try simp only [Act.put, List.setIfInBounds_toArray, List.set_cons_zero, List.set_cons_succ]
        refine wpAnyH_ready (rs := [8]) (by kernel_rfl) (by simp) ?_
        refine AllReadyH.cons rfl (fun K' hK => ?_) AllReadyH.nil
        have H1 := Lib.hid hHeld
        clear hHeld
        go_simp
        refine (RDK.out _ HXc.out).mono ?_
        rintro e wx ⟨h, ho⟩
        rcases h with ⟨o', h, rfl, hr⟩ | ⟨h, rfl⟩
        rotate_left
        · have F := Lib.hid (NO.out h)
          exact ⟨rfl, Or.inr ⟨F.out, rfl⟩, HXc.out.below.trans (ho.below.mono (Nat.le_succ _))⟩
        have HXd := Lib.hid (HXc.out.read hr ho)
        have F := Lib.hid (YES.out o' h)
        replace H1 := Lib.hid (H1.out.elim fun _ h => (show ∃ o, CS w bc (oc + k) s o wx from ⟨o', HXd.out, (h.cell_only ho)⟩))
        clear HXc hr ho h RDK NO YES
        refine hK.out _ _ H1.out (fun hHeld => ?_)
        clear hK H1
        try simp only [Act.put, List.setIfInBounds_toArray, List.set_cons_zero, List.set_cons_succ]
        refine wpAnyH_done (by kernel_rfl) ?_ _
        clear hHeld
        go_wp2_with fail
        go_roundw
        case rel => exact ⟨k + 1, by omega, by go_num, Lib.hid ⟨o', F.out, HXd.out⟩⟩
        case measure => simp [intOf]; omega
      · have qo' : wr.cell? ⟨bo, oo + k, none⟩ = some (.int .i64 (3 : Int)) := qo
        have RDK := Lib.hid (fun w' (h : RX w o w') => rd3_any S (w.heap.size + 1) o w' (RD.out w' h).1 (RD.out w' h).2 h1)
        clear qo RD
        go_upto_region 7 with fail
        refine wp_region_held_drew (S := fun wx => ∃ o, CS w bc (oc + k) s o wx) (by kernel_rfl) ⟨_, CSd.out⟩ (fun hHeld => ?_)
        have HX : Hid (RX w o wr.drew) := Lib.hid CSd.out.rx
        clear CSd
        refine wpAnyH_take (i := 0) (oi := ?oi3_0x1) (v := ?v3_0x1) ?hi3_0x1 (by kernel_rfl) (by kernel_rfl) (by kernel_rfl) ?hq3_0x1 ?hy3_0x1 hHeld ?rest3_0x1
        case hi3_0x1 => ((try simp only [List.getElem?_toArray, List.getElem?_cons_succ, List.getElem?_cons_zero]); (try rfl))
        case hq3_0x1 => exact fun _ _ _ h => h
        case hy3_0x1 => exact Or.inl ⟨by rfl, by intro w hSw; clear hSw; go_simp; try with_reducible rfl⟩
        try simp only [Act.put, List.setIfInBounds_toArray, List.set_cons_zero, List.set_cons_succ]
        refine wpAnyH_take (i := 1) (oi := ?oi3_1x2) (v := ?v3_1x2) ?hi3_1x2 (by kernel_rfl) (by kernel_rfl) (by kernel_rfl) ?hq3_1x2 ?hy3_1x2 hHeld ?rest3_1x2
        case hi3_1x2 => ((try simp only [List.getElem?_toArray, List.getElem?_cons_succ, List.getElem?_cons_zero]); (try rfl))
        case hq3_1x2 => exact fun _ _ _ h => h
        case hy3_1x2 => exact Or.inl ⟨by rfl, by intro w hSw; clear hSw; go_simp; try with_reducible rfl⟩
        try simp only [Act.put, List.setIfInBounds_toArray, List.set_cons_zero, List.set_cons_succ]
        refine wpAnyH_take (i := 2) (oi := ?oi3_2x3) (v := ?v3_2x3) ?hi3_2x3 (by kernel_rfl) (by kernel_rfl) (by kernel_rfl) ?hq3_2x3 ?hy3_2x3 hHeld ?rest3_2x3
        case hi3_2x3 => ((try simp only [List.getElem?_toArray, List.getElem?_cons_succ, List.getElem?_cons_zero]); (try rfl))
        case hq3_2x3 => exact fun _ _ _ h => h
        case hy3_2x3 => exact Or.inl ⟨by rfl, by intro w hSw; obtain ⟨_, hc⟩ := hSw; have q := hc.rx.fn.cell (j := 3) (v := _) rfl; clear hc; go_simp; try with_reducible rfl⟩
        try simp only [Act.put, List.setIfInBounds_toArray, List.set_cons_zero, List.set_cons_succ]
        refine wpAnyH_take (i := 3) (oi := ?oi3_3x4) (v := ?v3_3x4) ?hi3_3x4 (by kernel_rfl) (by kernel_rfl) (by kernel_rfl) ?hq3_3x4 ?hy3_3x4 hHeld ?rest3_3x4
        case hi3_3x4 => ((try simp only [List.getElem?_toArray, List.getElem?_cons_succ, List.getElem?_cons_zero]); (try rfl))
        case hq3_3x4 => exact fun _ _ _ h => h
        case hy3_3x4 => exact Or.inl ⟨by rfl, by intro w hSw; clear hSw; go_simp; try with_reducible rfl⟩
        try simp only [Act.put, List.setIfInBounds_toArray, List.set_cons_zero, List.set_cons_succ]
        refine wpAnyH_take (i := 4) (oi := ?oi3_4x5) (v := ?v3_4x5) ?hi3_4x5 (by kernel_rfl) (by kernel_rfl) (by kernel_rfl) ?hq3_4x5 ?hy3_4x5 hHeld ?rest3_4x5
        case hi3_4x5 => ((try simp only [List.getElem?_toArray, List.getElem?_cons_succ, List.getElem?_cons_zero]); (try rfl))
        case hq3_4x5 => exact fun _ _ _ h => h
        case hy3_4x5 => exact Or.inl ⟨by rfl, by intro w hSw; clear hSw; go_simp; try with_reducible rfl⟩
        try simp only [Act.put, List.setIfInBounds_toArray, List.set_cons_zero, List.set_cons_succ]
        refine wpAnyH_take (i := 5) (oi := ?oi3_5x6) (v := ?v3_5x6) ?hi3_5x6 (by kernel_rfl) (by kernel_rfl) (by kernel_rfl) ?hq3_5x6 ?hy3_5x6 hHeld ?rest3_5x6
        case hi3_5x6 => ((try simp only [List.getElem?_toArray, List.getElem?_cons_succ, List.getElem?_cons_zero]); (try rfl))
        case hq3_5x6 => exact fun _ _ _ h => h
        case hy3_5x6 => exact Or.inl ⟨by rfl, by intro w hSw; clear hSw; go_simp; try with_reducible rfl⟩
        try simp only [Act.put, List.setIfInBounds_toArray, List.set_cons_zero, List.set_cons_succ]
        refine wpAnyH_take (i := 6) (oi := ?oi3_6x7) (v := ?v3_6x7) ?hi3_6x7 (by kernel_rfl) (by kernel_rfl) (by kernel_rfl) ?hq3_6x7 ?hy3_6x7 hHeld ?rest3_6x7
        case hi3_6x7 => ((try simp only [List.getElem?_toArray, List.getElem?_cons_succ, List.getElem?_cons_zero]); (try rfl))
        case hq3_6x7 => exact fun _ _ _ h => h
        case hy3_6x7 => exact Or.inl ⟨by rfl, by intro w hSw; obtain ⟨_, hc⟩ := hSw; have q := hc.cell; clear hc; go_simp; try with_reducible rfl⟩
        try simp only [Act.put, List.setIfInBounds_toArray, List.set_cons_zero, List.set_cons_succ]
        refine wpAnyH_ready (rs := [7]) (by kernel_rfl) (by simp) ?_
        refine AllReadyH.cons rfl (fun K' hK => ?_) AllReadyH.nil
        have H1 := Lib.hid hHeld
        clear hHeld
        go_simp
        refine (TR.out _).mono ?_
        rintro e wx ⟨rfl, hwx⟩
        replace H1 := Lib.hid (H1.out.elim fun o h => (show ∃ o, CS w bc (oc + k) s o wx from ⟨o, h.call (by rcases hwx with rfl | rfl; exact Below.refl _ _; exact (Below.refl _ _).drew)⟩))
        have HXc : Hid (RX w o wx) := Lib.hid (by rcases hwx with rfl | rfl; exact HX.out; exact HX.out.call (Below.refl _ _).drew)
        clear hwx HX TR
        refine hK.out _ _ H1.out (fun hHeld => ?_)
        clear hK H1
        try simp only [Act.put, List.setIfInBounds_toArray, List.set_cons_zero, List.set_cons_succ]
        refine wpAnyH_ready (rs := [8]) (by kernel_rfl) (by simp) ?_
        refine AllReadyH.cons rfl (fun K' hK => ?_) AllReadyH.nil
        have H1 := Lib.hid hHeld
        clear hHeld
        go_simp
        refine (RDK.out _ HXc.out).mono ?_
        rintro e wx ⟨h, ho⟩
        rcases h with ⟨o', h, rfl, hr⟩ | ⟨h, rfl⟩
        rotate_left
        · have F := Lib.hid (NO.out h)
          exact ⟨rfl, Or.inr ⟨F.out, rfl⟩, HXc.out.below.trans (ho.below.mono (Nat.le_succ _))⟩
        have HXd := Lib.hid (HXc.out.read hr ho)
        have F := Lib.hid (YES.out o' h)
        replace H1 := Lib.hid (H1.out.elim fun _ h => (show ∃ o, CS w bc (oc + k) s o wx from ⟨o', HXd.out, (h.cell_only ho)⟩))
        clear HXc hr ho h RDK NO YES
        refine hK.out _ _ H1.out (fun hHeld => ?_)
        clear hK H1
        try simp only [Act.put, List.setIfInBounds_toArray, List.set_cons_zero, List.set_cons_succ]
        refine wpAnyH_done (by kernel_rfl) ?_ _
        clear hHeld
        go_wp2_with fail
        go_roundw
        case rel => exact ⟨k + 1, by omega, by go_num, Lib.hid ⟨o', F.out, HXd.out⟩⟩
        case measure => simp [intOf]; omega
      · have qo' : wr.cell? ⟨bo, oo + k, none⟩ = some (.int .i64 (4 : Int)) := qo
        have RDK := Lib.hid (fun w' (h : RX w o w') => rd4_any S (w.heap.size + 1) o w' (RD.out w' h).1 (RD.out w' h).2 h1)
        clear qo RD
        go_upto_region 7 with fail
        refine wp_region_held_drew (S := fun wx => ∃ o, CS w bc (oc + k) s o wx) (by kernel_rfl) ⟨_, CSd.out⟩ (fun hHeld => ?_)
        have HX : Hid (RX w o wr.drew) := Lib.hid CSd.out.rx
        clear CSd
        refine wpAnyH_take (i := 0) (oi := ?oi4_0x1) (v := ?v4_0x1) ?hi4_0x1 (by kernel_rfl) (by kernel_rfl) (by kernel_rfl) ?hq4_0x1 ?hy4_0x1 hHeld ?rest4_0x1
        case hi4_0x1 => ((try simp only [List.getElem?_toArray, List.getElem?_cons_succ, List.getElem?_cons_zero]); (try rfl))
        case hq4_0x1 => exact fun _ _ _ h => h
        case hy4_0x1 => exact Or.inl ⟨by rfl, by intro w hSw; clear hSw; go_simp; try with_reducible rfl⟩
        try simp only [Act.put, List.setIfInBounds_toArray, List.set_cons_zero, List.set_cons_succ]
        refine wpAnyH_take (i := 1) (oi := ?oi4_1x2) (v := ?v4_1x2) ?hi4_1x2 (by kernel_rfl) (by kernel_rfl) (by kernel_rfl) ?hq4_1x2 ?hy4_1x2 hHeld ?rest4_1x2
        case hi4_1x2 => ((try simp only [List.getElem?_toArray, List.getElem?_cons_succ, List.getElem?_cons_zero]); (try rfl))
        case hq4_1x2 => exact fun _ _ _ h => h
        case hy4_1x2 => exact Or.inl ⟨by rfl, by intro w hSw; clear hSw; go_simp; try with_reducible rfl⟩
        try simp only [Act.put, List.setIfInBounds_toArray, List.set_cons_zero, List.set_cons_succ]
        refine wpAnyH_take (i := 2) (oi := ?oi4_2x3) (v := ?v4_2x3) ?hi4_2x3 (by kernel_rfl) (by kernel_rfl) (by kernel_rfl) ?hq4_2x3 ?hy4_2x3 hHeld ?rest4_2x3
        case hi4_2x3 => ((try simp only [List.getElem?_toArray, List.getElem?_cons_succ, List.getElem?_cons_zero]); (try rfl))
        case hq4_2x3 => exact fun _ _ _ h => h
        case hy4_2x3 => exact Or.inl ⟨by rfl, by intro w hSw; obtain ⟨_, hc⟩ := hSw; have q := hc.rx.fn.cell (j := 4) (v := _) rfl; clear hc; go_simp; try with_reducible rfl⟩
        try simp only [Act.put, List.setIfInBounds_toArray, List.set_cons_zero, List.set_cons_succ]
        refine wpAnyH_take (i := 3) (oi := ?oi4_3x4) (v := ?v4_3x4) ?hi4_3x4 (by kernel_rfl) (by kernel_rfl) (by kernel_rfl) ?hq4_3x4 ?hy4_3x4 hHeld ?rest4_3x4
        case hi4_3x4 => ((try simp only [List.getElem?_toArray, List.getElem?_cons_succ, List.getElem?_cons_zero]); (try rfl))
        case hq4_3x4 => exact fun _ _ _ h => h
        case hy4_3x4 => exact Or.inl ⟨by rfl, by intro w hSw; clear hSw; go_simp; try with_reducible rfl⟩
        try simp only [Act.put, List.setIfInBounds_toArray, List.set_cons_zero, List.set_cons_succ]
        refine wpAnyH_take (i := 4) (oi := ?oi4_4x5) (v := ?v4_4x5) ?hi4_4x5 (by kernel_rfl) (by kernel_rfl) (by kernel_rfl) ?hq4_4x5 ?hy4_4x5 hHeld ?rest4_4x5
        case hi4_4x5 => ((try simp only [List.getElem?_toArray, List.getElem?_cons_succ, List.getElem?_cons_zero]); (try rfl))
        case hq4_4x5 => exact fun _ _ _ h => h
        case hy4_4x5 => exact Or.inl ⟨by rfl, by intro w hSw; clear hSw; go_simp; try with_reducible rfl⟩
        try simp only [Act.put, List.setIfInBounds_toArray, List.set_cons_zero, List.set_cons_succ]
        refine wpAnyH_take (i := 5) (oi := ?oi4_5x6) (v := ?v4_5x6) ?hi4_5x6 (by kernel_rfl) (by kernel_rfl) (by kernel_rfl) ?hq4_5x6 ?hy4_5x6 hHeld ?rest4_5x6
        case hi4_5x6 => ((try simp only [List.getElem?_toArray, List.getElem?_cons_succ, List.getElem?_cons_zero]); (try rfl))
        case hq4_5x6 => exact fun _ _ _ h => h
        case hy4_5x6 => exact Or.inl ⟨by rfl, by intro w hSw; clear hSw; go_simp; try with_reducible rfl⟩
        try simp only [Act.put, List.setIfInBounds_toArray, List.set_cons_zero, List.set_cons_succ]
        refine wpAnyH_take (i := 6) (oi := ?oi4_6x7) (v := ?v4_6x7) ?hi4_6x7 (by kernel_rfl) (by kernel_rfl) (by kernel_rfl) ?hq4_6x7 ?hy4_6x7 hHeld ?rest4_6x7
        case hi4_6x7 => ((try simp only [List.getElem?_toArray, List.getElem?_cons_succ, List.getElem?_cons_zero]); (try rfl))
        case hq4_6x7 => exact fun _ _ _ h => h
        case hy4_6x7 => exact Or.inl ⟨by rfl, by intro w hSw; obtain ⟨_, hc⟩ := hSw; have q := hc.cell; clear hc; go_simp; try with_reducible rfl⟩
        try simp only [Act.put, List.setIfInBounds_toArray, List.set_cons_zero, List.set_cons_succ]
        refine wpAnyH_ready (rs := [7]) (by kernel_rfl) (by simp) ?_
        refine AllReadyH.cons rfl (fun K' hK => ?_) AllReadyH.nil
        have H1 := Lib.hid hHeld
        clear hHeld
        go_simp
        refine (TR.out _).mono ?_
        rintro e wx ⟨rfl, hwx⟩
        replace H1 := Lib.hid (H1.out.elim fun o h => (show ∃ o, CS w bc (oc + k) s o wx from ⟨o, h.call (by rcases hwx with rfl | rfl; exact Below.refl _ _; exact (Below.refl _ _).drew)⟩))
        have HXc : Hid (RX w o wx) := Lib.hid (by rcases hwx with rfl | rfl; exact HX.out; exact HX.out.call (Below.refl _ _).drew)
        clear hwx HX TR
        refine hK.out _ _ H1.out (fun hHeld => ?_)
        clear hK H1
        try simp only [Act.put, List.setIfInBounds_toArray, List.set_cons_zero, List.set_cons_succ]
        refine wpAnyH_ready (rs := [8]) (by kernel_rfl) (by simp) ?_
        refine AllReadyH.cons rfl (fun K' hK => ?_) AllReadyH.nil
        have H1 := Lib.hid hHeld
        clear hHeld
        go_simp
        refine (RDK.out _ HXc.out).mono ?_
        rintro e wx ⟨h, ho⟩
        rcases h with ⟨o', h, rfl, hr⟩ | ⟨h, rfl⟩
        rotate_left
        · have F := Lib.hid (NO.out h)
          exact ⟨rfl, Or.inr ⟨F.out, rfl⟩, HXc.out.below.trans (ho.below.mono (Nat.le_succ _))⟩
        have HXd := Lib.hid (HXc.out.read hr ho)
        have F := Lib.hid (YES.out o' h)
        replace H1 := Lib.hid (H1.out.elim fun _ h => (show ∃ o, CS w bc (oc + k) s o wx from ⟨o', HXd.out, (h.cell_only ho)⟩))
        clear HXc hr ho h RDK NO YES
        refine hK.out _ _ H1.out (fun hHeld => ?_)
        clear hK H1
        try simp only [Act.put, List.setIfInBounds_toArray, List.set_cons_zero, List.set_cons_succ]
        refine wpAnyH_done (by kernel_rfl) ?_ _
        clear hHeld
        go_wp2_with fail
        go_roundw
        case rel => exact ⟨k + 1, by omega, by go_num, Lib.hid ⟨o', F.out, HXd.out⟩⟩
        case measure => simp [intOf]; omega
      · have qo' : wr.cell? ⟨bo, oo + k, none⟩ = some (.int .i64 (5 : Int)) := qo
        have RDK := Lib.hid (fun w' (h : RX w o w') => rd5_any S (w.heap.size + 1) o w' (RD.out w' h).1 h3)
        clear qo RD
        go_upto_region 7 with fail
        refine wp_region_held_drew (S := fun wx => ∃ o, CS w bc (oc + k) s o wx) (by kernel_rfl) ⟨_, CSd.out⟩ (fun hHeld => ?_)
        have HX : Hid (RX w o wr.drew) := Lib.hid CSd.out.rx
        clear CSd
        refine wpAnyH_take (i := 0) (oi := ?oi5_0x1) (v := ?v5_0x1) ?hi5_0x1 (by kernel_rfl) (by kernel_rfl) (by kernel_rfl) ?hq5_0x1 ?hy5_0x1 hHeld ?rest5_0x1
        case hi5_0x1 => ((try simp only [List.getElem?_toArray, List.getElem?_cons_succ, List.getElem?_cons_zero]); (try rfl))
        case hq5_0x1 => exact fun _ _ _ h => h
        case hy5_0x1 => exact Or.inl ⟨by rfl, by intro w hSw; clear hSw; go_simp; try with_reducible rfl⟩
        try simp only [Act.put, List.setIfInBounds_toArray, List.set_cons_zero, List.set_cons_succ]
        refine wpAnyH_take (i := 1) (oi := ?oi5_1x2) (v := ?v5_1x2) ?hi5_1x2 (by kernel_rfl) (by kernel_rfl) (by kernel_rfl) ?hq5_1x2 ?hy5_1x2 hHeld ?rest5_1x2
        case hi5_1x2 => ((try simp only [List.getElem?_toArray, List.getElem?_cons_succ, List.getElem?_cons_zero]); (try rfl))
        case hq5_1x2 => exact fun _ _ _ h => h
        case hy5_1x2 => exact Or.inl ⟨by rfl, by intro w hSw; clear hSw; go_simp; try with_reducible rfl⟩
        try simp only [Act.put, List.setIfInBounds_toArray, List.set_cons_zero, List.set_cons_succ]
        refine wpAnyH_take (i := 2) (oi := ?oi5_2x3) (v := ?v5_2x3) ?hi5_2x3 (by kernel_rfl) (by kernel_rfl) (by kernel_rfl) ?hq5_2x3 ?hy5_2x3 hHeld ?rest5_2x3
        case hi5_2x3 => ((try simp only [List.getElem?_toArray, List.getElem?_cons_succ, List.getElem?_cons_zero]); (try rfl))
        case hq5_2x3 => exact fun _ _ _ h => h
        case hy5_2x3 => exact Or.inl ⟨by rfl, by intro w hSw; obtain ⟨_, hc⟩ := hSw; have q := hc.rx.fn.cell (j := 5) (v := _) rfl; clear hc; go_simp; try with_reducible rfl⟩
        try simp only [Act.put, List.setIfInBounds_toArray, List.set_cons_zero, List.set_cons_succ]
        refine wpAnyH_take (i := 3) (oi := ?oi5_3x4) (v := ?v5_3x4) ?hi5_3x4 (by kernel_rfl) (by kernel_rfl) (by kernel_rfl) ?hq5_3x4 ?hy5_3x4 hHeld ?rest5_3x4
        case hi5_3x4 => ((try simp only [List.getElem?_toArray, List.getElem?_cons_succ, List.getElem?_cons_zero]); (try rfl))
        case hq5_3x4 => exact fun _ _ _ h => h
        case hy5_3x4 => exact Or.inl ⟨by rfl, by intro w hSw; clear hSw; go_simp; try with_reducible rfl⟩
        try simp only [Act.put, List.setIfInBounds_toArray, List.set_cons_zero, List.set_cons_succ]
        refine wpAnyH_take (i := 4) (oi := ?oi5_4x5) (v := ?v5_4x5) ?hi5_4x5 (by kernel_rfl) (by kernel_rfl) (by kernel_rfl) ?hq5_4x5 ?hy5_4x5 hHeld ?rest5_4x5
        case hi5_4x5 => ((try simp only [List.getElem?_toArray, List.getElem?_cons_succ, List.getElem?_cons_zero]); (try rfl))
        case hq5_4x5 => exact fun _ _ _ h => h
        case hy5_4x5 => exact Or.inl ⟨by rfl, by intro w hSw; clear hSw; go_simp; try with_reducible rfl⟩
        try simp only [Act.put, List.setIfInBounds_toArray, List.set_cons_zero, List.set_cons_succ]
        refine wpAnyH_take (i := 5) (oi := ?oi5_5x6) (v := ?v5_5x6) ?hi5_5x6 (by kernel_rfl) (by kernel_rfl) (by kernel_rfl) ?hq5_5x6 ?hy5_5x6 hHeld ?rest5_5x6
        case hi5_5x6 => ((try simp only [List.getElem?_toArray, List.getElem?_cons_succ, List.getElem?_cons_zero]); (try rfl))
        case hq5_5x6 => exact fun _ _ _ h => h
        case hy5_5x6 => exact Or.inl ⟨by rfl, by intro w hSw; clear hSw; go_simp; try with_reducible rfl⟩
        try simp only [Act.put, List.setIfInBounds_toArray, List.set_cons_zero, List.set_cons_succ]
        refine wpAnyH_take (i := 6) (oi := ?oi5_6x7) (v := ?v5_6x7) ?hi5_6x7 (by kernel_rfl) (by kernel_rfl) (by kernel_rfl) ?hq5_6x7 ?hy5_6x7 hHeld ?rest5_6x7
        case hi5_6x7 => ((try simp only [List.getElem?_toArray, List.getElem?_cons_succ, List.getElem?_cons_zero]); (try rfl))
        case hq5_6x7 => exact fun _ _ _ h => h
        case hy5_6x7 => exact Or.inl ⟨by rfl, by intro w hSw; obtain ⟨_, hc⟩ := hSw; have q := hc.cell; clear hc; go_simp; try with_reducible rfl⟩
        try simp only [Act.put, List.setIfInBounds_toArray, List.set_cons_zero, List.set_cons_succ]
        refine wpAnyH_ready (rs := [7]) (by kernel_rfl) (by simp) ?_
        refine AllReadyH.cons rfl (fun K' hK => ?_) AllReadyH.nil
        have H1 := Lib.hid hHeld
        clear hHeld
        go_simp
        refine (TR.out _).mono ?_
        rintro e wx ⟨rfl, hwx⟩
        replace H1 := Lib.hid (H1.out.elim fun o h => (show ∃ o, CS w bc (oc + k) s o wx from ⟨o, h.call (by rcases hwx with rfl | rfl; exact Below.refl _ _; exact (Below.refl _ _).drew)⟩))
        have HXc : Hid (RX w o wx) := Lib.hid (by rcases hwx with rfl | rfl; exact HX.out; exact HX.out.call (Below.refl _ _).drew)
        clear hwx HX TR
        refine hK.out _ _ H1.out (fun hHeld => ?_)
        clear hK H1
        try simp only [Act.put, List.setIfInBounds_toArray, List.set_cons_zero, List.set_cons_succ]
        refine wpAnyH_ready (rs := [8]) (by kernel_rfl) (by simp) ?_
        refine AllReadyH.cons rfl (fun K' hK => ?_) AllReadyH.nil
        have H1 := Lib.hid hHeld
        clear hHeld
        go_simp
        refine (RDK.out _ HXc.out).mono ?_
        rintro e wx ⟨h, ho⟩
        rcases h with ⟨o', h, rfl, hr⟩ | ⟨h, rfl⟩
        rotate_left
        · have F := Lib.hid (NO.out h)
          exact ⟨rfl, Or.inr ⟨F.out, rfl⟩, HXc.out.below.trans (ho.below.mono (Nat.le_succ _))⟩
        have HXd := Lib.hid (HXc.out.read hr ho)
        have F := Lib.hid (YES.out o' h)
        replace H1 := Lib.hid (H1.out.elim fun _ h => (show ∃ o, CS w bc (oc + k) s o wx from ⟨o', HXd.out, (h.cell_only ho)⟩))
        clear HXc hr ho h RDK NO YES
        refine hK.out _ _ H1.out (fun hHeld => ?_)
        clear hK H1
        try simp only [Act.put, List.setIfInBounds_toArray, List.set_cons_zero, List.set_cons_succ]
        refine wpAnyH_done (by kernel_rfl) ?_ _
        clear hHeld
        go_wp2_with fail
        go_roundw
        case rel => exact ⟨k + 1, by omega, by go_num, Lib.hid ⟨o', F.out, HXd.out⟩⟩
        case measure => simp [intOf]; omega
      · have qo' : wr.cell? ⟨bo, oo + k, none⟩ = some (.int .i64 (6 : Int)) := qo
        have RDK := Lib.hid (fun w' (h : RX w o w') => rd6_any S (w.heap.size + 1) o w' (RD.out w' h).1 (RD.out w' h).2 h2)
        clear qo RD
        go_upto_region 7 with fail
        refine wp_region_held_drew (S := fun wx => ∃ o, CS w bc (oc + k) s o wx) (by kernel_rfl) ⟨_, CSd.out⟩ (fun hHeld => ?_)
        have HX : Hid (RX w o wr.drew) := Lib.hid CSd.out.rx
        clear CSd
        refine wpAnyH_take (i := 0) (oi := ?oi6_0x1) (v := ?v6_0x1) ?hi6_0x1 (by kernel_rfl) (by kernel_rfl) (by kernel_rfl) ?hq6_0x1 ?hy6_0x1 hHeld ?rest6_0x1
        case hi6_0x1 => ((try simp only [List.getElem?_toArray, List.getElem?_cons_succ, List.getElem?_cons_zero]); (try rfl))
        case hq6_0x1 => exact fun _ _ _ h => h
        case hy6_0x1 => exact Or.inl ⟨by rfl, by intro w hSw; clear hSw; go_simp; try with_reducible rfl⟩
        try simp only [Act.put, List.setIfInBounds_toArray, List.set_cons_zero, List.set_cons_succ]
        refine wpAnyH_take (i := 1) (oi := ?oi6_1x2) (v := ?v6_1x2) ?hi6_1x2 (by kernel_rfl) (by kernel_rfl) (by kernel_rfl) ?hq6_1x2 ?hy6_1x2 hHeld ?rest6_1x2
        case hi6_1x2 => ((try simp only [List.getElem?_toArray, List.getElem?_cons_succ, List.getElem?_cons_zero]); (try rfl))
        case hq6_1x2 => exact fun _ _ _ h => h
        case hy6_1x2 => exact Or.inl ⟨by rfl, by intro w hSw; clear hSw; go_simp; try with_reducible rfl⟩
        try simp only [Act.put, List.setIfInBounds_toArray, List.set_cons_zero, List.set_cons_succ]
        refine wpAnyH_take (i := 2) (oi := ?oi6_2x3) (v := ?v6_2x3) ?hi6_2x3 (by kernel_rfl) (by kernel_rfl) (by kernel_rfl) ?hq6_2x3 ?hy6_2x3 hHeld ?rest6_2x3
        case hi6_2x3 => ((try simp only [List.getElem?_toArray, List.getElem?_cons_succ, List.getElem?_cons_zero]); (try rfl))
        case hq6_2x3 => exact fun _ _ _ h => h
        case hy6_2x3 => exact Or.inl ⟨by rfl, by intro w hSw; obtain ⟨_, hc⟩ := hSw; have q := hc.rx.fn.cell (j := 6) (v := _) rfl; clear hc; go_simp; try with_reducible rfl⟩
        try simp only [Act.put, List.setIfInBounds_toArray, List.set_cons_zero, List.set_cons_succ]
        refine wpAnyH_take (i := 3) (oi := ?oi6_3x4) (v := ?v6_3x4) ?hi6_3x4 (by kernel_rfl) (by kernel_rfl) (by kernel_rfl) ?hq6_3x4 ?hy6_3x4 hHeld ?rest6_3x4
        case hi6_3x4 => ((try simp only [List.getElem?_toArray, List.getElem?_cons_succ, List.getElem?_cons_zero]); (try rfl))
        case hq6_3x4 => exact fun _ _ _ h => h
        case hy6_3x4 => exact Or.inl ⟨by rfl, by intro w hSw; clear hSw; go_simp; try with_reducible rfl⟩
        try simp only [Act.put, List.setIfInBounds_toArray, List.set_cons_zero, List.set_cons_succ]
        refine wpAnyH_take (i := 4) (oi := ?oi6_4x5) (v := ?v6_4x5) ?hi6_4x5 (by kernel_rfl) (by kernel_rfl) (by kernel_rfl) ?hq6_4x5 ?hy6_4x5 hHeld ?rest6_4x5
        case hi6_4x5 => ((try simp only [List.getElem?_toArray, List.getElem?_cons_succ, List.getElem?_cons_zero]); (try rfl))
        case hq6_4x5 => exact fun _ _ _ h => h
        case hy6_4x5 => exact Or.inl ⟨by rfl, by intro w hSw; clear hSw; go_simp; try with_reducible rfl⟩
        try simp only [Act.put, List.setIfInBounds_toArray, List.set_cons_zero, List.set_cons_succ]
        refine wpAnyH_take (i := 5) (oi := ?oi6_5x6) (v := ?v6_5x6) ?hi6_5x6 (by kernel_rfl) (by kernel_rfl) (by kernel_rfl) ?hq6_5x6 ?hy6_5x6 hHeld ?rest6_5x6
        case hi6_5x6 => ((try simp only [List.getElem?_toArray, List.getElem?_cons_succ, List.getElem?_cons_zero]); (try rfl))
        case hq6_5x6 => exact fun _ _ _ h => h
        case hy6_5x6 => exact Or.inl ⟨by rfl, by intro w hSw; clear hSw; go_simp; try with_reducible rfl⟩
        try simp only [Act.put, List.setIfInBounds_toArray, List.set_cons_zero, List.set_cons_succ]
        refine wpAnyH_take (i := 6) (oi := ?oi6_6x7) (v := ?v6_6x7) ?hi6_6x7 (by kernel_rfl) (by kernel_rfl) (by kernel_rfl) ?hq6_6x7 ?hy6_6x7 hHeld ?rest6_6x7
        case hi6_6x7 => ((try simp only [List.getElem?_toArray, List.getElem?_cons_succ, List.getElem?_cons_zero]); (try rfl))
        case hq6_6x7 => exact fun _ _ _ h => h
        case hy6_6x7 => exact Or.inl ⟨by rfl, by intro w hSw; obtain ⟨_, hc⟩ := hSw; have q := hc.cell; clear hc; go_simp; try with_reducible rfl⟩
        try simp only [Act.put, List.setIfInBounds_toArray, List.set_cons_zero, List.set_cons_succ]
        refine wpAnyH_ready (rs := [7]) (by kernel_rfl) (by simp) ?_
        refine AllReadyH.cons rfl (fun K' hK => ?_) AllReadyH.nil
        have H1 := Lib.hid hHeld
        clear hHeld
        go_simp
        refine (TR.out _).mono ?_
        rintro e wx ⟨rfl, hwx⟩
        replace H1 := Lib.hid (H1.out.elim fun o h => (show ∃ o, CS w bc (oc + k) s o wx from ⟨o, h.call (by rcases hwx with rfl | rfl; exact Below.refl _ _; exact (Below.refl _ _).drew)⟩))
        have HXc : Hid (RX w o wx) := Lib.hid (by rcases hwx with rfl | rfl; exact HX.out; exact HX.out.call (Below.refl _ _).drew)
        clear hwx HX TR
        refine hK.out _ _ H1.out (fun hHeld => ?_)
        clear hK H1
        try simp only [Act.put, List.setIfInBounds_toArray, List.set_cons_zero, List.set_cons_succ]
        refine wpAnyH_ready (rs := [8]) (by kernel_rfl) (by simp) ?_
        refine AllReadyH.cons rfl (fun K' hK => ?_) AllReadyH.nil
        have H1 := Lib.hid hHeld
        clear hHeld
        go_simp
        refine (RDK.out _ HXc.out).mono ?_
        rintro e wx ⟨h, ho⟩
        rcases h with ⟨o', h, rfl, hr⟩ | ⟨h, rfl⟩
        rotate_left
        · have F := Lib.hid (NO.out h)
          exact ⟨rfl, Or.inr ⟨F.out, rfl⟩, HXc.out.below.trans (ho.below.mono (Nat.le_succ _))⟩
        have HXd := Lib.hid (HXc.out.read hr ho)
        have F := Lib.hid (YES.out o' h)
        replace H1 := Lib.hid (H1.out.elim fun _ h => (show ∃ o, CS w bc (oc + k) s o wx from ⟨o', HXd.out, (h.cell_only ho)⟩))
        clear HXc hr ho h RDK NO YES
        refine hK.out _ _ H1.out (fun hHeld => ?_)
        clear hK H1
        try simp only [Act.put, List.setIfInBounds_toArray, List.set_cons_zero, List.set_cons_succ]
        refine wpAnyH_done (by kernel_rfl) ?_ _
        clear hHeld
        go_wp2_with fail
        go_roundw
        case rel => exact ⟨k + 1, by omega, by go_num, Lib.hid ⟨o', F.out, HXd.out⟩⟩
        case measure => simp [intOf]; omega
      · have qo' : wr.cell? ⟨bo, oo + k, none⟩ = some (.int .i64 (7 : Int)) := qo
        have RDK := Lib.hid (fun w' (h : RX w o w') => rd7_any S (w.heap.size + 1) o w' (RD.out w' h).1 h3)
        clear qo RD
        go_upto_region 7 with fail
        refine wp_region_held_drew (S := fun wx => ∃ o, CS w bc (oc + k) s o wx) (by kernel_rfl) ⟨_, CSd.out⟩ (fun hHeld => ?_)
        have HX : Hid (RX w o wr.drew) := Lib.hid CSd.out.rx
        clear CSd
        refine wpAnyH_take (i := 0) (oi := ?oi7_0x1) (v := ?v7_0x1) ?hi7_0x1 (by kernel_rfl) (by kernel_rfl) (by kernel_rfl) ?hq7_0x1 ?hy7_0x1 hHeld ?rest7_0x1
        case hi7_0x1 => ((try simp only [List.getElem?_toArray, List.getElem?_cons_succ, List.getElem?_cons_zero]); (try rfl))
        case hq7_0x1 => exact fun _ _ _ h => h
        case hy7_0x1 => exact Or.inl ⟨by rfl, by intro w hSw; clear hSw; go_simp; try with_reducible rfl⟩
        try simp only [Act.put, List.setIfInBounds_toArray, List.set_cons_zero, List.set_cons_succ]
        refine wpAnyH_take (i := 1) (oi := ?oi7_1x2) (v := ?v7_1x2) ?hi7_1x2 (by kernel_rfl) (by kernel_rfl) (by kernel_rfl) ?hq7_1x2 ?hy7_1x2 hHeld ?rest7_1x2
        case hi7_1x2 => ((try simp only [List.getElem?_toArray, List.getElem?_cons_succ, List.getElem?_cons_zero]); (try rfl))
        case hq7_1x2 => exact fun _ _ _ h => h
        case hy7_1x2 => exact Or.inl ⟨by rfl, by intro w hSw; clear hSw; go_simp; try with_reducible rfl⟩
        try simp only [Act.put, List.setIfInBounds_toArray, List.set_cons_zero, List.set_cons_succ]
        refine wpAnyH_take (i := 2) (oi := ?oi7_2x3) (v := ?v7_2x3) ?hi7_2x3 (by kernel_rfl) (by kernel_rfl) (by kernel_rfl) ?hq7_2x3 ?hy7_2x3 hHeld ?rest7_2x3
        case hi7_2x3 => ((try simp only [List.getElem?_toArray, List.getElem?_cons_succ, List.getElem?_cons_zero]); (try rfl))
        case hq7_2x3 => exact fun _ _ _ h => h
        case hy7_2x3 => exact Or.inl ⟨by rfl, by intro w hSw; obtain ⟨_, hc⟩ := hSw; have q := hc.rx.fn.cell (j := 7) (v := _) rfl; clear hc; go_simp; try with_reducible rfl⟩
        try simp only [Act.put, List.setIfInBounds_toArray, List.set_cons_zero, List.set_cons_succ]
        refine wpAnyH_take (i := 3) (oi := ?oi7_3x4) (v := ?v7_3x4) ?hi7_3x4 (by kernel_rfl) (by kernel_rfl) (by kernel_rfl) ?hq7_3x4 ?hy7_3x4 hHeld ?rest7_3x4
        case hi7_3x4 => ((try simp only [List.getElem?_toArray, List.getElem?_cons_succ, List.getElem?_cons_zero]); (try rfl))
        case hq7_3x4 => exact fun _ _ _ h => h
        case hy7_3x4 => exact Or.inl ⟨by rfl, by intro w hSw; clear hSw; go_simp; try with_reducible rfl⟩
        try simp only [Act.put, List.setIfInBounds_toArray, List.set_cons_zero, List.set_cons_succ]
        refine wpAnyH_take (i := 4) (oi := ?oi7_4x5) (v := ?v7_4x5) ?hi7_4x5 (by kernel_rfl) (by kernel_rfl) (by kernel_rfl) ?hq7_4x5 ?hy7_4x5 hHeld ?rest7_4x5
        case hi7_4x5 => ((try simp only [List.getElem?_toArray, List.getElem?_cons_succ, List.getElem?_cons_zero]); (try rfl))
        case hq7_4x5 => exact fun _ _ _ h => h
        case hy7_4x5 => exact Or.inl ⟨by rfl, by intro w hSw; clear hSw; go_simp; try with_reducible rfl⟩
        try simp only [Act.put, List.setIfInBounds_toArray, List.set_cons_zero, List.set_cons_succ]
        refine wpAnyH_take (i := 5) (oi := ?oi7_5x6) (v := ?v7_5x6) ?hi7_5x6 (by kernel_rfl) (by kernel_rfl) (by kernel_rfl) ?hq7_5x6 ?hy7_5x6 hHeld ?rest7_5x6
        case hi7_5x6 => ((try simp only [List.getElem?_toArray, List.getElem?_cons_succ, List.getElem?_cons_zero]); (try rfl))
        case hq7_5x6 => exact fun _ _ _ h => h
        case hy7_5x6 => exact Or.inl ⟨by rfl, by intro w hSw; clear hSw; go_simp; try with_reducible rfl⟩
        try simp only [Act.put, List.setIfInBounds_toArray, List.set_cons_zero, List.set_cons_succ]
        refine wpAnyH_take (i := 6) (oi := ?oi7_6x7) (v := ?v7_6x7) ?hi7_6x7 (by kernel_rfl) (by kernel_rfl) (by kernel_rfl) ?hq7_6x7 ?hy7_6x7 hHeld ?rest7_6x7
        case hi7_6x7 => ((try simp only [List.getElem?_toArray, List.getElem?_cons_succ, List.getElem?_cons_zero]); (try rfl))
        case hq7_6x7 => exact fun _ _ _ h => h
        case hy7_6x7 => exact Or.inl ⟨by rfl, by intro w hSw; obtain ⟨_, hc⟩ := hSw; have q := hc.cell; clear hc; go_simp; try with_reducible rfl⟩
        try simp only [Act.put, List.setIfInBounds_toArray, List.set_cons_zero, List.set_cons_succ]
        refine wpAnyH_ready (rs := [7]) (by kernel_rfl) (by simp) ?_
        refine AllReadyH.cons rfl (fun K' hK => ?_) AllReadyH.nil
        have H1 := Lib.hid hHeld
        clear hHeld
        go_simp
        refine (TR.out _).mono ?_
        rintro e wx ⟨rfl, hwx⟩
        replace H1 := Lib.hid (H1.out.elim fun o h => (show ∃ o, CS w bc (oc + k) s o wx from ⟨o, h.call (by rcases hwx with rfl | rfl; exact Below.refl _ _; exact (Below.refl _ _).drew)⟩))
        have HXc : Hid (RX w o wx) := Lib.hid (by rcases hwx with rfl | rfl; exact HX.out; exact HX.out.call (Below.refl _ _).drew)
        clear hwx HX TR
        refine hK.out _ _ H1.out (fun hHeld => ?_)
        clear hK H1
        try simp only [Act.put, List.setIfInBounds_toArray, List.set_cons_zero, List.set_cons_succ]
        refine wpAnyH_ready (rs := [8]) (by kernel_rfl) (by simp) ?_
        refine AllReadyH.cons rfl (fun K' hK => ?_) AllReadyH.nil
        have H1 := Lib.hid hHeld
        clear hHeld
        go_simp
        refine (RDK.out _ HXc.out).mono ?_
        rintro e wx ⟨h, ho⟩
        rcases h with ⟨o', h, rfl, hr⟩ | ⟨h, rfl⟩
        rotate_left
        · have F := Lib.hid (NO.out h)
          exact ⟨rfl, Or.inr ⟨F.out, rfl⟩, HXc.out.below.trans (ho.below.mono (Nat.le_succ _))⟩
        have HXd := Lib.hid (HXc.out.read hr ho)
        have F := Lib.hid (YES.out o' h)
        replace H1 := Lib.hid (H1.out.elim fun _ h => (show ∃ o, CS w bc (oc + k) s o wx from ⟨o', HXd.out, (h.cell_only ho)⟩))
        clear HXc hr ho h RDK NO YES
        refine hK.out _ _ H1.out (fun hHeld => ?_)
        clear hK H1
        try simp only [Act.put, List.setIfInBounds_toArray, List.set_cons_zero, List.set_cons_succ]
        refine wpAnyH_done (by kernel_rfl) ?_ _
        clear hHeld
        go_wp2_with fail
        go_roundw
        case rel => exact ⟨k + 1, by omega, by go_num, Lib.hid ⟨o', F.out, HXd.out⟩⟩
        case measure => simp [intOf]; omega
    · obtain rfl : k = m := by omega
      have i1 : ¬ (k : Int) < (k : Int) := by omega
      have FF := Lib.hid (show foldR L baseO = some o by have := FO.out; rwa [List.take_of_length_le (by rw [LL.out]; exact Nat.le_refl _)] at this)
      have bo := fold_ob FF.out base_ob LS.out
      have CK := Lib.hid (check_any o wr (HE.out _ HX0.out.below) bo.t0 bo.t1 bo.b0 bo.b1 bo.n1 bo.n2)
      have BO := Lib.hid bo
      have R := HX0.out.rd.row
      clear LS LK HC HO HE HM H8 HL FO bo
      go_wp2_with (refine wpList_load_mid rfl _ (.tmp 54) rfl (w.heap.size + 1) 0 rfl (obsC o) _ R Tryz.underlying33 rfl info8 ?_)
      refine CK.out.mono ?_
      rintro e w3 ⟨rfl, hb3⟩
      have HX3 := Lib.hid (HX0.out.call hb3)
      clear HX0 R CK hb3
      by_cases ok : okO o
      · have e0 : checkC o = 0 := if_pos ok
        have RR := Lib.hid (show rowR order (cells.map trimS) = some o by rw [EQ.out, FF.out]; exact if_pos ok)
        rw [e0]
        clear e0 ok EQ FF
        have R := HX3.out.rd.row
        have T := HX3.out.res.th
        have P := Lib.hid (HX3.out.res.sets (obsC o) rfl)
        have BE := Lib.hid (below_setCells w.heap.size (Nat.le_refl _) (obsC o) 0 w3 HX3.out.below)
        obtain ⟨w4, hw4⟩ : ∃ w4, w3.setCells w.heap.size 0 (obsC o) = w4 := ⟨_, rfl⟩
        rw [hw4] at P BE
        have HW4 := Lib.hid hw4
        have one : ((obsC o).toArray.all (·.oneCell')) = true := by simp [Value.oneCell']
        have ON := Lib.hid one
        clear hw4 one
        go_wp2_with fail
        refine (need_yes _).mono ?_
        rintro e w5 ⟨rfl, rfl⟩
        go_wp2_with (first | (refine wpList_load_mid rfl _ (.tmp 61) rfl (w.heap.size + 1) 0 rfl (obsC o) _ R Tryz.underlying33 rfl info8 ?_) | (refine wpList_store_mid rfl _ (.tmp 4) (.tmp 62) rfl w.heap.size 0 (obsC o).toArray rfl rfl T info8 ON.out ?_; rw [List.toList_toArray, HW4.out]))
        exact bodyPost_ret (ret_cell Tryz.results37 _ _ w.heap.size (obsC o) _ rfl P.out.row Tryz.underlying33 rfl info8) rfl ⟨Or.inl ⟨o, RR.out, rfl, BO.out⟩, BE.out⟩
      · have e0 : checkC o = 8 := if_neg ok
        have RR := Lib.hid (show rowR order (cells.map trimS) = none by rw [EQ.out, FF.out]; exact if_neg ok)
        rw [e0]
        clear e0 ok EQ FF
        go_wp2_with fail
        refine (need_no _).mono ?_
        rintro e w5 ⟨rfl, rfl⟩
        exact ⟨rfl, Or.inr ⟨RR.out, rfl⟩, HX3.out.below⟩
end Vw
end Go.Proofs.YtaghilgfldaaiaaGreatDoor
/-
  The walks of magText and fields of psv.
-/
namespace Go.Proofs.YtaghilgfldaaiaaGreatDoor
namespace Vw
open Go.RowKit Lw Go.Proofs.YtaghilgfldaaiaaGreatDoor.Ap Go.Proofs.YtaghilgfldaaiaaGreatDoor.Vp Go.Proofs.YtaghilgfldaaiaaGreatDoor.Op Go.Proofs.YtaghilgfldaaiaaGreatDoor.Ow Go.Proofs.YtaghilgfldaaiaaGreatDoor.Mp Go.Proofs.YtaghilgfldaaiaaGreatDoor.At

set_option maxRecDepth 100000 in
set_option maxHeartbeats 8000000 in
theorem vmag_any (m : Int) (w : World) (hT : Gt.Tab w) (h0 : -999 ≤ m) (h1 : m ≤ 9999) :
    Calls Tryz.prog 72 #[.int .i64 m] w fun e w' => e = .returned (.string (stL (Vp.magF m))) ∧ Below w.heap.size w w' := by
  by_cases h9 : m = 9999
  · subst h9
    go_enter Tryz.func72, Tryz.ntmps72
    go_wp2_with fail
    go_ret
    exact ⟨rfl, Below.refl _ _⟩
  have HF := Lib.hid (show Vp.magF m = magB m from if_neg h9)
  have c9 : (m == 9999) = false := beq_eq_false_iff_ne.2 h9
  have HB := Lib.hid (show magB m = (if m < 0 then [45] else []) ++ Lib.itoa ((m.natAbs / 100 : Nat) : Int) ++ [46] ++ [dg (m.natAbs / 10 % 10), dg (m.natAbs % 10)] from rfl)
  have em : max m (-m) = (m.natAbs : Int) := by omega
  have nb : m.natAbs ≤ 9999 := by omega
  generalize m.natAbs = n at *
  have i2 : ((n / 10 % 10 : Nat) : Int) = (n : Int) / 10 % 10 := by omega
  have i3 : ((n % 10 : Nat) : Int) = (n : Int) % 10 := by omega
  have i1 : ((n / 100 : Nat) : Int) = (n : Int) / 100 := by omega
  have I1 := Lib.hid (fun w' (h : Gt.Tab w') => itoa_any ((n / 100 : Nat) : Int) w' h (by omega) (by omega))
  have I2 := Lib.hid (fun w' (h : Gt.Tab w') => itoa_any ((n / 10 % 10 : Nat) : Int) w' h (by omega) (by omega))
  have I3 := Lib.hid (fun w' (h : Gt.Tab w') => itoa_any ((n % 10 : Nat) : Int) w' h (by omega) (by omega))
  rw [itoa_dg _ (Nat.mod_lt _ (by omega))] at I2 I3
  have l1 := Lib.itoa_length_le ((n / 100 : Nat) : Int) (by omega) (by omega)
  rw [i1] at I1 l1 HB
  rw [i2] at I2
  rw [i3] at I3
  clear i1 i2 i3 h9
  generalize Lib.itoa ((n : Int) / 100) = L at *
  generalize dg (n / 10 % 10) = x at *
  generalize dg (n % 10) = y at *
  have HT := Lib.hid hT
  clear hT
  go_enter Tryz.func72, Tryz.ntmps72
  go_wp2_with fail
  refine (I1.out _ HT.out).mono ?_
  rintro e w1 ⟨rfl, hb1⟩
  have HT1 := Lib.hid (HT.out.below hb1)
  clear I1
  go_wp2_with fail
  refine (I2.out _ HT1.out).mono ?_
  rintro e w2 ⟨rfl, hb2⟩
  have HT2 := Lib.hid (HT1.out.below hb2)
  have hb2 := below_then hb1 hb2
  clear I2 hb1 HT1
  go_wp2_with fail
  refine (I3.out _ HT2.out).mono ?_
  rintro e w3 ⟨rfl, hb3⟩
  have hb3 := below_then hb2 hb3
  clear I3 hb2 HT2
  by_cases hm : m < 0
  · rw [if_pos hm] at HB
    have E := Lib.hid (show Vp.magF m = [45] ++ (L ++ [46] ++ [x] ++ [y]) by rw [HF.out, HB.out]; simp)
    clear HF HB
    go_wp2_with fail
    go_ret
    have S1 : (⟨#[45]⟩ ++ ((⟨L.toArray⟩ : ByteArray) ++ ⟨#[46]⟩ ++ ⟨#[x]⟩ ++ ⟨#[y]⟩)) = stL ([45] ++ (L ++ [46] ++ [x] ++ [y])) := by
      apply ByteArray.ext
      simp [ByteArray.data_append, stL]
    exact ⟨by rw [E.out, ← S1]; rfl, hb3⟩
  · rw [if_neg hm, List.nil_append] at HB
    have E := Lib.hid (show Vp.magF m = L ++ [46] ++ [x] ++ [y] by rw [HF.out, HB.out]; simp)
    clear HF HB
    go_wp2_with fail
    go_ret
    have S1 : ((⟨L.toArray⟩ : ByteArray) ++ ⟨#[46]⟩ ++ ⟨#[x]⟩ ++ ⟨#[y]⟩) = stL (L ++ [46] ++ [x] ++ [y]) := by
      apply ByteArray.ext
      simp [ByteArray.data_append, stL]
    exact ⟨by rw [E.out, ← S1]; rfl, hb3⟩
end Vw
end Go.Proofs.YtaghilgfldaaiaaGreatDoor
/-
  The walk of fields of psv.
-/
namespace Go.Proofs.YtaghilgfldaaiaaGreatDoor
namespace Vw
open Go.RowKit Lw Go.Proofs.YtaghilgfldaaiaaGreatDoor.Ap Go.Proofs.YtaghilgfldaaiaaGreatDoor.Vp Go.Proofs.YtaghilgfldaaiaaGreatDoor.Op Go.Proofs.YtaghilgfldaaiaaGreatDoor.Ow Go.Proofs.YtaghilgfldaaiaaGreatDoor.Mp Go.Proofs.YtaghilgfldaaiaaGreatDoor.At

/-- Strings as values. -/
def strC (l : List ByteArray) : List Value := l.map Value.string
theorem strC_len (l : List ByteArray) : (strC l).length = l.length := by unfold strC; rw [List.length_map]
theorem str_one (l : List ByteArray) : ((strC l).toArray.all (·.oneCell')) = true := by
  rw [Array.all_eq_true]
  intro i hi
  simp only [strC, List.getElem_toArray, List.getElem_map]
  rfl
def zeroF : List ByteArray := [ByteArray.empty, ByteArray.empty, ByteArray.empty, ByteArray.empty, ByteArray.empty, ByteArray.empty, ByteArray.empty, ByteArray.empty]
def flV (l : List ByteArray) : Value := .agg (strC l).toArray
theorem infoF : (Tryz.prog.info? 69).map (·.size) = some 8 := by kernel_rfl
/-- What fields keeps. -/
structure FX (w0 : World) (o : Ob) (l : List ByteArray) (w : World) : Prop where
  bx : Rw w w0.heap.size (obsC o)
  rs : Rw w (w0.heap.size + 1) (strC l)
  len : l.length = 8
  below : Below w0.heap.size w0 w
  tab : Gt.Tab w
theorem FX.call {w0 w w' : World} {o : Ob} {l : List ByteArray} (h : FX w0 o l w) (hb : Below w.heap.size w w') : FX w0 o l w' := ⟨h.bx.call hb, h.rs.call hb, h.len, below_then h.below hb, h.tab.below hb⟩
theorem FX.done {w0 w : World} {o : Ob} {l0 : List ByteArray} (h : FX w0 o l0 w) (hT : Gt.Tab w0) (l : List ByteArray) (hl : l.length = 8) : FX w0 o l (w.setCells (w0.heap.size + 1) 0 (strC l)) := by
  have hb := below_setCells (w0.heap.size + 1) (Nat.le_succ _) (strC l) 0 w h.below
  exact ⟨h.bx.sets_apart (strC l) (Nat.ne_of_lt (Nat.lt_succ_self _)) 0, h.rs.sets (strC l) (by rw [strC_len, strC_len, hl, h.len]), hl, hb, hT.below hb⟩
theorem FX.new (w : World) (o : Ob) (hT : Gt.Tab w) : FX w o zeroF ((w.alloc (.cells (obsC o).toArray 33)).alloc (.cells (strC zeroF).toArray 69)) := by
  have a1 := (Below.refl w.heap.size w).alloc (Nat.le_refl _) (.cells (obsC o).toArray 33)
  have r1 := Rw.new w (obsC o) 33
  have e1 : (w.alloc (.cells (obsC o).toArray 33)).heap.size = w.heap.size + 1 := by simp
  generalize w.alloc (.cells (obsC o).toArray 33) = v1 at *
  have a2 := (Below.refl v1.heap.size v1).alloc (Nat.le_refl _) (.cells (strC zeroF).toArray 69)
  have r2 := Rw.new v1 (strC zeroF) 69
  rw [e1] at r2
  exact ⟨r1.call a2, r2, rfl, below_then a1 a2, hT.below (below_then a1 a2)⟩
theorem band_trim {m b : Int} (h : magP m b) : (⟨(Lib.trimB [UInt8.ofNat b.toNat] 32).toArray⟩ : ByteArray) = stL (bandF b) := by
  unfold bandF stL
  by_cases hb : b = 32
  · subst hb
    rw [if_pos rfl]
    decide
  · rw [if_neg hb]
    obtain ⟨b0, _, b2⟩ := Ow.band_u8 h
    have n : (UInt8.ofNat b.toNat == 32) = false := by
      apply beq_eq_false_iff_ne.2
      intro e
      have := congrArg UInt8.toNat e
      rw [UInt8.toNat_ofNat'] at this
      have e3 : (32 : UInt8).toNat = 32 := rfl
      rw [e3] at this
      omega
    congr 1
    unfold Lib.trimB Lib.trimLeftB Lib.trimRightB
    simp [n]
def FieldsPost (o : Ob) (w : World) (e : Ending) (w' : World) : Prop :=
  ((∃ T, okO o ∧ TextIs o.t 6 T 0 ∧ e = .returned (.tuple #[flV (fieldL o T), .int .i64 0])) ∨ (¬ okO o ∧ e = .returned (.tuple #[flV zeroF, .int .i64 8]))) ∧ Below w.heap.size w w'
set_option maxRecDepth 100000 in
set_option maxHeartbeats 16000000 in
theorem fields_bad (o : Ob) (w : World) (hT : Gt.Tab w) (hE : ES w) (hb : OB o) (no : ¬ okO o) : Calls Tryz.prog 35 #[obsV o] w (FieldsPost o w) := by
  have X0 := Lib.hid (FX.new w o hT)
  have HT0 := Lib.hid hT
  have C := Lib.hid (fun w' (h : ES w') => check_any o w' h hb.t0 hb.t1 hb.b0 hb.b1 hb.n1 hb.n2)
  rw [show checkC o = 8 from if_neg no] at C
  have HE := Lib.hid (hE.below X0.out.below)
  have NO := Lib.hid no
  clear hT hE hb no
  go_enter Tryz.func35, Tryz.ntmps35
  have R := X0.out.bx.row
  go_wp2_with (refine wpList_load_mid rfl _ (.tmp 1) rfl w.heap.size 0 rfl (obsC o) _ R Tryz.underlying33 rfl info8 ?_)
  refine (C.out _ HE.out).mono ?_
  rintro e w1 ⟨rfl, hb⟩
  have X1 := Lib.hid (X0.out.call hb)
  clear hb X0 C HE R
  have TH := X1.out.rs.th
  have HY := Lib.hid (X1.out.done HT0.out zeroF rfl)
  obtain ⟨w2, hw2⟩ : ∃ w2, w1.setCells (w.heap.size + 1) 0 (strC zeroF) = w2 := ⟨_, rfl⟩
  rw [hw2] at HY
  have HW2 := Lib.hid hw2
  clear hw2
  go_wp2_with (refine wpList_store_mid rfl _ (.tmp 2) (.tmp 14) rfl (w.heap.size + 1) 0 (strC zeroF).toArray rfl rfl TH infoF (str_one zeroF) ?_; rw [List.toList_toArray, HW2.out])
  exact bodyPost_ret (ret_cell_tmp Tryz.results35 _ _ (w.heap.size + 1) (strC zeroF) _ rfl HY.out.rs.row Tryz.underlying69 rfl infoF) rfl ⟨Or.inr ⟨NO.out, rfl⟩, HY.out.below⟩
set_option maxRecDepth 100000 in
set_option maxHeartbeats 16000000 in
theorem fields_ok (o : Ob) (w : World) (hT : Gt.Tab w) (hE : ES w) (hb : OB o) (ok : okO o) : Calls Tryz.prog 35 #[obsV o] w (FieldsPost o w) := by
  have X0 := Lib.hid (FX.new w o hT)
  have HT0 := Lib.hid hT
  have C := Lib.hid (fun w' (h : ES w') => check_any o w' h hb.t0 hb.t1 hb.b0 hb.b1 hb.n1 hb.n2)
  rw [show checkC o = 0 from if_pos ok] at C
  have TX := Lib.hid (fun w' (h : Gt.Tab w') => At.text_any o.t 6 w' h hb.t0 hb.t1)
  have HE := Lib.hid (hE.below X0.out.below)
  have OK := Lib.hid ok
  clear hT hE
  obtain ⟨ot, on, os, ow, or0, or1, od0, od1, og0, og1, om⟩ := ok
  have D1 := Lib.hid (fun w' (h : Gt.Tab w') => Gt.degtext_any o.ra 9 w' h (by omega) (by omega) (by omega) (by omega))
  have D2 := Lib.hid (fun w' (h : Gt.Tab w') => Gt.degtext_any o.dec 9 w' h (by omega) (by omega) (by omega) (by omega))
  have FI : Hid (∀ w' (h : Gt.Tab w'), Calls Tryz.prog 71 #[.int .i64 o.sg, .int .i64 10] w' fun e w2 => e = .returned (.string (stL (Lib.itoa o.sg))) ∧ Below w'.heap.size w' w2) := Lib.hid (fun w' h => (Tryz.strconv_FormatInt_10 o.sg (by omega) (by omega) w' h).mono fun _ _ ⟨x, k, os, y⟩ => ⟨x, by rw [y]; exact Gt.below_grow w' k os⟩)
  have mb : -999 ≤ o.mag ∧ o.mag ≤ 9999 := by
    by_cases h9 : o.mag = 9999
    · omega
    · have := mag_bd om h9
      omega
  have MG := Lib.hid (fun w' (h : Gt.Tab w') => vmag_any o.mag w' h mb.1 mb.2)
  have EB := Lib.hid (Ow.band_enc om)
  have TB : Hid (∀ w', Calls Tryz.prog 51 #[.string ⟨#[UInt8.ofNat o.band.toNat]⟩, .string ⟨#[32]⟩] w' fun e w2 => e = .returned (.string (stL (bandF o.band))) ∧ (w2 = w' ∨ w2 = w'.drew)) := Lib.hid (fun w' => (Tryz.strings_Trim_one ⟨#[UInt8.ofNat o.band.toNat]⟩ 32 (by decide) w' (by show (1 : Nat) ≤ _; omega)).mono fun _ _ ⟨x, y⟩ => ⟨by rw [x]; exact congrArg (fun z => Ending.returned (.string z)) (band_trim om), y⟩)
  have BB := Ow.band_u8 om
  obtain ⟨b0, b1, b2⟩ := BB
  clear ot on os ow or0 or1 od0 od1 og0 og1 om mb hb
  go_enter Tryz.func35, Tryz.ntmps35
  have R := X0.out.bx.row
  go_wp2_with (refine wpList_load_mid rfl _ (.tmp 1) rfl w.heap.size 0 rfl (obsC o) _ R Tryz.underlying33 rfl info8 ?_)
  refine (C.out _ HE.out).mono ?_
  rintro e w1 ⟨rfl, hb⟩
  have X1 := Lib.hid (X0.out.call hb)
  clear hb X0 C HE R
  have q := X1.out.bx.cell (j := 2) (v := _) rfl
  go_wp2_with fail
  clear q
  refine (TX.out _ X1.out.tab).mono ?_
  rintro e w2 ⟨T, c, rfl, hT, hb⟩
  obtain rfl : c = 0 := by
    have ot := OK.out.1
    unfold timeP at ot
    rcases hT with ⟨h, _, _⟩ | ⟨_, _, h, _, _⟩ | ⟨_, _, _, _, _, _, _, _, _, _, _, h⟩
    · omega
    · omega
    · exact h
  have HTX := Lib.hid hT
  have X2 := Lib.hid (X1.out.call hb)
  clear hb X1 TX hT
  have q := X2.out.bx.cell (j := 3) (v := _) rfl
  go_wp2_with fail
  clear q
  refine (D1.out _ X2.out.tab).mono ?_
  rintro e w3 ⟨rfl, hb⟩
  have X3 := Lib.hid (X2.out.call hb)
  clear hb X2 D1
  have q := X3.out.bx.cell (j := 4) (v := _) rfl
  go_wp2_with fail
  clear q
  refine (D2.out _ X3.out.tab).mono ?_
  rintro e w4 ⟨rfl, hb⟩
  have X4 := Lib.hid (X3.out.call hb)
  clear hb X3 D2
  have q := X4.out.bx.cell (j := 7) (v := _) rfl
  go_wp2_with fail
  clear q
  rw [EB.out]
  refine (TB.out _).mono ?_
  rintro e w5 ⟨rfl, hw⟩
  have X5 := Lib.hid (show FX w o zeroF w5 by rcases hw with rfl | rfl; exact X4.out; exact X4.out.call (Below.refl _ _).drew)
  clear hw X4 TB EB
  go_upto_region 14 with fail
  refine wp_region_held_drew (S := fun wx => ∃ l, FX w o l wx) (by kernel_rfl) ⟨_, X5.out.call (Below.refl _ _).drew⟩ (fun hHeld => ?_)
  have X6 : Hid (FX w o zeroF w5.drew) := Lib.hid (X5.out.call (Below.refl _ _).drew)
  clear X5
  refine wpAnyH_take (i := 0) (oi := ?oi0x1) (v := ?v0x1) ?hi0x1 (by kernel_rfl) (by kernel_rfl) (by kernel_rfl) ?hq0x1 ?hy0x1 hHeld ?rest0x1
  case hi0x1 => ((try simp only [List.getElem?_toArray, List.getElem?_cons_succ, List.getElem?_cons_zero]); (try rfl))
  case hq0x1 => exact fun _ _ _ h => h
  case hy0x1 => exact Or.inl ⟨by rfl, by intro w hSw; clear hSw; go_simp; try with_reducible rfl⟩
  try simp only [Act.put, List.setIfInBounds_toArray, List.set_cons_zero, List.set_cons_succ]
  refine wpAnyH_take (i := 1) (oi := ?oi1x2) (v := ?v1x2) ?hi1x2 (by kernel_rfl) (by kernel_rfl) (by kernel_rfl) ?hq1x2 ?hy1x2 hHeld ?rest1x2
  case hi1x2 => ((try simp only [List.getElem?_toArray, List.getElem?_cons_succ, List.getElem?_cons_zero]); (try rfl))
  case hq1x2 => exact fun _ _ _ h => h
  case hy1x2 => exact Or.inl ⟨by rfl, by intro w hSw; obtain ⟨_, hc⟩ := hSw; have q := hc.bx.cell (j := 0) (v := _) rfl; clear hc; go_simp; try with_reducible rfl⟩
  try simp only [Act.put, List.setIfInBounds_toArray, List.set_cons_zero, List.set_cons_succ]
  refine wpAnyH_take (i := 2) (oi := ?oi2x3) (v := ?v2x3) ?hi2x3 (by kernel_rfl) (by kernel_rfl) (by kernel_rfl) ?hq2x3 ?hy2x3 hHeld ?rest2x3
  case hi2x3 => ((try simp only [List.getElem?_toArray, List.getElem?_cons_succ, List.getElem?_cons_zero]); (try rfl))
  case hq2x3 => exact fun _ _ _ h => h
  case hy2x3 => exact Or.inl ⟨by rfl, by intro w hSw; clear hSw; go_simp; try with_reducible rfl⟩
  try simp only [Act.put, List.setIfInBounds_toArray, List.set_cons_zero, List.set_cons_succ]
  refine wpAnyH_take (i := 3) (oi := ?oi3x4) (v := ?v3x4) ?hi3x4 (by kernel_rfl) (by kernel_rfl) (by kernel_rfl) ?hq3x4 ?hy3x4 hHeld ?rest3x4
  case hi3x4 => ((try simp only [List.getElem?_toArray, List.getElem?_cons_succ, List.getElem?_cons_zero]); (try rfl))
  case hq3x4 => exact fun _ _ _ h => h
  case hy3x4 => exact Or.inl ⟨by rfl, by intro w hSw; obtain ⟨_, hc⟩ := hSw; have q := hc.bx.cell (j := 1) (v := _) rfl; clear hc; go_simp; try with_reducible rfl⟩
  try simp only [Act.put, List.setIfInBounds_toArray, List.set_cons_zero, List.set_cons_succ]
  refine wpAnyH_take (i := 4) (oi := ?oi4x5) (v := ?v4x5) ?hi4x5 (by kernel_rfl) (by kernel_rfl) (by kernel_rfl) ?hq4x5 ?hy4x5 hHeld ?rest4x5
  case hi4x5 => ((try simp only [List.getElem?_toArray, List.getElem?_cons_succ, List.getElem?_cons_zero]); (try rfl))
  case hq4x5 => exact fun _ _ _ h => h
  case hy4x5 => exact Or.inl ⟨by rfl, by intro w hSw; clear hSw; go_simp; try with_reducible rfl⟩
  try simp only [Act.put, List.setIfInBounds_toArray, List.set_cons_zero, List.set_cons_succ]
  refine wpAnyH_take (i := 5) (oi := ?oi5x6) (v := ?v5x6) ?hi5x6 (by kernel_rfl) (by kernel_rfl) (by kernel_rfl) ?hq5x6 ?hy5x6 hHeld ?rest5x6
  case hi5x6 => ((try simp only [List.getElem?_toArray, List.getElem?_cons_succ, List.getElem?_cons_zero]); (try rfl))
  case hq5x6 => exact fun _ _ _ h => h
  case hy5x6 => exact Or.inl ⟨by rfl, by intro w hSw; clear hSw; go_simp; try with_reducible rfl⟩
  try simp only [Act.put, List.setIfInBounds_toArray, List.set_cons_zero, List.set_cons_succ]
  refine wpAnyH_take (i := 6) (oi := ?oi6x7) (v := ?v6x7) ?hi6x7 (by kernel_rfl) (by kernel_rfl) (by kernel_rfl) ?hq6x7 ?hy6x7 hHeld ?rest6x7
  case hi6x7 => ((try simp only [List.getElem?_toArray, List.getElem?_cons_succ, List.getElem?_cons_zero]); (try rfl))
  case hq6x7 => exact fun _ _ _ h => h
  case hy6x7 => exact Or.inl ⟨by rfl, by intro w hSw; clear hSw; go_simp; try with_reducible rfl⟩
  try simp only [Act.put, List.setIfInBounds_toArray, List.set_cons_zero, List.set_cons_succ]
  refine wpAnyH_take (i := 7) (oi := ?oi7x8) (v := ?v7x8) ?hi7x8 (by kernel_rfl) (by kernel_rfl) (by kernel_rfl) ?hq7x8 ?hy7x8 hHeld ?rest7x8
  case hi7x8 => ((try simp only [List.getElem?_toArray, List.getElem?_cons_succ, List.getElem?_cons_zero]); (try rfl))
  case hq7x8 => exact fun _ _ _ h => h
  case hy7x8 => exact Or.inl ⟨by rfl, by intro w hSw; clear hSw; go_simp; try with_reducible rfl⟩
  try simp only [Act.put, List.setIfInBounds_toArray, List.set_cons_zero, List.set_cons_succ]
  refine wpAnyH_take (i := 8) (oi := ?oi8x9) (v := ?v8x9) ?hi8x9 (by kernel_rfl) (by kernel_rfl) (by kernel_rfl) ?hq8x9 ?hy8x9 hHeld ?rest8x9
  case hi8x9 => ((try simp only [List.getElem?_toArray, List.getElem?_cons_succ, List.getElem?_cons_zero]); (try rfl))
  case hq8x9 => exact fun _ _ _ h => h
  case hy8x9 => exact Or.inl ⟨by rfl, by intro w hSw; obtain ⟨_, hc⟩ := hSw; have q := hc.bx.cell (j := 5) (v := _) rfl; clear hc; go_simp; try with_reducible rfl⟩
  try simp only [Act.put, List.setIfInBounds_toArray, List.set_cons_zero, List.set_cons_succ]
  refine wpAnyH_take (i := 10) (oi := ?oi10x10) (v := ?v10x10) ?hi10x10 (by kernel_rfl) (by kernel_rfl) (by kernel_rfl) ?hq10x10 ?hy10x10 hHeld ?rest10x10
  case hi10x10 => ((try simp only [List.getElem?_toArray, List.getElem?_cons_succ, List.getElem?_cons_zero]); (try rfl))
  case hq10x10 => exact fun _ _ _ h => h
  case hy10x10 => exact Or.inl ⟨by rfl, by intro w hSw; clear hSw; go_simp; try with_reducible rfl⟩
  try simp only [Act.put, List.setIfInBounds_toArray, List.set_cons_zero, List.set_cons_succ]
  refine wpAnyH_take (i := 11) (oi := ?oi11x11) (v := ?v11x11) ?hi11x11 (by kernel_rfl) (by kernel_rfl) (by kernel_rfl) ?hq11x11 ?hy11x11 hHeld ?rest11x11
  case hi11x11 => ((try simp only [List.getElem?_toArray, List.getElem?_cons_succ, List.getElem?_cons_zero]); (try rfl))
  case hq11x11 => exact fun _ _ _ h => h
  case hy11x11 => exact Or.inl ⟨by rfl, by intro w hSw; obtain ⟨_, hc⟩ := hSw; have q := hc.bx.cell (j := 6) (v := _) rfl; clear hc; go_simp; try with_reducible rfl⟩
  try simp only [Act.put, List.setIfInBounds_toArray, List.set_cons_zero, List.set_cons_succ]
  refine wpAnyH_take (i := 13) (oi := ?oi13x12) (v := ?v13x12) ?hi13x12 (by kernel_rfl) (by kernel_rfl) (by kernel_rfl) ?hq13x12 ?hy13x12 hHeld ?rest13x12
  case hi13x12 => ((try simp only [List.getElem?_toArray, List.getElem?_cons_succ, List.getElem?_cons_zero]); (try rfl))
  case hq13x12 => exact fun _ _ _ h => h
  case hy13x12 => exact Or.inl ⟨by rfl, by intro w hSw; clear hSw; go_simp; try with_reducible rfl⟩
  try simp only [Act.put, List.setIfInBounds_toArray, List.set_cons_zero, List.set_cons_succ]
  refine wpAnyH_ready (rs := [9]) (by kernel_rfl) (by simp) ?_
  refine AllReadyH.cons rfl (fun K' hK => ?_) AllReadyH.nil
  clear hHeld
  go_simp
  refine (FI.out _ X6.out.tab).mono ?_
  rintro e wx ⟨rfl, hb⟩
  have X7 := Lib.hid (X6.out.call hb)
  clear hb FI X6
  refine hK.out _ _ ⟨_, X7.out⟩ (fun hHeld => ?_)
  clear hK
  try simp only [Act.put, List.setIfInBounds_toArray, List.set_cons_zero, List.set_cons_succ]
  refine wpAnyH_ready (rs := [12]) (by kernel_rfl) (by simp) ?_
  refine AllReadyH.cons rfl (fun K' hK => ?_) AllReadyH.nil
  clear hHeld
  go_simp
  refine (MG.out _ X7.out.tab).mono ?_
  rintro e wx ⟨rfl, hb⟩
  have X8 := Lib.hid (X7.out.call hb)
  clear hb MG X7
  refine hK.out _ _ ⟨_, X8.out⟩ (fun hHeld => ?_)
  clear hK
  try simp only [Act.put, List.setIfInBounds_toArray, List.set_cons_zero, List.set_cons_succ]
  refine wpAnyH_take (i := 14) (oi := ?oi14x13) (v := ?v14x13) ?hi14x13 (by kernel_rfl) (by kernel_rfl) (by kernel_rfl) ?hq14x13 ?hy14x13 hHeld ?rest14x13
  case hi14x13 => ((try simp only [List.getElem?_toArray, List.getElem?_cons_succ, List.getElem?_cons_zero]); (try rfl))
  case hq14x13 => exact fun _ _ _ h => h
  case hy14x13 => exact Or.inl ⟨by rfl, by intro w hSw; clear hSw; go_simp; try with_reducible rfl⟩
  try simp only [Act.put, List.setIfInBounds_toArray, List.set_cons_zero, List.set_cons_succ]
  refine wpAnyH_ready (rs := [15]) (by kernel_rfl) (by simp) ?_
  refine AllReadyH.cons rfl (fun K' hK => ?_) AllReadyH.nil
  have TH := X8.out.rs.th
  have HZ := Lib.hid (X8.out.done HT0.out (fieldL o T) rfl)
  clear hHeld
  rw [if_pos (by rfl)]
  refine wp_store_mid _ _ _ rfl (w.heap.size + 1) 0 (strC (fieldL o T)).toArray rfl rfl TH infoF (str_one (fieldL o T)) ?_
  rw [List.toList_toArray]
  refine hK.out _ _ ⟨_, HZ.out⟩ (fun hHeld => ?_)
  clear hK TH X8
  generalize World.setCells _ (w.heap.size + 1) 0 (strC (fieldL o T)) = w9 at *
  try simp only [Act.put, List.setIfInBounds_toArray, List.set_cons_zero, List.set_cons_succ]
  refine wpAnyH_take (i := 16) (oi := ?oi16x14) (v := ?v16x14) ?hi16x14 (by kernel_rfl) (by kernel_rfl) (by kernel_rfl) ?hq16x14 ?hy16x14 hHeld ?rest16x14
  case hi16x14 => ((try simp only [List.getElem?_toArray, List.getElem?_cons_succ, List.getElem?_cons_zero]); (try rfl))
  case hq16x14 => exact fun _ _ _ h => h
  case hy16x14 => exact Or.inl ⟨by rfl, by intro w hSw; clear hSw; go_simp; try with_reducible rfl⟩
  try simp only [Act.put, List.setIfInBounds_toArray, List.set_cons_zero, List.set_cons_succ]
  refine wpAnyH_done (by kernel_rfl) ?_ _
  clear hHeld
  go_wp2_with fail
  exact bodyPost_ret (ret_cell_tmp Tryz.results35 _ _ (w.heap.size + 1) (strC (fieldL o T)) _ rfl HZ.out.rs.row Tryz.underlying69 rfl infoF) rfl ⟨Or.inl ⟨T, OK.out, HTX.out, rfl⟩, HZ.out.below⟩
theorem fields_any (o : Ob) (w : World) (hT : Gt.Tab w) (hE : ES w) (hb : OB o) : Calls Tryz.prog 35 #[obsV o] w (FieldsPost o w) := by
  by_cases ok : okO o
  · exact fields_ok o w hT hE hb ok
  · exact fields_bad o w hT hE hb ok
end Vw
end Go.Proofs.YtaghilgfldaaiaaGreatDoor
/-
  What a row made of an observation's fields is read as: plain law.
-/
namespace Go.Proofs.YtaghilgfldaaiaaGreatDoor
namespace Vp
open Go.RowKit Lw Go.Proofs.YtaghilgfldaaiaaGreatDoor.Ap Go.Proofs.YtaghilgfldaaiaaGreatDoor.Op Go.Proofs.YtaghilgfldaaiaaGreatDoor.Mp Go.Proofs.YtaghilgfldaaiaaGreatDoor.Mw Go.Proofs.YtaghilgfldaaiaaGreatDoor.At

/-- Without spaces. -/
def noS (l : List UInt8) : Prop := ∀ c ∈ l, c ≠ 32
theorem noS_app {a b : List UInt8} (h : noS a) (g : noS b) : noS (a ++ b) := fun c hc => by
  rcases List.mem_append.1 hc with hc | hc
  · exact h c hc
  · exact g c hc
theorem noS_cons {a : UInt8} {b : List UInt8} (h : a ≠ 32) (g : noS b) : noS (a :: b) := fun c hc => by
  rcases List.mem_cons.1 hc with rfl | hc
  · exact h
  · exact g c hc
theorem noS_nil : noS [] := fun c hc => by simp at hc
theorem dw_id {l : List UInt8} (h : noS l) : l.dropWhile (· == 32) = l := by
  cases l with
  | nil => rfl
  | cons a r =>
    have : (a == 32) = false := beq_eq_false_iff_ne.2 (h a (List.mem_cons_self ..))
    simp [this]
theorem trim_id {l : List UInt8} (h : noS l) : Lib.trimB l 32 = l := by
  unfold Lib.trimB Lib.trimLeftB Lib.trimRightB
  rw [dw_id (l := l.reverse) (fun c hc => h c (List.mem_reverse.1 hc)), List.reverse_reverse, dw_id h]
theorem u_ne {c : UInt8} {k : Nat} (hk : k < 256) (h : ¬ ((c.toNat : Nat) : Int) = k) : c ≠ UInt8.ofNat k := fun e => h (by
  rw [e, UInt8.toNat_ofNat']
  omega)
theorem noS_bd {l : List UInt8} (h : ∀ c ∈ l, 33 ≤ (c.toNat : Int)) : noS l := fun c hc => u_ne (k := 32) (by omega) (by have := h c hc; omega)
theorem noS_alld {l : List UInt8} (h : Gp.allD l) : noS l := noS_bd fun c hc => by have := (h c hc).1; omega
theorem noS_alld2 {l : List UInt8} (h : Ap.allD l) : noS l := noS_bd fun c hc => by have := (h c hc).1; omega
theorem noS_word {l : List UInt8} (h : wordP l) : noS l := noS_bd fun c hc => by
  have := h c hc
  unfold dgP ltP at this
  omega
theorem list_split (s : ByteArray) (n : Nat) (h : s.size = n) (k : Nat) (hk : k ≤ n) : s.data.toList = (s.extract 0 k).data.toList ++ (s.extract k n).data.toList := by
  have l : s.data.toList.length = n := h
  simp only [ByteArray.data_extract, Array.toList_extract, List.extract_eq_take_drop, List.drop_zero, Nat.sub_zero]
  rw [List.take_of_length_le (l := s.data.toList.drop k) (by rw [List.length_drop]; omega), List.take_append_drop]
theorem noS_name {s : ByteArray} (h : nameP s) : noS s.data.toList := by
  rcases h with ⟨z, h⟩ | ⟨_, _, h⟩
  · rw [list_split s 5 z 1 (by omega)]
    have one : ∃ c, (s.extract 0 1).data.toList = [c] ∧ bt s 0 = (c.toNat : Int) := ⟨s[0]'(by omega), by
      simp only [ByteArray.data_extract, Array.toList_extract, List.extract_eq_take_drop, List.drop_zero, Nat.sub_zero]
      have l : s.data.toList.length = 5 := z
      have e : s.data.toList = (s.data.toList[0]'(by omega)) :: s.data.toList.drop 1 := by
        rw [← List.drop_eq_getElem_cons (by omega)]
        rfl
      rw [e]
      rfl, bt_of s 0 (by omega)⟩
    obtain ⟨c, e, b⟩ := one
    rcases h with ⟨h1, h2⟩ | ⟨h1, h2⟩
    · refine noS_app ?_ (noS_word h2)
      rw [e]
      exact noS_cons (u_ne (k := 32) (by omega) (by omega)) noS_nil
    · exact noS_app (noS_word h1) (noS_alld2 h2.2)
  · exact noS_word h
theorem itoa_d (n : Nat) : Gp.allD (Lib.itoa (n : Int)) := (Gt.itoa_num n).2
theorem noS_itoa {n : Int} (h : 0 ≤ n) : noS (Lib.itoa n) := by
  obtain ⟨m, rfl⟩ := Int.eq_ofNat_of_zero_le h
  exact noS_alld (itoa_d m)
theorem noS_pad (r d : Nat) : noS (Gt.padL (r : Int) d) := noS_app (noS_alld (Gt.rep_num _).2) (noS_alld (itoa_d r))
theorem noS_deg (a : Int) (d : Nat) : noS (Gt.degL a d) := by
  have b : ∀ N, noS (Gt.degB N d) := fun N => noS_app (noS_alld (itoa_d _)) (noS_cons (by decide) (noS_pad _ _))
  unfold Gt.degL
  split
  · exact noS_cons (by decide) (b _)
  · exact b _
theorem noS_text {t : Int} {T : ByteArray} (h : TextIs t 6 T 0) : noS T.data.toList := by
  have d : ∀ k n, noS (decL n k) := fun k n => noS_alld2 (decL_num k n).2
  rcases h with ⟨_, _, c⟩ | ⟨_, _, _, _, c⟩ | ⟨_, _, _, _, n, y, m, z, k, _, hs, _⟩
  · omega
  · omega
  · rw [hs, text_L]
    refine noS_app (d _ _) (noS_cons (by decide) (noS_app (d _ _) (noS_cons (by decide) (noS_app (d _ _) (noS_cons (by decide) (noS_app (d _ _) (noS_cons (by decide) (noS_app (d _ _) (noS_cons (by decide) (noS_app (d _ _) (noS_app ?_ (noS_cons (by decide) noS_nil))))))))))))
    split
    · exact noS_cons (by decide) (fun c hc => d _ _ c (List.mem_of_mem_take hc))
    · exact noS_nil
theorem noS_dg (n : Nat) (h : n < 10) : dg n ≠ 32 := u_ne (k := 32) (by omega) (by have := dg_of n h; omega)
theorem magB_list (m : Int) : magB m = (if m < 0 then [45] else []) ++ (Lib.itoa ((m.natAbs / 100 : Nat) : Int) ++ (46 :: [dg (m.natAbs / 10 % 10), dg (m.natAbs % 10)])) := by
  show (if m < 0 then [45] else []) ++ Lib.itoa ((m.natAbs / 100 : Nat) : Int) ++ [46] ++ [dg (m.natAbs / 10 % 10), dg (m.natAbs % 10)] = _
  simp only [List.append_assoc, List.cons_append, List.nil_append]
theorem noS_mag (m : Int) : noS (Vp.magF m) := by
  unfold Vp.magF
  split
  · exact noS_nil
  · rw [magB_list]
    refine noS_app ?_ (noS_app (noS_alld (itoa_d _)) (noS_cons (by decide) (noS_cons (noS_dg _ (Nat.mod_lt _ (by omega))) (noS_cons (noS_dg _ (Nat.mod_lt _ (by omega))) noS_nil))))
    split
    · exact noS_cons (by decide) noS_nil
    · exact noS_nil
theorem noS_band {m b : Int} (h : magP m b) : noS (bandF b) := by
  unfold bandF
  split
  · exact noS_nil
  · rename_i hb
    obtain ⟨b0, _, b2⟩ := Ow.band_u8 h
    refine noS_cons (u_ne (k := 32) (by omega) ?_) noS_nil
    rw [UInt8.toNat_ofNat']
    omega
/-! ### Magnitudes -/
theorem index_pt : ∀ (l r : List UInt8), (∀ c ∈ l, c ≠ 46) → Lib.index (l ++ 46 :: r) [46] = l.length
  | [], r, _ => by
    unfold Lib.index
    rw [List.nil_append]
    rfl
  | b :: l, r, h => by
    have ih := index_pt l r (fun c hc => h c (List.mem_cons_of_mem _ hc))
    have nb : ((46 : UInt8) == b) = false := beq_eq_false_iff_ne.2 fun e => h b (List.mem_cons_self ..) e.symm
    have np : ([46] : List UInt8).isPrefixOf (b :: (l ++ 46 :: r)) = false := by
      simp [List.isPrefixOf, nb]
    rw [List.cons_append, Lib.index, np, ih]
    have ne : ((l.length : Int) == -1) = false := beq_eq_false_iff_ne.2 (by omega)
    rw [ne]
    simp
theorem cut_pt {l r : List UInt8} (h : ∀ c ∈ l, c ≠ 46) : Lib.cut (l ++ 46 :: r) [46] = (l, r, true) := by
  unfold Lib.cut
  rw [index_pt l r h, if_pos (by omega), Int.toNat_natCast]
  simp
theorem numR_itoa (n : Nat) (h : n < 100) : numR (Lib.itoa (n : Int)) 1 2 = some (n : Int) := by
  obtain ⟨x, l, e, hl, _⟩ := Gt.dd_small n h
  have z : (Lib.itoa (n : Int)).length = l.length + 1 := by rw [e]; rfl
  unfold numR
  rw [if_pos ⟨by omega, by omega, itoa_d n⟩, (Gt.itoa_num n).1]
theorem numR_two (x y : Nat) (hx : x < 10) (hy : y < 10) : numR [dg x, dg y] 1 2 = some (10 * (x : Int) + y) := by
  have ex := dg_of x hx
  have ey := dg_of y hy
  unfold numR
  rw [if_pos ⟨by simp, by simp, fun c hc => by
    rcases List.mem_cons.1 hc with rfl | hc
    · omega
    · rw [List.mem_singleton.1 hc]; omega⟩]
  unfold Gp.numL
  simp only [List.foldl_cons, List.foldl_nil]
  congr 1
  omega
theorem dig_45 {l : List UInt8} {x : UInt8} (h : Gp.allD (x :: l)) : x ≠ 45 := u_ne (k := 45) (by omega) (by have := (h x (List.mem_cons_self ..)).1; omega)
theorem magR_neg (l : List UInt8) : magR (45 :: l) = magC true (Lib.cut l [46]) := rfl
theorem magR_pos {x : UInt8} {l : List UInt8} (h : x ≠ 45) : magR (x :: l) = magC false (Lib.cut (x :: l) [46]) := by
  unfold magR
  have e : ((x :: l).head? == some 45) = false := by
    show (some x == some 45) = false
    exact beq_eq_false_iff_ne.2 fun e => h (Option.some.inj e)
  rw [e]
  rfl
theorem magC_two {mn : Bool} {A B : List UInt8} {a k n : Int} (h1 : numR A 1 2 = some a) (h2 : numR B 1 2 = some k) (hl : B.length = 2) (V : 100 * a + k = n) (hn : n ≤ 3000) (hp : 0 < n ∨ mn = false) : magC mn (A, B, true) = some (if mn = true then -n else n) := by
  have hl1 : ¬ B.length = 1 := by omega
  unfold magC
  show (numR A 1 2).bind _ = _
  rw [h1]
  show ((if (true : Bool) = true then (numR B 1 2).map fun k => 100 * a + (if B.length = 1 then 10 * k else k) else some (100 * a)).bind _) = _
  rw [if_pos rfl, h2]
  show (if (100 * a + (if B.length = 1 then 10 * k else k)) ≤ 3000 ∧ (0 < (100 * a + (if B.length = 1 then 10 * k else k)) ∨ mn = false) then some (if mn = true then -(100 * a + (if B.length = 1 then 10 * k else k)) else (100 * a + (if B.length = 1 then 10 * k else k))) else none) = _
  rw [if_neg hl1, V, if_pos ⟨hn, hp⟩]
theorem read_mag {m : Int} (h0 : -500 ≤ m) (h1 : m ≤ 3000) : magR (magB m) = some m ∧ 0 < (magB m).length := by
  obtain ⟨n, hn⟩ : ∃ n, m.natAbs = n := ⟨_, rfl⟩
  have e := magB_list m
  rw [hn] at e
  have nb : n ≤ 3000 := by omega
  obtain ⟨x, l, ei, _, _⟩ := Gt.dd_small (n / 100) (by omega)
  have ad := itoa_d (n / 100)
  have no46 : ∀ c ∈ Lib.itoa ((n / 100 : Nat) : Int), c ≠ 46 := fun c hc => u_ne (k := 46) (by omega) (by have := (ad c hc).1; omega)
  have c1 := cut_pt (r := [dg (n / 10 % 10), dg (n % 10)]) no46
  have r1 := numR_itoa (n / 100) (by omega)
  have r2 := numR_two (n / 10 % 10) (n % 10) (Nat.mod_lt _ (by omega)) (Nat.mod_lt _ (by omega))
  have V : (100 * ((n / 100 : Nat) : Int) + (10 * ((n / 10 % 10 : Nat) : Int) + ((n % 10 : Nat) : Int))) = n := by omega
  by_cases hm : m < 0
  · rw [if_pos hm] at e
    rw [e]
    refine ⟨?_, by simp⟩
    show magR (45 :: (Lib.itoa ((n / 100 : Nat) : Int) ++ 46 :: [dg (n / 10 % 10), dg (n % 10)])) = _
    rw [magR_neg]
    rw [c1, magC_two r1 r2 rfl V (by omega) (Or.inl (by omega)), if_pos rfl]
    congr 1
    omega
  · rw [if_neg hm, List.nil_append] at e
    rw [e]
    refine ⟨?_, by simp⟩
    rw [show Lib.itoa ((n / 100 : Nat) : Int) ++ 46 :: [dg (n / 10 % 10), dg (n % 10)] = x :: (l ++ 46 :: [dg (n / 10 % 10), dg (n % 10)]) by rw [ei]; rfl, magR_pos (dig_45 (by rw [ei] at ad; exact ad)), ← List.cons_append, ← ei, c1]
    rw [magC_two r1 r2 rfl V (by omega) (Or.inr rfl), if_neg (by decide)]
    congr 1
    omega
/-! ### The row -/
theorem trimS_mk {l : List UInt8} (h : noS l) : Vw.trimS (stL l) = stL l := by unfold Vw.trimS; rw [stL_L, trim_id h]
theorem trimS_of {s : ByteArray} (h : noS s.data.toList) : Vw.trimS s = s := by
  unfold Vw.trimS
  rw [trim_id h]
  rfl
theorem fields_trim {o : Ob} {T : ByteArray} (ok : okO o) (hT : TextIs o.t 6 T 0) : (fieldL o T).map Vw.trimS = fieldL o T := by
  obtain ⟨ot, on, os, ow, or0, or1, od0, od1, og0, og1, om⟩ := ok
  unfold fieldL
  simp only [List.map_cons, List.map_nil]
  rw [trimS_of (noS_name on), trimS_of (noS_word ow), trimS_of (noS_text hT), trimS_mk (noS_deg _ _), trimS_mk (noS_deg _ _), trimS_mk (noS_itoa (by omega)), trimS_mk (noS_mag _), trimS_mk (noS_band om)]
theorem rd_time {t : Int} {T : ByteArray} (h : TextIs t 6 T 0) : timeR T = some t ∧ T.size ≤ 27 := by
  obtain ⟨v, hp, h1, h2, h3⟩ := text_parse h
  have e : tenI (6 - (6 : Int).toNat) = 1 := by decide
  rw [e] at h2
  obtain rfl : v = t := by omega
  rcases timeR_is hp with ⟨_, g⟩ | ⟨g, _, _⟩
  · exact ⟨g, h3⟩
  · omega
theorem rd_deg {a : Int} (h0 : -1296000000000 ≤ a) (h1 : a ≤ 1296000000000) : degR (stL (Gt.degL a 9)) = some (dgR a) := by
  have h := (deg_read a h0 h1).1
  rcases degR_is (s := stL (Gt.degL a 9)) (v := dgR a) (e := 0) h with ⟨_, g⟩ | ⟨g, _, _⟩
  · exact g
  · omega
theorem round_ok {o : Ob} (ok : okO o) : okO (roundP o) := by
  obtain ⟨ot, on, os, ow, or0, or1, od0, od1, og0, og1, om⟩ := ok
  have p := dg_pole od0 od1
  refine ⟨ot, on, os, ow, ?_, ?_, p.1, p.2, og0, og1, om⟩
  · exact Int.emod_nonneg _ (by decide)
  · exact Int.emod_lt_of_pos _ (by decide)
theorem fold_fields {o : Ob} {T : ByteArray} (ok : okO o) (hT : TextIs o.t 6 T 0) : foldR ([0, 1, 2, 3, 4, 5, 6, 7].zip (fieldL o T)) baseO = some (roundP o) := by
  obtain ⟨ot, on, os, ow, or0, or1, od0, od1, og0, og1, om⟩ := ok
  have r2 := (rd_time hT).1
  have r3 := rd_deg (a := o.ra) (by omega) (by omega)
  have p3 := (dg_turn or0 (by omega)).1
  have r4 := rd_deg (a := o.dec) (by omega) (by omega)
  obtain ⟨r5, n5⟩ := read_sig og0 og1
  have r6 : ∀ x : Ob, x.mag = 9999 → readF 6 (stL (Vp.magF o.mag)) x = some { x with mag := o.mag } := fun x hx => by
    show (if (stL (Vp.magF o.mag)).size = 0 then some x else (magR (stL (Vp.magF o.mag)).data.toList).map fun n => { x with mag := n }) = _
    rw [stL_size, stL_L]
    unfold Vp.magF
    by_cases h9 : o.mag = 9999
    · rw [if_pos h9, if_pos (show ([] : List UInt8).length = 0 from rfl), h9, ← hx]
    · rw [if_neg h9]
      obtain ⟨b0, b1⟩ := Ow.mag_bd om h9
      obtain ⟨q, z⟩ := read_mag b0 b1
      rw [if_neg (by omega), q]
      rfl
  have r7 : ∀ x : Ob, x.band = 32 → readF 7 (stL (bandF o.band)) x = some { x with band := o.band } := fun x hx => by
    show (if (stL (bandF o.band)).size = 0 then some x else if (stL (bandF o.band)).size = 1 then some { x with band := bt (stL (bandF o.band)) 0 } else none) = _
    rw [stL_size]
    unfold bandF
    by_cases hb : o.band = 32
    · rw [if_pos hb, if_pos (show ([] : List UInt8).length = 0 from rfl), hb, ← hx]
    · obtain ⟨b0, _, b2⟩ := Ow.band_u8 om
      rw [if_neg hb, if_neg (by simp), if_pos (show [UInt8.ofNat o.band.toNat].length = 1 from rfl)]
      have : bt (stL [UInt8.ofNat o.band.toNat]) 0 = o.band := by
        rw [bt_of (stL [UInt8.ofNat o.band.toNat]) 0 (by show (0 : Nat) < 1; omega)]
        show (((UInt8.ofNat o.band.toNat).toNat : Nat) : Int) = _
        rw [UInt8.toNat_ofNat']
        omega
      rw [this]
  have e3 : readF 3 (stL (Gt.degL o.ra 9)) { { { baseO with name := o.name } with site := o.site } with t := o.t } = some { { { { baseO with name := o.name } with site := o.site } with t := o.t } with ra := dgR o.ra % turnI } := by
    show ((degR (stL (Gt.degL o.ra 9))).bind fun a => if 0 ≤ a then some { { { { baseO with name := o.name } with site := o.site } with t := o.t } with ra := a % turnI } else none) = _
    rw [r3]
    show (if 0 ≤ dgR o.ra then _ else none) = _
    rw [if_pos p3]
  show foldR [(0, o.name), (1, o.site), (2, T), (3, stL (Gt.degL o.ra 9)), (4, stL (Gt.degL o.dec 9)), (5, stL (Lib.itoa o.sg)), (6, stL (Vp.magF o.mag)), (7, stL (bandF o.band))] baseO = _
  rw [foldR_cons]
  show foldR _ { baseO with name := o.name } = _
  rw [foldR_cons]
  show foldR _ { { baseO with name := o.name } with site := o.site } = _
  rw [foldR_cons]
  show ((timeR T).map fun t => { { { baseO with name := o.name } with site := o.site } with t := t }).bind _ = _
  rw [r2]
  show foldR _ { { { baseO with name := o.name } with site := o.site } with t := o.t } = _
  rw [foldR_cons, e3]
  show foldR _ { { { { baseO with name := o.name } with site := o.site } with t := o.t } with ra := dgR o.ra % turnI } = _
  rw [foldR_cons]
  show ((degR (stL (Gt.degL o.dec 9))).map fun a => { { { { { baseO with name := o.name } with site := o.site } with t := o.t } with ra := dgR o.ra % turnI } with dec := a }).bind _ = _
  rw [r4]
  show foldR _ { { { { { baseO with name := o.name } with site := o.site } with t := o.t } with ra := dgR o.ra % turnI } with dec := dgR o.dec } = _
  rw [foldR_cons]
  show (if (stL (Lib.itoa o.sg)).size = 0 then _ else (sigR (stL (Lib.itoa o.sg)).data.toList).map fun n => { { { { { { baseO with name := o.name } with site := o.site } with t := o.t } with ra := dgR o.ra % turnI } with dec := dgR o.dec } with sg := n }).bind _ = _
  rw [stL_size, if_neg (by omega), stL_L, r5]
  show foldR _ { { { { { { baseO with name := o.name } with site := o.site } with t := o.t } with ra := dgR o.ra % turnI } with dec := dgR o.dec } with sg := o.sg } = _
  rw [foldR_cons, r6 _ rfl]
  show foldR _ { { { { { { { baseO with name := o.name } with site := o.site } with t := o.t } with ra := dgR o.ra % turnI } with dec := dgR o.dec } with sg := o.sg } with mag := o.mag } = _
  rw [foldR_cons, r7 _ rfl]
  rfl
/-- A row of an observation's fields is read as the observation, rounded. -/
theorem row_round {o : Ob} {T : ByteArray} (ok : okO o) (hT : TextIs o.t 6 T 0) : rowR [0, 1, 2, 3, 4, 5, 6, 7] ((fieldL o T).map Vw.trimS) = some (roundP o) := by
  rw [fields_trim ok hT]
  unfold rowR
  rw [if_pos (by rfl), fold_fields ok hT]
  exact if_pos (round_ok ok)
theorem field_size {o : Ob} {T : ByteArray} (ok : okO o) (hT : TextIs o.t 6 T 0) : ∀ s ∈ fieldL o T, s.size ≤ 100 := by
  obtain ⟨ot, on, os, ow, or0, or1, od0, od1, og0, og1, om⟩ := ok
  have z2 := (rd_time hT).2
  have z3 := (deg_read o.ra (by omega) (by omega)).2
  have z4 := (deg_read o.dec (by omega) (by omega)).2
  have z5 := Lib.itoa_length_le o.sg (by omega) (by omega)
  have z6 : (Vp.magF o.mag).length ≤ 5 := by
    unfold Vp.magF
    split
    · exact Nat.zero_le _
    · rename_i h9
      obtain ⟨b0, b1⟩ := Ow.mag_bd om h9
      exact (Op.magB_len (by omega) (by omega)).1
  have z7 : (bandF o.band).length ≤ 1 := by unfold bandF; split <;> simp
  have z0 : o.name.size ≤ 7 := by
    rcases on with ⟨h, _⟩ | ⟨_, h, _⟩
    · omega
    · exact h
  intro s hs
  unfold fieldL at hs
  simp only [List.mem_cons, List.not_mem_nil, or_false] at hs
  rcases hs with rfl | rfl | rfl | rfl | rfl | rfl | rfl | rfl
  · omega
  · omega
  · omega
  · rw [stL_size]; omega
  · rw [stL_size]; omega
  · rw [stL_size]; omega
  · rw [stL_size]; omega
  · rw [stL_size]; omega
end Vp
end Go.Proofs.YtaghilgfldaaiaaGreatDoor
