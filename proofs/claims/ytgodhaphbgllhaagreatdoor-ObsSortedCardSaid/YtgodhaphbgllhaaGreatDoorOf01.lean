/-
  Lemmas and walks, texts joined: OSrtdPl, OSorted.
-/
import Derived.Test.YtgodhaphbgllhaaGreatDoorOe03
import Derived.Test.YtgodhaphbgllhaaGreatDoorOa08
set_option linter.unusedSimpArgs false
set_option linter.unusedVariables false
/-
  Plain law of files of observations: what is printed is read as the rounded observations; counting in a sorted list; no walk here.
-/
namespace Go.Proofs.YtgodhaphbgllhaaGreatDoor
namespace Ow
open Go.RowKit Lw Go.Proofs.YtgodhaphbgllhaaGreatDoor.Ap Go.Proofs.YtgodhaphbgllhaaGreatDoor.Op Go.Proofs.YtgodhaphbgllhaaGreatDoor.Mp Go.Proofs.YtgodhaphbgllhaaGreatDoor.Mw Go.Proofs.YtgodhaphbgllhaaGreatDoor.At

theorem ext_left (a c : ByteArray) (i j : Nat) (hj : j ≤ a.size) : (a ++ c).extract i j = a.extract i j := by
  apply toL_inj
  rw [ext_L _ _ _ (by rw [ByteArray.size_append]; omega), ext_L _ _ _ hj]
  have e : (a ++ c).data.toList = a.data.toList ++ c.data.toList := by simp
  have l : a.data.toList.length = a.size := (size_L a).symm
  rw [e]
  rcases Nat.lt_or_ge i j with h | h
  · rw [List.drop_append_of_le_length (by omega), List.take_append_of_le_length (by rw [List.length_drop]; omega)]
  · rw [show j - i = 0 by omega, List.take_zero, List.take_zero]
theorem bt_left (a c : ByteArray) (i : Nat) (hi : i < a.size) : bt (a ++ c) i = bt a i := by
  rw [bt_L _ _ (by rw [ByteArray.size_append]; omega), bt_L _ _ hi]
  have e : (a ++ c).data.toList = a.data.toList ++ c.data.toList := by simp
  rw [e, List.getD_eq_getElem?_getD, List.getD_eq_getElem?_getD, List.getElem?_append_left (by rw [← size_L]; exact hi)]
/-- A line of a file, where it stands. -/
theorem lines_at {l : List Ob} : ∀ {n : Nat} {s : ByteArray}, LinesTo l n s → ∀ k, k < n → ∃ b o, l[k]? = some o ∧ PrintIs o b 0 ∧ s.extract (81 * k) (81 * k + 80) = b ∧ bt s (81 * k + 80) = 10
  | 0, _, _, k, hk => by omega
  | n + 1, s, ⟨a, b, o, h1, h2, h3, h4⟩, k, hk => by
    have za := h1.size
    have zb := print0_size h3
    by_cases e : k = n
    · subst e
      refine ⟨b, o, h2, h3, ?_, ?_⟩
      · apply toL_inj
        have hz : (a ++ (b ++ nlS)).size = 81 * k + 81 := by rw [ByteArray.size_append, ByteArray.size_append, za, zb]; rfl
        rw [h4, ext_L _ _ _ (by omega)]
        have e : (a ++ (b ++ nlS)).data.toList = a.data.toList ++ (b.data.toList ++ nlS.data.toList) := by simp
        rw [e, ← za, size_L a, List.drop_left, show a.data.toList.length + 80 - a.data.toList.length = b.data.toList.length by rw [← size_L b, zb]; omega, List.take_left]
      · have hz : (a ++ (b ++ nlS)).size = 81 * k + 81 := by rw [ByteArray.size_append, ByteArray.size_append, za, zb]; rfl
        have la : (a.data.toList ++ b.data.toList).length = 81 * k + 80 := by rw [List.length_append, ← size_L, ← size_L, za, zb]
        rw [h4]
        exact bt_seg (A := a.data.toList ++ b.data.toList) (C := []) (c := 10) (by simp [nlS]) la
    · obtain ⟨b', o', g1, g2, g3, g4⟩ := lines_at h1 k (by omega)
      refine ⟨b', o', g1, g2, ?_, ?_⟩
      · rw [h4, ext_left _ _ _ _ (by omega)]; exact g3
      · rw [h4, bt_left _ _ _ (by omega)]; exact g4
theorem back_parts {l : List Ob} {s : ByteArray} (h : LinesTo l l.length s) (ok : ∀ o ∈ l, okO o) : ∀ k, k ≤ l.length → ∃ m, PartTo s k m ∧ m.length = k ∧ ∀ i (hi : i < l.length) (hm : i < m.length), RoundIs (l[i]'hi) (m[i]'hm) 0
  | 0, _ => ⟨[], rfl, rfl, fun i _ hm => by simp at hm⟩
  | k + 1, hk => by
    obtain ⟨m, h1, h2, h3⟩ := back_parts h ok k (by omega)
    obtain ⟨b, o, g1, g2, g3, g4⟩ := lines_at h k (by omega)
    have eo : l[k]'(by omega) = o := by
      have := List.getElem?_eq_getElem (show k < l.length by omega)
      rw [this] at g1
      exact Option.some.inj g1
    obtain ⟨r, S, T, p1, p2, p3, -, -, -, -, -, -⟩ := round_plan (ok o (by rw [← eo]; exact List.getElem_mem _))
    obtain ⟨rfl, _⟩ := g2.uniq p1
    have gd : Op.Good b r := by
      rcases p2 with ⟨g, _⟩ | ⟨_, _, c⟩
      · exact g
      · cases c
    have zs := h.size
    refine ⟨m ++ [r], ⟨m, r, h1, ⟨by omega, by rw [g3]; exact gd, g4⟩, rfl⟩, by simp [h2], fun i hi hm => ?_⟩
    by_cases e : i < m.length
    · rw [List.getElem_append_left e]
      exact h3 i hi e
    · have ei : i = k := by simp at hm; omega
      subst ei
      rw [List.getElem_append_right (by omega)]
      simp only [h2, Nat.sub_self, List.getElem_cons_zero]
      rw [eo]
      exact p3
/-- What is printed is read back rounded. -/
theorem back_list {l : List Ob} {s : ByteArray} {c : Int} (h : PrintAllIs l s c) (hz : allC l = 0) : c = 0 ∧ s.size = 81 * l.length ∧ ∃ m, ParseAllIs s m 0 ∧ m.length = l.length ∧ ∀ i (hi : i < l.length) (hm : i < m.length), RoundIs (l[i]'hi) (m[i]'hm) 0 := by
  rcases h with ⟨_, h, rfl⟩ | ⟨h, _⟩
  · obtain ⟨n5, ok⟩ := allC_ok hz
    obtain ⟨m, h1, h2, h3⟩ := back_parts h ok l.length (Nat.le_refl _)
    exact ⟨rfl, h.size, m, ⟨l.length, m, h1, Or.inl ⟨h.size.symm, n5, rfl, rfl⟩⟩, h2, h3⟩
  · exact absurd hz h
/-- How often an observation is among the first of a list. -/
def cnt (l : List Ob) (o : Ob) (k : Nat) : Nat := (l.take k).countP (fun z => decide (cmpO z o = 0))
theorem cnt_all {l x : List Ob} (h : x.Perm l) (o : Ob) : cnt x o l.length = cnt l o l.length := by
  unfold cnt
  rw [List.take_length, ← h.length_eq, List.take_length]
  exact h.countP_eq _
theorem cnt_le (l : List Ob) (o : Ob) (k : Nat) : cnt l o k ≤ k := by
  unfold cnt
  exact Nat.le_trans List.countP_le_length (by rw [List.length_take]; omega)
theorem cnt_succ {l : List Ob} {o : Ob} {k : Nat} (h : k < l.length) : cnt l o (k + 1) = cnt l o k + (if cmpO l[k] o = 0 then 1 else 0) := by
  unfold cnt
  rw [take_snocO h, List.countP_append, List.countP_cons, List.countP_nil]
  by_cases c : cmpO l[k] o = 0
  · simp [c]
  · simp [c]
end Ow
end Go.Proofs.YtgodhaphbgllhaaGreatDoor
/-
  The walk of the law ObsSorted.
-/
namespace Go.Proofs.YtgodhaphbgllhaaGreatDoor
namespace Ow
open Go.RowKit Lw Go.Proofs.YtgodhaphbgllhaaGreatDoor.Ap Go.Proofs.YtgodhaphbgllhaaGreatDoor.Op Go.Proofs.YtgodhaphbgllhaaGreatDoor.Mp Go.Proofs.YtgodhaphbgllhaaGreatDoor.Mw Go.Proofs.YtgodhaphbgllhaaGreatDoor.At

/-- Rows of observations that a region reads. -/
structure RW (L : List (Nat × Nat × Ob)) (W0 w : World) : Prop where
  rows : ∀ t ∈ L, t.1 < w.heap.size ∧ w.rangeAt t.1 t.2.1 (obsC t.2.2)
  below : Below W0.heap.size W0 w
theorem RW.call {L : List (Nat × Nat × Ob)} {W0 w w' : World} (h : RW L W0 w) (hb : Below w.heap.size w w') : RW L W0 w' := ⟨fun t ht => ⟨Nat.lt_of_lt_of_le (h.rows t ht).1 hb.size, rangeAt_below (h.rows t ht).2 hb (h.rows t ht).1⟩, below_then h.below hb⟩
theorem SlA.row {w : World} {b off : Nat} {l : List Ob} (h : SlA w (some ⟨b, off, none⟩) l) {i : Nat} (hi : i < l.length) {o : Ob} (e : l[i] = o) : b < w.heap.size ∧ w.rangeAt b (off + i * 8) (obsC o) := by
  obtain ⟨b', off', e', lt, r⟩ := h.get hi
  have e' := Option.some.inj e'
  injection e' with e1 e2 e3
  subst e1 e2
  exact ⟨lt, by rw [← e]; exact r i hi⟩
theorem toList_inj {a b : ByteArray} (h : a.toList = b.toList) : a = b := toL_inj (by rw [← Lib.toList_data, ← Lib.toList_data]; exact h)
theorem ifs_eq (p q : Ob) (w : World) : (if p.name.toList = q.name.toList then (if p.site.toList = q.site.toList then (if p.t = q.t then (if p.ra = q.ra then (if p.dec = q.dec then (if p.sg = q.sg then (if p.mag = q.mag then (if p.band = q.band then Result.ok (Next.value (.bool true)) w else Result.ok (Next.value (.bool false)) w) else Result.ok (Next.value (.bool false)) w) else Result.ok (Next.value (.bool false)) w) else Result.ok (Next.value (.bool false)) w) else Result.ok (Next.value (.bool false)) w) else Result.ok (Next.value (.bool false)) w) else Result.ok (Next.value (.bool false)) w) else Result.ok (Next.value (.bool false)) w) = Result.ok (Next.value (.bool (decide (cmpO p q = 0)))) w := by
  by_cases h : p = q
  · subst h
    simp [cmpO_refl]
  · rw [decide_eq_false (fun e => h (cmpO_zero e))]
    by_cases h1 : p.name.toList = q.name.toList
    · by_cases h2 : p.site.toList = q.site.toList
      · by_cases h3 : p.t = q.t
        · by_cases h4 : p.ra = q.ra
          · by_cases h5 : p.dec = q.dec
            · by_cases h6 : p.sg = q.sg
              · by_cases h7 : p.mag = q.mag
                · by_cases h8 : p.band = q.band
                  · exfalso
                    apply h
                    have e1 := toList_inj h1
                    have e2 := toList_inj h2
                    cases p; cases q
                    simp only at e1 e2 h3 h4 h5 h6 h7 h8
                    rw [e1, e2, h3, h4, h5, h6, h7, h8]
                  · simp [h1, h2, h3, h4, h5, h6, h7, h8]
                · simp [h1, h2, h3, h4, h5, h6, h7]
              · simp [h1, h2, h3, h4, h5, h6]
            · simp [h1, h2, h3, h4, h5]
          · simp [h1, h2, h3, h4]
        · simp [h1, h2, h3]
      · simp [h1, h2]
    · simp [h1]
set_option maxRecDepth 100000 in
set_option maxHeartbeats 40000000 in
theorem sorted_out (x : Option Addr) (cap : Nat) (l : List Ob) (w : World) (hT : Gt.Tab w) (hE : ES w) (hl : SlA w x l) (hm : l.length ≤ 9223372036854775807) (hb : OBs l) (no : greatB l 12 = true ∨ 12 < l.length ∨ allC l ≠ 0) : Calls Tryz.prog 9 #[.slice x l.length cap] w fun e w' => e = .returned (.bool true) ∧ Below w.heap.size w w' := by
  have GR := Lib.hid (fun w' (h : Below w.heap.size w w') => great_sl x cap l w' (hl.below h) hm hb)
  have RA := Lib.hid (fun w' (h : Below w.heap.size w w') (g : l.length ≤ 12) => rall_any x cap l w' (hl.below h) (by omega) hb)
  have AL := Lib.hid (alive_any w hT hE)
  clear hl hT hE hb
  by_cases hg : greatB l 12 = true
  · rw [hg] at GR
    clear no RA
    go_enter Tryz.func9, Tryz.ntmps9
    go_wp2_with fail
    refine AL.out.mono ?_
    rintro e w1 ⟨rfl, hb1⟩
    have B1 := Lib.hid hb1
    clear hb1 AL
    go_wp2_with fail
    refine (GR.out _ B1.out).mono ?_
    rintro e w2 ⟨rfl, rfl⟩
    go_wp2_with fail
    go_ret
    exact ⟨rfl, B1.out⟩
  · have no := no.resolve_left hg
    rw [Bool.eq_false_iff.2 hg] at GR
    by_cases h12 : 12 < l.length
    · have h12' : (12 : Int) < (l.length : Int) := by omega
      clear no RA hg
      go_enter Tryz.func9, Tryz.ntmps9
      go_wp2_with fail
      refine AL.out.mono ?_
      rintro e w1 ⟨rfl, hb1⟩
      have B1 := Lib.hid hb1
      clear hb1 AL
      go_wp2_with fail
      refine (GR.out _ B1.out).mono ?_
      rintro e w2 ⟨rfl, rfl⟩
      go_wp2_with fail
      go_ret
      exact ⟨rfl, B1.out⟩
    · have h12' : ¬ (12 : Int) < (l.length : Int) := by omega
      have nz := no.resolve_left h12
      have hnz : (allC l != 0) = true := by rw [bne, beq_eq_false_iff_ne.2 nz]; rfl
      have RA := Lib.hid (fun w' h => RA.out w' h (by omega))
      clear no hg nz
      generalize allC l = K at *
      go_enter Tryz.func9, Tryz.ntmps9
      go_wp2_with fail
      refine AL.out.mono ?_
      rintro e w1 ⟨rfl, hb1⟩
      have B1 := Lib.hid hb1
      clear hb1 AL
      go_wp2_with fail
      refine (GR.out _ B1.out).mono ?_
      rintro e w2 ⟨rfl, rfl⟩
      go_wp2_with fail
      refine (RA.out _ B1.out).mono ?_
      rintro e w3 ⟨rfl, hb3⟩
      have B3 := Lib.hid (below_then B1.out hb3)
      clear hb3 B1
      go_wp2_with fail
      go_ret
      exact ⟨rfl, B3.out⟩
set_option maxRecDepth 100000 in
set_option maxHeartbeats 40000000 in
theorem sorted_main (x : Option Addr) (cap : Nat) (l : List Ob) (w : World) (hT : Gt.Tab w) (hE : ES w) (hl : SlA w x l) (hb : OBs l) (hg : greatB l 12 = false) (h12 : l.length ≤ 12) (hz : allC l = 0) : Calls Tryz.prog 9 #[.slice x l.length cap] w fun e w' => e = .returned (.bool true) ∧ Below w.heap.size w w' := by
  have hm : l.length ≤ 1000000 := by omega
  have HL := Lib.hid (fun w' (h : Below w.heap.size w w') => hl.below h)
  have HE := Lib.hid (fun w' (h : Below w.heap.size w w') => hE.below h)
  have HT := Lib.hid (fun w' (h : Below w.heap.size w w') => hT.below h)
  have GR := Lib.hid (fun w' (h : Below w.heap.size w w') => great_sl x cap l w' (hl.below h) (by omega) hb)
  rw [hg] at GR
  have RA := Lib.hid (fun w' (h : Below w.heap.size w w') => rall_any x cap l w' (hl.below h) hm hb)
  rw [hz] at RA
  have AL := Lib.hid (alive_any w hT hE)
  have P1 := Lib.hid (fun w' (h : Below w.heap.size w w') => printall_any x cap l w' (HT.out _ h) (HE.out _ h) (HL.out _ h) hm hb)
  have P3 := Lib.hid (fun (s : ByteArray) (hs : s.size ≤ 1000) w' (h : Below w.heap.size w w') => parseall_any s w' (HE.out _ h) hs)
  have P5 := Lib.hid (fun w' (h : Below w.heap.size w w') => sort_any x cap l w' (HE.out _ h) (HL.out _ h) hm hb)
  have PR := Lib.hid (fun i (h : i < l.length) w' (g : Below w.heap.size w w') => round_any (l[i]'h) w' (HT.out _ g) (HE.out _ g) (hb i h))
  have BK := Lib.hid (fun s c (h : PrintAllIs l s c) => back_list h hz)
  have SB := Lib.hid (fun (X : List Ob) (h : X.Perm l) => OBs.perm hb h)
  have HZ := Lib.hid hz
  have n12 : ¬ (12 : Int) < (l.length : Int) := by omega
  obtain ⟨n, hnl⟩ : ∃ n, l.length = n := ⟨_, rfl⟩
  rw [hnl] at GR RA P1 P5 n12 h12 ⊢
  have NL := Lib.hid hnl
  clear hl hE hT hb hg hm hz hnl
  go_enter Tryz.func9, Tryz.ntmps9
  go_wp2_with fail
  refine AL.out.mono ?_
  rintro e w1 ⟨rfl, hb1⟩
  have B1 := Lib.hid hb1
  clear hb1 AL
  go_wp2_with fail
  refine (GR.out _ B1.out).mono ?_
  rintro e w2 ⟨rfl, rfl⟩
  clear GR
  go_wp2_with fail
  refine (RA.out _ B1.out).mono ?_
  rintro e w3 ⟨rfl, hb3⟩
  have B3 := Lib.hid (below_then B1.out hb3)
  clear hb3 B1 RA
  go_wp2_with fail
  refine (P1.out _ B3.out).mono ?_
  rintro e w4 ⟨s, c, rfl, hP, hb4⟩
  obtain ⟨rfl, zs, m, hpm, zm, hrm⟩ := BK.out s c hP
  have B4 := Lib.hid (below_then B3.out hb4)
  have RM := Lib.hid hrm
  have HPM := Lib.hid hpm
  have zs' : s.size = 81 * n := by rw [zs, NL.out]
  have zm' : m.length = n := by rw [zm, NL.out]
  clear hP hb4 B3 P1 BK zs zm hrm hpm
  go_wp2_with fail
  refine (P3.out s (by omega) _ B4.out).mono ?_
  rintro e w5 ⟨v1, m', c1, rfl, hQ, hv1, hb5⟩
  obtain ⟨rfl, rfl⟩ := HPM.out.uniq hQ
  obtain ⟨x1, d1, rfl, hx1⟩ := hv1
  have X1 := Lib.hid (fun w' (h : Below w5.heap.size w5 w') => hx1.below h)
  have B5 := Lib.hid (below_then B4.out hb5)
  clear hQ hx1 hb5 P3 B4 HPM
  rw [zm']
  have ZM := Lib.hid zm'
  clear zm'
  go_wp2_with fail
  refine (P5.out _ B5.out).mono ?_
  rintro e w6 ⟨v3, X, c2, rfl, hR, hv3, hb6⟩
  obtain ⟨pX, oX, rfl⟩ : X.Perm l ∧ ordL X ∧ c2 = 0 := by
    rcases hR with ⟨_, a, b, c⟩ | ⟨a, _⟩
    · exact ⟨a, b, c⟩
    · exact absurd HZ.out a
  obtain ⟨x3, d3, rfl, hx3⟩ := hv3
  have C6 := Lib.hid hb6
  have X3 := Lib.hid (fun w' (h : Below w6.heap.size w6 w') => hx3.below h)
  have X1' := Lib.hid (fun w' (h : Below w6.heap.size w6 w') => X1.out _ (below_then C6.out h))
  have B6 := Lib.hid (below_then B5.out hb6)
  have PX := Lib.hid pX
  have OX' := Lib.hid oX
  have BX := Lib.hid (SB.out X pX)
  have zX : X.length = n := by rw [pX.length_eq, NL.out]
  clear hR hx3 hb6 P5 B5 SB X1 C6 pX oX
  rw [zX]
  have ZX := Lib.hid zX
  clear zX
  have w81 : IntKind.i64.wrap (81 * (n : Int)) = 81 * (n : Int) := wrap_small _ (by omega) (by omega)
  have z81 : (s.size : Int) = 81 * (n : Int) := by omega
  clear zs'
  go_wp2_with fail
  go_loopw [10] (fun i wr => ∃ k : Nat, k ≤ n ∧ i = .int .i64 k ∧ Hid (Below w6.heap.size w6 wr)) (fun i _ => n - (intOf i).toNat)
  case atStart => exact ⟨0, Nat.zero_le _, rfl, Lib.hid (Below.refl _ _)⟩
  case round =>
    obtain ⟨k, hk, rfl, D⟩ := hrel
    have BD := Lib.hid (below_then B6.out D.out)
    by_cases hlt : k < n
    · have hkl : k < l.length := by rw [NL.out]; exact hlt
      have hkm : k < m.length := by rw [ZM.out]; exact hlt
      have hkX : k < X.length := by rw [ZX.out]; exact hlt
      obtain ⟨b, off, rfl, lt, row⟩ := (HL.out _ BD.out).get hkl
      have R := Lib.hid (row k hkl)
      have PRk := Lib.hid (PR.out k hkl)
      obtain ⟨q, hq⟩ : ∃ q, m[k]'hkm = q := ⟨_, rfl⟩
      have RMk := RM.out k hkl hkm
      rw [hq] at RMk
      replace RMk := Lib.hid RMk
      have HQ := Lib.hid hq
      have i1 : (k : Int) < (n : Int) := by omega
      obtain ⟨o, ho⟩ : ∃ o, l[k]'hkl = o := ⟨_, rfl⟩
      rw [ho] at R PRk RMk
      have HO := Lib.hid ho
      clear lt row hq ho
      go_wp2_with (refine wpList_load_mid rfl _ (.tmp 90) rfl b (off + k * 8) rfl (obsC o) _ R.out Tryz.underlying23 rfl info8 ?_)
      refine (PRk.out _ BD.out).mono ?_
      rintro e w8 ⟨q', c', rfl, hR8, hb8⟩
      obtain ⟨rfl, rfl⟩ := hR8.uniq RMk.out
      have D8 := Lib.hid (below_then D.out hb8)
      have bx := (Below.refl w8.heap.size w8).alloc (Nat.le_refl _) (.cells (obsC q').toArray 23)
      have D9 := Lib.hid (below_then D8.out bx)
      have X9 := Lib.hid (Box.new w8 q')
      clear hR8 hb8 RMk PRk R D8 bx D
      go_wp2_with (refine wpList_store_new rfl _ (.tmp 11) (.tmp 93) rfl _ _ rfl rfl info8 rfl ?_ ?_; simp [Value.oneCell'])
      obtain ⟨W9, hW9⟩ : ∃ W9, w8.alloc (.cells (obsC q').toArray 23) = W9 := ⟨_, rfl⟩
      rw [hW9] at X9 D9
      change Code.wp _ _ _ _ (w8.alloc (.cells (obsC q').toArray 23))
      rw [hW9]
      clear hW9
      obtain ⟨b3, off3, rfl, -, -⟩ := (X3.out _ D9.out).get hkX
      obtain ⟨bm, offm, rfl, -, -⟩ := (X1'.out _ D9.out).get hkm
      go_loopw [13, 14, 15] (fun av bv kv wr2 => ∃ j : Nat, j ≤ n ∧ kv = .int .i64 j ∧ av = .int .i64 (cnt l o j : Nat) ∧ bv = .int .i64 (cnt X o j : Nat) ∧ Hid (Below W9.heap.size W9 wr2)) (fun _ _ kv _ => n - (intOf kv).toNat)
      case atStart => exact ⟨0, Nat.zero_le _, rfl, rfl, rfl, Lib.hid (Below.refl _ _)⟩
      case round =>
        obtain ⟨j, hj, rfl, rfl, rfl, E⟩ := hrel
        have DE := Lib.hid (below_then D9.out E.out)
        have BE := Lib.hid (below_then B6.out DE.out)
        by_cases hlt2 : j < n
        · have hjl : j < l.length := by rw [NL.out]; exact hlt2
          have hjX : j < X.length := by rw [ZX.out]; exact hlt2
          obtain ⟨p, hp⟩ : ∃ p, l[j]'hjl = p := ⟨_, rfl⟩
          obtain ⟨r, hr⟩ : ∃ r, X[j]'hjX = r := ⟨_, rfl⟩
          have V := Lib.hid (show RW [(b, off + j * 8, p), (b, off + k * 8, o), (b3, off3 + j * 8, r)] W9 wr from ⟨fun t ht => by
            simp only [List.mem_cons, List.not_mem_nil, or_false] at ht
            rcases ht with rfl | rfl | rfl
            · exact (HL.out _ BE.out).row hjl hp
            · exact (HL.out _ BE.out).row hkl HO.out
            · exact (X3.out _ DE.out).row hjX hr, E.out⟩)
          have EA := cnt_succ (o := o) hjl
          have EB := cnt_succ (o := o) hjX
          rw [hp] at EA
          rw [hr] at EB
          have la := cnt_le l o j
          have lb := cnt_le X o j
          replace EA := Lib.hid EA
          replace EB := Lib.hid EB
          generalize cnt l o j = ca at *
          generalize cnt X o j = cb at *
          generalize hca : cnt l o (j + 1) = ca' at *
          generalize hcb : cnt X o (j + 1) = cb' at *
          have HCA := Lib.hid hca
          have HCB := Lib.hid hcb
          have j1 : (j : Int) < (n : Int) := by omega
          have j0 : (0 : Int) ≤ (j : Int) := by omega
          have k0 : (0 : Int) ≤ (k : Int) := by omega
          have c1000 : ca ≤ 1000 := by omega
          have c1001 : cb ≤ 1000 := by omega
          clear hp hr E hca hcb la lb HL
          go_wp2_with fail
          refine wp_region_held_drew (S := RW [(b, off + j * 8, p), (b, off + k * 8, o), (b3, off3 + j * 8, r)] W9) (by kernel_rfl) (V.out.call (Below.refl _ _).drew) (fun hHeld => ?_)
          refine wpAnyH_take (i := 0) (oi := ?oi0x1) (v := ?v0x1) ?hi0x1 (by kernel_rfl) (by kernel_rfl) (by kernel_rfl) ?hq0x1 ?hy0x1 hHeld ?rest0x1
          case hi0x1 => ((try simp only [List.getElem?_toArray, List.getElem?_cons_succ, List.getElem?_cons_zero]); (try rfl))
          case hq0x1 => exact fun _ _ _ h => h
          case hy0x1 => exact Or.inl ⟨by rfl, by intro w hSw; clear hSw; go_simp; try with_reducible rfl⟩
          try simp only [Act.put, List.setIfInBounds_toArray, List.set_cons_zero, List.set_cons_succ]
          refine wpAnyH_take (i := 1) (oi := ?oi1x2) (v := ?v1x2) ?hi1x2 (by kernel_rfl) (by kernel_rfl) (by kernel_rfl) ?hq1x2 ?hy1x2 hHeld ?rest1x2
          case hi1x2 => ((try simp only [List.getElem?_toArray, List.getElem?_cons_succ, List.getElem?_cons_zero]); (try rfl))
          case hq1x2 => exact fun _ _ _ h => h
          case hy1x2 => exact Or.inl ⟨by rfl, by intro w hSw; clear hSw; go_simp; try with_reducible rfl⟩
          try simp only [Act.put, List.setIfInBounds_toArray, List.set_cons_zero, List.set_cons_succ]
          refine wpAnyH_take (i := 2) (oi := ?oi2x3) (v := ?v2x3) ?hi2x3 (by kernel_rfl) (by kernel_rfl) (by kernel_rfl) ?hq2x3 ?hy2x3 hHeld ?rest2x3
          case hi2x3 => ((try simp only [List.getElem?_toArray, List.getElem?_cons_succ, List.getElem?_cons_zero]); (try rfl))
          case hq2x3 => exact fun _ _ _ h => h
          case hy2x3 => exact Or.inl ⟨by rfl, by intro w hSw; clear hSw; go_simp; try with_reducible rfl⟩
          try simp only [Act.put, List.setIfInBounds_toArray, List.set_cons_zero, List.set_cons_succ]
          refine wpAnyH_take (i := 3) (oi := ?oi3x4) (v := ?v3x4) ?hi3x4 (by kernel_rfl) (by kernel_rfl) (by kernel_rfl) ?hq3x4 ?hy3x4 hHeld ?rest3x4
          case hi3x4 => ((try simp only [List.getElem?_toArray, List.getElem?_cons_succ, List.getElem?_cons_zero]); (try rfl))
          case hq3x4 => exact fun _ _ _ h => h
          case hy3x4 => 
            refine' yieldsIf_load_mid ?_ 23 (.tmp 103) ?_ b (off + j * 8) ?_ (obsC p) _ ?_ Tryz.underlying23 ?_ info8
            · rfl
            · rfl
            · rfl
            · exact fun _ h => ((RW.rows h) (b, off + j * 8, p) (by simp)).2
            · rfl
          try simp only [Act.put, List.setIfInBounds_toArray, List.set_cons_zero, List.set_cons_succ]
          refine wpAnyH_take (i := 4) (oi := ?oi4x5) (v := ?v4x5) ?hi4x5 (by kernel_rfl) (by kernel_rfl) (by kernel_rfl) ?hq4x5 ?hy4x5 hHeld ?rest4x5
          case hi4x5 => ((try simp only [List.getElem?_toArray, List.getElem?_cons_succ, List.getElem?_cons_zero]); (try rfl))
          case hq4x5 => exact fun _ _ _ h => h
          case hy4x5 => exact Or.inl ⟨by rfl, by intro w hSw; clear hSw; go_simp; try with_reducible rfl⟩
          try simp only [Act.put, List.setIfInBounds_toArray, List.set_cons_zero, List.set_cons_succ]
          refine wpAnyH_take (i := 5) (oi := ?oi5x6) (v := ?v5x6) ?hi5x6 (by kernel_rfl) (by kernel_rfl) (by kernel_rfl) ?hq5x6 ?hy5x6 hHeld ?rest5x6
          case hi5x6 => ((try simp only [List.getElem?_toArray, List.getElem?_cons_succ, List.getElem?_cons_zero]); (try rfl))
          case hq5x6 => exact fun _ _ _ h => h
          case hy5x6 => exact Or.inl ⟨by rfl, by intro w hSw; clear hSw; go_simp; try with_reducible rfl⟩
          try simp only [Act.put, List.setIfInBounds_toArray, List.set_cons_zero, List.set_cons_succ]
          refine wpAnyH_take (i := 6) (oi := ?oi6x7) (v := ?v6x7) ?hi6x7 (by kernel_rfl) (by kernel_rfl) (by kernel_rfl) ?hq6x7 ?hy6x7 hHeld ?rest6x7
          case hi6x7 => ((try simp only [List.getElem?_toArray, List.getElem?_cons_succ, List.getElem?_cons_zero]); (try rfl))
          case hq6x7 => exact fun _ _ _ h => h
          case hy6x7 => exact Or.inl ⟨by rfl, by intro w hSw; clear hSw; go_simp; try with_reducible rfl⟩
          try simp only [Act.put, List.setIfInBounds_toArray, List.set_cons_zero, List.set_cons_succ]
          refine wpAnyH_take (i := 7) (oi := ?oi7x8) (v := ?v7x8) ?hi7x8 (by kernel_rfl) (by kernel_rfl) (by kernel_rfl) ?hq7x8 ?hy7x8 hHeld ?rest7x8
          case hi7x8 => ((try simp only [List.getElem?_toArray, List.getElem?_cons_succ, List.getElem?_cons_zero]); (try rfl))
          case hq7x8 => exact fun _ _ _ h => h
          case hy7x8 => 
            refine' yieldsIf_load_mid ?_ 23 (.tmp 107) ?_ b (off + k * 8) ?_ (obsC o) _ ?_ Tryz.underlying23 ?_ info8
            · rfl
            · rfl
            · rfl
            · exact fun _ h => ((RW.rows h) (b, off + k * 8, o) (by simp)).2
            · rfl
          try simp only [Act.put, List.setIfInBounds_toArray, List.set_cons_zero, List.set_cons_succ]
          refine wpAnyH_take (i := 8) (oi := ?oi8x9) (v := (.bool (decide (cmpO p o = 0)))) ?hi8x9 (by kernel_rfl) (by kernel_rfl) (by kernel_rfl) ?hq8x9 ?hy8x9 hHeld ?rest8x9
          case hi8x9 => ((try simp only [List.getElem?_toArray, List.getElem?_cons_succ, List.getElem?_cons_zero]); (try rfl))
          case hq8x9 => exact fun _ _ _ h => h
          case hy8x9 => exact Or.inl ⟨by rfl, by intro w hSw; clear hSw; go_simp; exact ifs_eq p o w⟩
          try simp only [Act.put, List.setIfInBounds_toArray, List.set_cons_zero, List.set_cons_succ]
          refine wpAnyH_done (by kernel_rfl) ?_ _
          have V2 := Lib.hid hHeld
          clear hHeld V
          by_cases c1 : cmpO p o = 0
          · rw [decide_eq_true c1]
            have ea : Hid (ca' = ca + 1) := Lib.hid (by rw [EA.out, if_pos c1])
            clear c1 EA
            go_wp2_with fail
            refine wp_region_held_drew (S := RW [(b, off + j * 8, p), (b, off + k * 8, o), (b3, off3 + j * 8, r)] W9) (by kernel_rfl) (V2.out.call (Below.refl _ _).drew) (fun hHeld => ?_)
            refine wpAnyH_take (i := 0) (oi := ?oi0x10) (v := ?v0x10) ?hi0x10 (by kernel_rfl) (by kernel_rfl) (by kernel_rfl) ?hq0x10 ?hy0x10 hHeld ?rest0x10
            case hi0x10 => ((try simp only [List.getElem?_toArray, List.getElem?_cons_succ, List.getElem?_cons_zero]); (try rfl))
            case hq0x10 => exact fun _ _ _ h => h
            case hy0x10 => exact Or.inl ⟨by rfl, by intro w hSw; clear hSw; go_simp; try with_reducible rfl⟩
            try simp only [Act.put, List.setIfInBounds_toArray, List.set_cons_zero, List.set_cons_succ]
            refine wpAnyH_take (i := 1) (oi := ?oi1x11) (v := ?v1x11) ?hi1x11 (by kernel_rfl) (by kernel_rfl) (by kernel_rfl) ?hq1x11 ?hy1x11 hHeld ?rest1x11
            case hi1x11 => ((try simp only [List.getElem?_toArray, List.getElem?_cons_succ, List.getElem?_cons_zero]); (try rfl))
            case hq1x11 => exact fun _ _ _ h => h
            case hy1x11 => exact Or.inl ⟨by rfl, by intro w hSw; clear hSw; go_simp; try with_reducible rfl⟩
            try simp only [Act.put, List.setIfInBounds_toArray, List.set_cons_zero, List.set_cons_succ]
            refine wpAnyH_take (i := 2) (oi := ?oi2x12) (v := ?v2x12) ?hi2x12 (by kernel_rfl) (by kernel_rfl) (by kernel_rfl) ?hq2x12 ?hy2x12 hHeld ?rest2x12
            case hi2x12 => ((try simp only [List.getElem?_toArray, List.getElem?_cons_succ, List.getElem?_cons_zero]); (try rfl))
            case hq2x12 => exact fun _ _ _ h => h
            case hy2x12 => exact Or.inl ⟨by rfl, by intro w hSw; clear hSw; go_simp; try with_reducible rfl⟩
            try simp only [Act.put, List.setIfInBounds_toArray, List.set_cons_zero, List.set_cons_succ]
            refine wpAnyH_take (i := 3) (oi := ?oi3x13) (v := ?v3x13) ?hi3x13 (by kernel_rfl) (by kernel_rfl) (by kernel_rfl) ?hq3x13 ?hy3x13 hHeld ?rest3x13
            case hi3x13 => ((try simp only [List.getElem?_toArray, List.getElem?_cons_succ, List.getElem?_cons_zero]); (try rfl))
            case hq3x13 => exact fun _ _ _ h => h
            case hy3x13 => 
              refine' yieldsIf_load_mid ?_ 23 (.tmp 114) ?_ b3 (off3 + j * 8) ?_ (obsC r) _ ?_ Tryz.underlying23 ?_ info8
              · rfl
              · rfl
              · rfl
              · exact fun _ h => ((RW.rows h) (b3, off3 + j * 8, r) (by simp)).2
              · rfl
            try simp only [Act.put, List.setIfInBounds_toArray, List.set_cons_zero, List.set_cons_succ]
            refine wpAnyH_take (i := 4) (oi := ?oi4x14) (v := ?v4x14) ?hi4x14 (by kernel_rfl) (by kernel_rfl) (by kernel_rfl) ?hq4x14 ?hy4x14 hHeld ?rest4x14
            case hi4x14 => ((try simp only [List.getElem?_toArray, List.getElem?_cons_succ, List.getElem?_cons_zero]); (try rfl))
            case hq4x14 => exact fun _ _ _ h => h
            case hy4x14 => exact Or.inl ⟨by rfl, by intro w hSw; clear hSw; go_simp; try with_reducible rfl⟩
            try simp only [Act.put, List.setIfInBounds_toArray, List.set_cons_zero, List.set_cons_succ]
            refine wpAnyH_take (i := 5) (oi := ?oi5x15) (v := ?v5x15) ?hi5x15 (by kernel_rfl) (by kernel_rfl) (by kernel_rfl) ?hq5x15 ?hy5x15 hHeld ?rest5x15
            case hi5x15 => ((try simp only [List.getElem?_toArray, List.getElem?_cons_succ, List.getElem?_cons_zero]); (try rfl))
            case hq5x15 => exact fun _ _ _ h => h
            case hy5x15 => exact Or.inl ⟨by rfl, by intro w hSw; clear hSw; go_simp; try with_reducible rfl⟩
            try simp only [Act.put, List.setIfInBounds_toArray, List.set_cons_zero, List.set_cons_succ]
            refine wpAnyH_take (i := 6) (oi := ?oi6x16) (v := ?v6x16) ?hi6x16 (by kernel_rfl) (by kernel_rfl) (by kernel_rfl) ?hq6x16 ?hy6x16 hHeld ?rest6x16
            case hi6x16 => ((try simp only [List.getElem?_toArray, List.getElem?_cons_succ, List.getElem?_cons_zero]); (try rfl))
            case hq6x16 => exact fun _ _ _ h => h
            case hy6x16 => exact Or.inl ⟨by rfl, by intro w hSw; clear hSw; go_simp; try with_reducible rfl⟩
            try simp only [Act.put, List.setIfInBounds_toArray, List.set_cons_zero, List.set_cons_succ]
            refine wpAnyH_take (i := 7) (oi := ?oi7x17) (v := ?v7x17) ?hi7x17 (by kernel_rfl) (by kernel_rfl) (by kernel_rfl) ?hq7x17 ?hy7x17 hHeld ?rest7x17
            case hi7x17 => ((try simp only [List.getElem?_toArray, List.getElem?_cons_succ, List.getElem?_cons_zero]); (try rfl))
            case hq7x17 => exact fun _ _ _ h => h
            case hy7x17 => 
              refine' yieldsIf_load_mid ?_ 23 (.tmp 118) ?_ b (off + k * 8) ?_ (obsC o) _ ?_ Tryz.underlying23 ?_ info8
              · rfl
              · rfl
              · rfl
              · exact fun _ h => ((RW.rows h) (b, off + k * 8, o) (by simp)).2
              · rfl
            try simp only [Act.put, List.setIfInBounds_toArray, List.set_cons_zero, List.set_cons_succ]
            refine wpAnyH_take (i := 8) (oi := ?oi8x18) (v := (.bool (decide (cmpO r o = 0)))) ?hi8x18 (by kernel_rfl) (by kernel_rfl) (by kernel_rfl) ?hq8x18 ?hy8x18 hHeld ?rest8x18
            case hi8x18 => ((try simp only [List.getElem?_toArray, List.getElem?_cons_succ, List.getElem?_cons_zero]); (try rfl))
            case hq8x18 => exact fun _ _ _ h => h
            case hy8x18 => exact Or.inl ⟨by rfl, by intro w hSw; clear hSw; go_simp; exact ifs_eq r o w⟩
            try simp only [Act.put, List.setIfInBounds_toArray, List.set_cons_zero, List.set_cons_succ]
            refine wpAnyH_done (by kernel_rfl) ?_ _
            have E3 := Lib.hid hHeld.below
            clear hHeld V2
            by_cases c2 : cmpO r o = 0
            · rw [decide_eq_true c2]
              have eb : Hid (cb' = cb + 1) := Lib.hid (by rw [EB.out, if_pos c2])
              clear c2 EB
              go_wp2_with fail
              go_roundw
              case rel => exact ⟨j + 1, by omega, by go_num, by rw [HCA.out, ea.out]; try go_num, by rw [HCB.out, eb.out]; try go_num, E3⟩
              case measure => simp [intOf]; omega
            · rw [decide_eq_false c2]
              have eb : Hid (cb' = cb) := Lib.hid (by rw [EB.out, if_neg c2]; rfl)
              clear c2 EB
              go_wp2_with fail
              go_roundw
              case rel => exact ⟨j + 1, by omega, by go_num, by rw [HCA.out, ea.out]; try go_num, by rw [HCB.out, eb.out]; try go_num, E3⟩
              case measure => simp [intOf]; omega
          · rw [decide_eq_false c1]
            have ea : Hid (ca' = ca) := Lib.hid (by rw [EA.out, if_neg c1]; rfl)
            clear c1 EA
            go_wp2_with fail
            refine wp_region_held_drew (S := RW [(b, off + j * 8, p), (b, off + k * 8, o), (b3, off3 + j * 8, r)] W9) (by kernel_rfl) (V2.out.call (Below.refl _ _).drew) (fun hHeld => ?_)
            refine wpAnyH_take (i := 0) (oi := ?oi0x19) (v := ?v0x19) ?hi0x19 (by kernel_rfl) (by kernel_rfl) (by kernel_rfl) ?hq0x19 ?hy0x19 hHeld ?rest0x19
            case hi0x19 => ((try simp only [List.getElem?_toArray, List.getElem?_cons_succ, List.getElem?_cons_zero]); (try rfl))
            case hq0x19 => exact fun _ _ _ h => h
            case hy0x19 => exact Or.inl ⟨by rfl, by intro w hSw; clear hSw; go_simp; try with_reducible rfl⟩
            try simp only [Act.put, List.setIfInBounds_toArray, List.set_cons_zero, List.set_cons_succ]
            refine wpAnyH_take (i := 1) (oi := ?oi1x20) (v := ?v1x20) ?hi1x20 (by kernel_rfl) (by kernel_rfl) (by kernel_rfl) ?hq1x20 ?hy1x20 hHeld ?rest1x20
            case hi1x20 => ((try simp only [List.getElem?_toArray, List.getElem?_cons_succ, List.getElem?_cons_zero]); (try rfl))
            case hq1x20 => exact fun _ _ _ h => h
            case hy1x20 => exact Or.inl ⟨by rfl, by intro w hSw; clear hSw; go_simp; try with_reducible rfl⟩
            try simp only [Act.put, List.setIfInBounds_toArray, List.set_cons_zero, List.set_cons_succ]
            refine wpAnyH_take (i := 2) (oi := ?oi2x21) (v := ?v2x21) ?hi2x21 (by kernel_rfl) (by kernel_rfl) (by kernel_rfl) ?hq2x21 ?hy2x21 hHeld ?rest2x21
            case hi2x21 => ((try simp only [List.getElem?_toArray, List.getElem?_cons_succ, List.getElem?_cons_zero]); (try rfl))
            case hq2x21 => exact fun _ _ _ h => h
            case hy2x21 => exact Or.inl ⟨by rfl, by intro w hSw; clear hSw; go_simp; try with_reducible rfl⟩
            try simp only [Act.put, List.setIfInBounds_toArray, List.set_cons_zero, List.set_cons_succ]
            refine wpAnyH_take (i := 3) (oi := ?oi3x22) (v := ?v3x22) ?hi3x22 (by kernel_rfl) (by kernel_rfl) (by kernel_rfl) ?hq3x22 ?hy3x22 hHeld ?rest3x22
            case hi3x22 => ((try simp only [List.getElem?_toArray, List.getElem?_cons_succ, List.getElem?_cons_zero]); (try rfl))
            case hq3x22 => exact fun _ _ _ h => h
            case hy3x22 => 
              refine' yieldsIf_load_mid ?_ 23 (.tmp 114) ?_ b3 (off3 + j * 8) ?_ (obsC r) _ ?_ Tryz.underlying23 ?_ info8
              · rfl
              · rfl
              · rfl
              · exact fun _ h => ((RW.rows h) (b3, off3 + j * 8, r) (by simp)).2
              · rfl
            try simp only [Act.put, List.setIfInBounds_toArray, List.set_cons_zero, List.set_cons_succ]
            refine wpAnyH_take (i := 4) (oi := ?oi4x23) (v := ?v4x23) ?hi4x23 (by kernel_rfl) (by kernel_rfl) (by kernel_rfl) ?hq4x23 ?hy4x23 hHeld ?rest4x23
            case hi4x23 => ((try simp only [List.getElem?_toArray, List.getElem?_cons_succ, List.getElem?_cons_zero]); (try rfl))
            case hq4x23 => exact fun _ _ _ h => h
            case hy4x23 => exact Or.inl ⟨by rfl, by intro w hSw; clear hSw; go_simp; try with_reducible rfl⟩
            try simp only [Act.put, List.setIfInBounds_toArray, List.set_cons_zero, List.set_cons_succ]
            refine wpAnyH_take (i := 5) (oi := ?oi5x24) (v := ?v5x24) ?hi5x24 (by kernel_rfl) (by kernel_rfl) (by kernel_rfl) ?hq5x24 ?hy5x24 hHeld ?rest5x24
            case hi5x24 => ((try simp only [List.getElem?_toArray, List.getElem?_cons_succ, List.getElem?_cons_zero]); (try rfl))
            case hq5x24 => exact fun _ _ _ h => h
            case hy5x24 => exact Or.inl ⟨by rfl, by intro w hSw; clear hSw; go_simp; try with_reducible rfl⟩
            try simp only [Act.put, List.setIfInBounds_toArray, List.set_cons_zero, List.set_cons_succ]
            refine wpAnyH_take (i := 6) (oi := ?oi6x25) (v := ?v6x25) ?hi6x25 (by kernel_rfl) (by kernel_rfl) (by kernel_rfl) ?hq6x25 ?hy6x25 hHeld ?rest6x25
            case hi6x25 => ((try simp only [List.getElem?_toArray, List.getElem?_cons_succ, List.getElem?_cons_zero]); (try rfl))
            case hq6x25 => exact fun _ _ _ h => h
            case hy6x25 => exact Or.inl ⟨by rfl, by intro w hSw; clear hSw; go_simp; try with_reducible rfl⟩
            try simp only [Act.put, List.setIfInBounds_toArray, List.set_cons_zero, List.set_cons_succ]
            refine wpAnyH_take (i := 7) (oi := ?oi7x26) (v := ?v7x26) ?hi7x26 (by kernel_rfl) (by kernel_rfl) (by kernel_rfl) ?hq7x26 ?hy7x26 hHeld ?rest7x26
            case hi7x26 => ((try simp only [List.getElem?_toArray, List.getElem?_cons_succ, List.getElem?_cons_zero]); (try rfl))
            case hq7x26 => exact fun _ _ _ h => h
            case hy7x26 => 
              refine' yieldsIf_load_mid ?_ 23 (.tmp 118) ?_ b (off + k * 8) ?_ (obsC o) _ ?_ Tryz.underlying23 ?_ info8
              · rfl
              · rfl
              · rfl
              · exact fun _ h => ((RW.rows h) (b, off + k * 8, o) (by simp)).2
              · rfl
            try simp only [Act.put, List.setIfInBounds_toArray, List.set_cons_zero, List.set_cons_succ]
            refine wpAnyH_take (i := 8) (oi := ?oi8x27) (v := (.bool (decide (cmpO r o = 0)))) ?hi8x27 (by kernel_rfl) (by kernel_rfl) (by kernel_rfl) ?hq8x27 ?hy8x27 hHeld ?rest8x27
            case hi8x27 => ((try simp only [List.getElem?_toArray, List.getElem?_cons_succ, List.getElem?_cons_zero]); (try rfl))
            case hq8x27 => exact fun _ _ _ h => h
            case hy8x27 => exact Or.inl ⟨by rfl, by intro w hSw; clear hSw; go_simp; exact ifs_eq r o w⟩
            try simp only [Act.put, List.setIfInBounds_toArray, List.set_cons_zero, List.set_cons_succ]
            refine wpAnyH_done (by kernel_rfl) ?_ _
            have E3 := Lib.hid hHeld.below
            clear hHeld V2
            by_cases c2 : cmpO r o = 0
            · rw [decide_eq_true c2]
              have eb : Hid (cb' = cb + 1) := Lib.hid (by rw [EB.out, if_pos c2])
              clear c2 EB
              go_wp2_with fail
              go_roundw
              case rel => exact ⟨j + 1, by omega, by go_num, by rw [HCA.out, ea.out]; try go_num, by rw [HCB.out, eb.out]; try go_num, E3⟩
              case measure => simp [intOf]; omega
            · rw [decide_eq_false c2]
              have eb : Hid (cb' = cb) := Lib.hid (by rw [EB.out, if_neg c2]; rfl)
              clear c2 EB
              go_wp2_with fail
              go_roundw
              case rel => exact ⟨j + 1, by omega, by go_num, by rw [HCA.out, ea.out]; try go_num, by rw [HCB.out, eb.out]; try go_num, E3⟩
              case measure => simp [intOf]; omega
        · obtain rfl : j = n := by omega
          have EQ : cnt X o j = cnt l o j := by have := cnt_all PX.out o; rwa [NL.out] at this
          rw [EQ]
          have lc := cnt_le l o j
          generalize cnt l o j = ca at *
          have VM := Lib.hid (show bm < wr.heap.size ∧ wr.rangeAt bm (offm + k * 8) (obsC q') from (X1'.out _ DE.out).row hkm HQ.out)
          have VB := Lib.hid (X9.out.call E.out)
          have k0 : (0 : Int) ≤ (k : Int) := by omega
          clear EQ HL X9 HO
          by_cases hk0 : k = 0
          · subst hk0
            have V := Lib.hid (show RW [(w8.heap.size, 0, q'), (bm, offm + 0 * 8, q')] w6 wr from ⟨fun t ht => by
              simp only [List.mem_cons, List.not_mem_nil, or_false] at ht
              rcases ht with rfl | rfl
              · exact ⟨VB.out.lt, VB.out.row⟩
              · exact VM.out, DE.out⟩)
            clear VM VB
            go_wp2_with fail
            refine wp_region_held_drew (S := RW [(w8.heap.size, 0, q'), (bm, offm + 0 * 8, q')] w6) (by kernel_rfl) (V.out.call (Below.refl _ _).drew) (fun hHeld => ?_)
            refine wpAnyH_take (i := 0) (oi := ?oi0x28) (v := ?v0x28) ?hi0x28 (by kernel_rfl) (by kernel_rfl) (by kernel_rfl) ?hq0x28 ?hy0x28 hHeld ?rest0x28
            case hi0x28 => ((try simp only [List.getElem?_toArray, List.getElem?_cons_succ, List.getElem?_cons_zero]); (try rfl))
            case hq0x28 => exact fun _ _ _ h => h
            case hy0x28 => exact Or.inl ⟨by rfl, by intro w hSw; clear hSw; go_simp; try with_reducible rfl⟩
            try simp only [Act.put, List.setIfInBounds_toArray, List.set_cons_zero, List.set_cons_succ]
            refine wpAnyH_take (i := 1) (oi := ?oi1x29) (v := ?v1x29) ?hi1x29 (by kernel_rfl) (by kernel_rfl) (by kernel_rfl) ?hq1x29 ?hy1x29 hHeld ?rest1x29
            case hi1x29 => ((try simp only [List.getElem?_toArray, List.getElem?_cons_succ, List.getElem?_cons_zero]); (try rfl))
            case hq1x29 => exact fun _ _ _ h => h
            case hy1x29 => exact Or.inl ⟨by rfl, by intro w hSw; clear hSw; go_simp; try with_reducible rfl⟩
            try simp only [Act.put, List.setIfInBounds_toArray, List.set_cons_zero, List.set_cons_succ]
            refine wpAnyH_take (i := 2) (oi := ?oi2x30) (v := ?v2x30) ?hi2x30 (by kernel_rfl) (by kernel_rfl) (by kernel_rfl) ?hq2x30 ?hy2x30 hHeld ?rest2x30
            case hi2x30 => ((try simp only [List.getElem?_toArray, List.getElem?_cons_succ, List.getElem?_cons_zero]); (try rfl))
            case hq2x30 => exact fun _ _ _ h => h
            case hy2x30 => exact Or.inl ⟨by rfl, by intro w hSw; clear hSw; go_simp; try with_reducible rfl⟩
            try simp only [Act.put, List.setIfInBounds_toArray, List.set_cons_zero, List.set_cons_succ]
            refine wpAnyH_take (i := 3) (oi := ?oi3x31) (v := ?v3x31) ?hi3x31 (by kernel_rfl) (by kernel_rfl) (by kernel_rfl) ?hq3x31 ?hy3x31 hHeld ?rest3x31
            case hi3x31 => ((try simp only [List.getElem?_toArray, List.getElem?_cons_succ, List.getElem?_cons_zero]); (try rfl))
            case hq3x31 => exact fun _ _ _ h => h
            case hy3x31 => 
              refine' yieldsIf_load_mid ?_ 23 (.tmp 11) ?_ w8.heap.size (0) ?_ (obsC q') _ ?_ Tryz.underlying23 ?_ info8
              · rfl
              · rfl
              · rfl
              · exact fun _ h => ((RW.rows h) (w8.heap.size, 0, q') (by simp)).2
              · rfl
            try simp only [Act.put, List.setIfInBounds_toArray, List.set_cons_zero, List.set_cons_succ]
            refine wpAnyH_take (i := 4) (oi := ?oi4x32) (v := ?v4x32) ?hi4x32 (by kernel_rfl) (by kernel_rfl) (by kernel_rfl) ?hq4x32 ?hy4x32 hHeld ?rest4x32
            case hi4x32 => ((try simp only [List.getElem?_toArray, List.getElem?_cons_succ, List.getElem?_cons_zero]); (try rfl))
            case hq4x32 => exact fun _ _ _ h => h
            case hy4x32 => exact Or.inl ⟨by rfl, by intro w hSw; clear hSw; go_simp; try with_reducible rfl⟩
            try simp only [Act.put, List.setIfInBounds_toArray, List.set_cons_zero, List.set_cons_succ]
            refine wpAnyH_take (i := 5) (oi := ?oi5x33) (v := ?v5x33) ?hi5x33 (by kernel_rfl) (by kernel_rfl) (by kernel_rfl) ?hq5x33 ?hy5x33 hHeld ?rest5x33
            case hi5x33 => ((try simp only [List.getElem?_toArray, List.getElem?_cons_succ, List.getElem?_cons_zero]); (try rfl))
            case hq5x33 => exact fun _ _ _ h => h
            case hy5x33 => exact Or.inl ⟨by rfl, by intro w hSw; clear hSw; go_simp; try with_reducible rfl⟩
            try simp only [Act.put, List.setIfInBounds_toArray, List.set_cons_zero, List.set_cons_succ]
            refine wpAnyH_take (i := 6) (oi := ?oi6x34) (v := ?v6x34) ?hi6x34 (by kernel_rfl) (by kernel_rfl) (by kernel_rfl) ?hq6x34 ?hy6x34 hHeld ?rest6x34
            case hi6x34 => ((try simp only [List.getElem?_toArray, List.getElem?_cons_succ, List.getElem?_cons_zero]); (try rfl))
            case hq6x34 => exact fun _ _ _ h => h
            case hy6x34 => exact Or.inl ⟨by rfl, by intro w hSw; clear hSw; go_simp; try with_reducible rfl⟩
            try simp only [Act.put, List.setIfInBounds_toArray, List.set_cons_zero, List.set_cons_succ]
            refine wpAnyH_take (i := 7) (oi := ?oi7x35) (v := ?v7x35) ?hi7x35 (by kernel_rfl) (by kernel_rfl) (by kernel_rfl) ?hq7x35 ?hy7x35 hHeld ?rest7x35
            case hi7x35 => ((try simp only [List.getElem?_toArray, List.getElem?_cons_succ, List.getElem?_cons_zero]); (try rfl))
            case hq7x35 => exact fun _ _ _ h => h
            case hy7x35 => 
              refine' yieldsIf_load_mid ?_ 23 (.tmp 129) ?_ bm (offm + 0 * 8) ?_ (obsC q') _ ?_ Tryz.underlying23 ?_ info8
              · rfl
              · rfl
              · rfl
              · exact fun _ h => ((RW.rows h) (bm, offm + 0 * 8, q') (by simp)).2
              · rfl
            try simp only [Act.put, List.setIfInBounds_toArray, List.set_cons_zero, List.set_cons_succ]
            refine wpAnyH_take (i := 8) (oi := ?oi8x36) (v := ?v8x36) ?hi8x36 (by kernel_rfl) (by kernel_rfl) (by kernel_rfl) ?hq8x36 ?hy8x36 hHeld ?rest8x36
            case hi8x36 => ((try simp only [List.getElem?_toArray, List.getElem?_cons_succ, List.getElem?_cons_zero]); (try rfl))
            case hq8x36 => exact fun _ _ _ h => h
            case hy8x36 => exact Or.inl ⟨by rfl, by intro w hSw; clear hSw; go_simp; try with_reducible rfl⟩
            try simp only [Act.put, List.setIfInBounds_toArray, List.set_cons_zero, List.set_cons_succ]
            refine wpAnyH_take (i := 9) (oi := ?oi9x37) (v := ?v9x37) ?hi9x37 (by kernel_rfl) (by kernel_rfl) (by kernel_rfl) ?hq9x37 ?hy9x37 hHeld ?rest9x37
            case hi9x37 => ((try simp only [List.getElem?_toArray, List.getElem?_cons_succ, List.getElem?_cons_zero]); (try rfl))
            case hq9x37 => exact fun _ _ _ h => h
            case hy9x37 => exact Or.inl ⟨by rfl, by intro w hSw; clear hSw; go_simp; try with_reducible rfl⟩
            try simp only [Act.put, List.setIfInBounds_toArray, List.set_cons_zero, List.set_cons_succ]
            refine wpAnyH_take (i := 10) (oi := ?oi10x38) (v := ?v10x38) ?hi10x38 (by kernel_rfl) (by kernel_rfl) (by kernel_rfl) ?hq10x38 ?hy10x38 hHeld ?rest10x38
            case hi10x38 => ((try simp only [List.getElem?_toArray, List.getElem?_cons_succ, List.getElem?_cons_zero]); (try rfl))
            case hq10x38 => exact fun _ _ _ h => h
            case hy10x38 => exact Or.inl ⟨by rfl, by intro w hSw; clear hSw; go_simp; try with_reducible rfl⟩
            try simp only [Act.put, List.setIfInBounds_toArray, List.set_cons_zero, List.set_cons_succ]
            refine wpAnyH_take (i := 11) (oi := ?oi11x39) (v := ?v11x39) ?hi11x39 (by kernel_rfl) (by kernel_rfl) (by kernel_rfl) ?hq11x39 ?hy11x39 hHeld ?rest11x39
            case hi11x39 => ((try simp only [List.getElem?_toArray, List.getElem?_cons_succ, List.getElem?_cons_zero]); (try rfl))
            case hq11x39 => exact fun _ _ _ h => h
            case hy11x39 => exact Or.inl ⟨by rfl, by intro w hSw; clear hSw; go_simp; try with_reducible rfl⟩
            try simp only [Act.put, List.setIfInBounds_toArray, List.set_cons_zero, List.set_cons_succ]
            refine wpAnyH_take (i := 12) (oi := ?oi12x40) (v := ?v12x40) ?hi12x40 (by kernel_rfl) (by kernel_rfl) (by kernel_rfl) ?hq12x40 ?hy12x40 hHeld ?rest12x40
            case hi12x40 => ((try simp only [List.getElem?_toArray, List.getElem?_cons_succ, List.getElem?_cons_zero]); (try rfl))
            case hq12x40 => exact fun _ _ _ h => h
            case hy12x40 => exact Or.inl ⟨by rfl, by intro w hSw; clear hSw; go_simp; try with_reducible rfl⟩
            try simp only [Act.put, List.setIfInBounds_toArray, List.set_cons_zero, List.set_cons_succ]
            refine wpAnyH_take (i := 13) (oi := ?oi13x41) (v := ?v13x41) ?hi13x41 (by kernel_rfl) (by kernel_rfl) (by kernel_rfl) ?hq13x41 ?hy13x41 hHeld ?rest13x41
            case hi13x41 => ((try simp only [List.getElem?_toArray, List.getElem?_cons_succ, List.getElem?_cons_zero]); (try rfl))
            case hq13x41 => exact fun _ _ _ h => h
            case hy13x41 => exact Or.inl ⟨by rfl, by intro w hSw; clear hSw; go_simp; try with_reducible rfl⟩
            try simp only [Act.put, List.setIfInBounds_toArray, List.set_cons_zero, List.set_cons_succ]
            refine wpAnyH_take (i := 14) (oi := ?oi14x42) (v := ?v14x42) ?hi14x42 (by kernel_rfl) (by kernel_rfl) (by kernel_rfl) ?hq14x42 ?hy14x42 hHeld ?rest14x42
            case hi14x42 => ((try simp only [List.getElem?_toArray, List.getElem?_cons_succ, List.getElem?_cons_zero]); (try rfl))
            case hq14x42 => exact fun _ _ _ h => h
            case hy14x42 => exact Or.inl ⟨by rfl, by intro w hSw; clear hSw; go_simp; try with_reducible rfl⟩
            try simp only [Act.put, List.setIfInBounds_toArray, List.set_cons_zero, List.set_cons_succ]
            refine wpAnyH_take (i := 15) (oi := ?oi15x43) (v := ?v15x43) ?hi15x43 (by kernel_rfl) (by kernel_rfl) (by kernel_rfl) ?hq15x43 ?hy15x43 hHeld ?rest15x43
            case hi15x43 => ((try simp only [List.getElem?_toArray, List.getElem?_cons_succ, List.getElem?_cons_zero]); (try rfl))
            case hq15x43 => exact fun _ _ _ h => h
            case hy15x43 => exact Or.inl ⟨by rfl, by intro w hSw; clear hSw; go_simp; try with_reducible rfl⟩
            try simp only [Act.put, List.setIfInBounds_toArray, List.set_cons_zero, List.set_cons_succ]
            refine wpAnyH_take (i := 16) (oi := ?oi16x44) (v := ?v16x44) ?hi16x44 (by kernel_rfl) (by kernel_rfl) (by kernel_rfl) ?hq16x44 ?hy16x44 hHeld ?rest16x44
            case hi16x44 => ((try simp only [List.getElem?_toArray, List.getElem?_cons_succ, List.getElem?_cons_zero]); (try rfl))
            case hq16x44 => exact fun _ _ _ h => h
            case hy16x44 => exact Or.inl ⟨by rfl, by intro w hSw; clear hSw; go_simp; try with_reducible rfl⟩
            try simp only [Act.put, List.setIfInBounds_toArray, List.set_cons_zero, List.set_cons_succ]
            refine wpAnyH_take (i := 17) (oi := ?oi17x45) (v := ?v17x45) ?hi17x45 (by kernel_rfl) (by kernel_rfl) (by kernel_rfl) ?hq17x45 ?hy17x45 hHeld ?rest17x45
            case hi17x45 => ((try simp only [List.getElem?_toArray, List.getElem?_cons_succ, List.getElem?_cons_zero]); (try rfl))
            case hq17x45 => exact fun _ _ _ h => h
            case hy17x45 => exact Or.inl ⟨by rfl, by intro w hSw; clear hSw; go_simp; try with_reducible rfl⟩
            try simp only [Act.put, List.setIfInBounds_toArray, List.set_cons_zero, List.set_cons_succ]
            refine wpAnyH_take (i := 18) (oi := ?oi18x46) (v := ?v18x46) ?hi18x46 (by kernel_rfl) (by kernel_rfl) (by kernel_rfl) ?hq18x46 ?hy18x46 hHeld ?rest18x46
            case hi18x46 => ((try simp only [List.getElem?_toArray, List.getElem?_cons_succ, List.getElem?_cons_zero]); (try rfl))
            case hq18x46 => exact fun _ _ _ h => h
            case hy18x46 => exact Or.inl ⟨by rfl, by intro w hSw; clear hSw; go_simp; try with_reducible rfl⟩
            try simp only [Act.put, List.setIfInBounds_toArray, List.set_cons_zero, List.set_cons_succ]
            refine wpAnyH_take (i := 19) (oi := ?oi19x47) (v := undef) ?hi19x47 (by kernel_rfl) (by kernel_rfl) (by kernel_rfl) ?hq19x47 ?hy19x47 hHeld ?rest19x47
            case hi19x47 => ((try simp only [List.getElem?_toArray, List.getElem?_cons_succ, List.getElem?_cons_zero]); (try rfl))
            case hq19x47 => exact fun _ _ _ h => h
            case hy19x47 => exact Or.inr ⟨by rfl, rfl⟩
            try simp only [Act.put, List.setIfInBounds_toArray, List.set_cons_zero, List.set_cons_succ]
            refine wpAnyH_take (i := 20) (oi := ?oi20x48) (v := undef) ?hi20x48 (by kernel_rfl) (by kernel_rfl) (by kernel_rfl) ?hq20x48 ?hy20x48 hHeld ?rest20x48
            case hi20x48 => ((try simp only [List.getElem?_toArray, List.getElem?_cons_succ, List.getElem?_cons_zero]); (try rfl))
            case hq20x48 => exact fun _ _ _ h => h
            case hy20x48 => exact Or.inr ⟨by rfl, rfl⟩
            try simp only [Act.put, List.setIfInBounds_toArray, List.set_cons_zero, List.set_cons_succ]
            refine wpAnyH_take (i := 21) (oi := ?oi21x49) (v := undef) ?hi21x49 (by kernel_rfl) (by kernel_rfl) (by kernel_rfl) ?hq21x49 ?hy21x49 hHeld ?rest21x49
            case hi21x49 => ((try simp only [List.getElem?_toArray, List.getElem?_cons_succ, List.getElem?_cons_zero]); (try rfl))
            case hq21x49 => exact fun _ _ _ h => h
            case hy21x49 => exact Or.inr ⟨by rfl, rfl⟩
            try simp only [Act.put, List.setIfInBounds_toArray, List.set_cons_zero, List.set_cons_succ]
            refine wpAnyH_take (i := 22) (oi := ?oi22x50) (v := undef) ?hi22x50 (by kernel_rfl) (by kernel_rfl) (by kernel_rfl) ?hq22x50 ?hy22x50 hHeld ?rest22x50
            case hi22x50 => ((try simp only [List.getElem?_toArray, List.getElem?_cons_succ, List.getElem?_cons_zero]); (try rfl))
            case hq22x50 => exact fun _ _ _ h => h
            case hy22x50 => exact Or.inr ⟨by rfl, rfl⟩
            try simp only [Act.put, List.setIfInBounds_toArray, List.set_cons_zero, List.set_cons_succ]
            refine wpAnyH_take (i := 23) (oi := ?oi23x51) (v := undef) ?hi23x51 (by kernel_rfl) (by kernel_rfl) (by kernel_rfl) ?hq23x51 ?hy23x51 hHeld ?rest23x51
            case hi23x51 => ((try simp only [List.getElem?_toArray, List.getElem?_cons_succ, List.getElem?_cons_zero]); (try rfl))
            case hq23x51 => exact fun _ _ _ h => h
            case hy23x51 => exact Or.inr ⟨by rfl, rfl⟩
            try simp only [Act.put, List.setIfInBounds_toArray, List.set_cons_zero, List.set_cons_succ]
            refine wpAnyH_take (i := 24) (oi := ?oi24x52) (v := undef) ?hi24x52 (by kernel_rfl) (by kernel_rfl) (by kernel_rfl) ?hq24x52 ?hy24x52 hHeld ?rest24x52
            case hi24x52 => ((try simp only [List.getElem?_toArray, List.getElem?_cons_succ, List.getElem?_cons_zero]); (try rfl))
            case hq24x52 => exact fun _ _ _ h => h
            case hy24x52 => exact Or.inr ⟨by rfl, rfl⟩
            try simp only [Act.put, List.setIfInBounds_toArray, List.set_cons_zero, List.set_cons_succ]
            refine wpAnyH_take (i := 25) (oi := ?oi25x53) (v := undef) ?hi25x53 (by kernel_rfl) (by kernel_rfl) (by kernel_rfl) ?hq25x53 ?hy25x53 hHeld ?rest25x53
            case hi25x53 => ((try simp only [List.getElem?_toArray, List.getElem?_cons_succ, List.getElem?_cons_zero]); (try rfl))
            case hq25x53 => exact fun _ _ _ h => h
            case hy25x53 => exact Or.inr ⟨by rfl, rfl⟩
            try simp only [Act.put, List.setIfInBounds_toArray, List.set_cons_zero, List.set_cons_succ]
            refine wpAnyH_take (i := 26) (oi := ?oi26x54) (v := undef) ?hi26x54 (by kernel_rfl) (by kernel_rfl) (by kernel_rfl) ?hq26x54 ?hy26x54 hHeld ?rest26x54
            case hi26x54 => ((try simp only [List.getElem?_toArray, List.getElem?_cons_succ, List.getElem?_cons_zero]); (try rfl))
            case hq26x54 => exact fun _ _ _ h => h
            case hy26x54 => exact Or.inr ⟨by rfl, rfl⟩
            try simp only [Act.put, List.setIfInBounds_toArray, List.set_cons_zero, List.set_cons_succ]
            refine wpAnyH_take (i := 27) (oi := ?oi27x55) (v := undef) ?hi27x55 (by kernel_rfl) (by kernel_rfl) (by kernel_rfl) ?hq27x55 ?hy27x55 hHeld ?rest27x55
            case hi27x55 => ((try simp only [List.getElem?_toArray, List.getElem?_cons_succ, List.getElem?_cons_zero]); (try rfl))
            case hq27x55 => exact fun _ _ _ h => h
            case hy27x55 => exact Or.inr ⟨by rfl, rfl⟩
            try simp only [Act.put, List.setIfInBounds_toArray, List.set_cons_zero, List.set_cons_succ]
            refine wpAnyH_take (i := 28) (oi := ?oi28x56) (v := undef) ?hi28x56 (by kernel_rfl) (by kernel_rfl) (by kernel_rfl) ?hq28x56 ?hy28x56 hHeld ?rest28x56
            case hi28x56 => ((try simp only [List.getElem?_toArray, List.getElem?_cons_succ, List.getElem?_cons_zero]); (try rfl))
            case hq28x56 => exact fun _ _ _ h => h
            case hy28x56 => exact Or.inr ⟨by rfl, rfl⟩
            try simp only [Act.put, List.setIfInBounds_toArray, List.set_cons_zero, List.set_cons_succ]
            refine wpAnyH_take (i := 29) (oi := ?oi29x57) (v := undef) ?hi29x57 (by kernel_rfl) (by kernel_rfl) (by kernel_rfl) ?hq29x57 ?hy29x57 hHeld ?rest29x57
            case hi29x57 => ((try simp only [List.getElem?_toArray, List.getElem?_cons_succ, List.getElem?_cons_zero]); (try rfl))
            case hq29x57 => exact fun _ _ _ h => h
            case hy29x57 => exact Or.inr ⟨by rfl, rfl⟩
            try simp only [Act.put, List.setIfInBounds_toArray, List.set_cons_zero, List.set_cons_succ]
            refine wpAnyH_take (i := 30) (oi := ?oi30x58) (v := ?v30x58) ?hi30x58 (by kernel_rfl) (by kernel_rfl) (by kernel_rfl) ?hq30x58 ?hy30x58 hHeld ?rest30x58
            case hi30x58 => ((try simp only [List.getElem?_toArray, List.getElem?_cons_succ, List.getElem?_cons_zero]); (try rfl))
            case hq30x58 => exact fun _ _ _ h => h
            case hy30x58 => exact Or.inl ⟨by rfl, by intro w hSw; clear hSw; go_simp; try with_reducible rfl⟩
            try simp only [Act.put, List.setIfInBounds_toArray, List.set_cons_zero, List.set_cons_succ]
            refine wpAnyH_take (i := 31) (oi := ?oi31x59) (v := ?v31x59) ?hi31x59 (by kernel_rfl) (by kernel_rfl) (by kernel_rfl) ?hq31x59 ?hy31x59 hHeld ?rest31x59
            case hi31x59 => ((try simp only [List.getElem?_toArray, List.getElem?_cons_succ, List.getElem?_cons_zero]); (try rfl))
            case hq31x59 => exact fun _ _ _ h => h
            case hy31x59 => exact Or.inl ⟨by rfl, by intro w hSw; clear hSw; go_simp; try with_reducible rfl⟩
            try simp only [Act.put, List.setIfInBounds_toArray, List.set_cons_zero, List.set_cons_succ]
            refine wpAnyH_done (by kernel_rfl) ?_ _
            have DF := Lib.hid hHeld.below
            clear hHeld V
            go_wp2_with fail
            go_roundw
            case rel => exact ⟨0 + 1, by omega, by go_num, DF⟩
            case measure => simp [intOf]; omega
          · obtain ⟨kk, hkk⟩ : ∃ kk, k = kk + 1 := ⟨k - 1, by omega⟩
            have hkkX : kk < X.length := by omega
            obtain ⟨p, hp⟩ : ∃ p, X[kk]'hkkX = p := ⟨_, rfl⟩
            obtain ⟨r, hr⟩ : ∃ r, X[k]'hkX = r := ⟨_, rfl⟩
            have V := Lib.hid (show RW [(w8.heap.size, 0, q'), (bm, offm + k * 8, q'), (b3, off3 + kk * 8, p), (b3, off3 + k * 8, r)] w6 wr from ⟨fun t ht => by
              simp only [List.mem_cons, List.not_mem_nil, or_false] at ht
              rcases ht with rfl | rfl | rfl | rfl
              · exact ⟨VB.out.lt, VB.out.row⟩
              · exact VM.out
              · exact (X3.out _ DE.out).row hkkX hp
              · exact (X3.out _ DE.out).row hkX hr, DE.out⟩)
            have le : cmpO p r ≤ 0 := by
              have := (List.pairwise_iff_getElem.1 OX'.out) kk k hkkX hkX (by omega)
              rwa [hp, hr] at this
            have bp := BX.out kk hkkX
            have br := BX.out k hkX
            rw [hp] at bp
            rw [hr] at br
            have CP := Lib.hid (fun w' => rcompare_any p r w' ⟨bp.b0, bp.b1⟩ ⟨br.b0, br.b1⟩)
            generalize cmpO p r = K at *
            have gK : decide (0 < K) = false := decide_eq_false (by omega)
            have g0 : decide (0 < k) = true := decide_eq_true (by omega)
            have wm : IntKind.i64.wrap ((k : Int) - 1) = (kk : Int) := by rw [wrap_small _ (by omega) (by omega)]; omega
            have m0 : (0 : Int) ≤ (kk : Int) := by omega
            have m1 : (kk : Int) < (j : Int) := by omega
            have hk1 : (0 : Int) < (k : Int) := by omega
            clear hp hr le bp br VM VB hkk
            go_wp2_with fail
            refine wp_region_held_drew (S := RW [(w8.heap.size, 0, q'), (bm, offm + k * 8, q'), (b3, off3 + kk * 8, p), (b3, off3 + k * 8, r)] w6) (by kernel_rfl) (V.out.call (Below.refl _ _).drew) (fun hHeld => ?_)
            refine wpAnyH_take (i := 0) (oi := ?oi0x60) (v := ?v0x60) ?hi0x60 (by kernel_rfl) (by kernel_rfl) (by kernel_rfl) ?hq0x60 ?hy0x60 hHeld ?rest0x60
            case hi0x60 => ((try simp only [List.getElem?_toArray, List.getElem?_cons_succ, List.getElem?_cons_zero]); (try rfl))
            case hq0x60 => exact fun _ _ _ h => h
            case hy0x60 => exact Or.inl ⟨by rfl, by intro w hSw; clear hSw; go_simp; try with_reducible rfl⟩
            try simp only [Act.put, List.setIfInBounds_toArray, List.set_cons_zero, List.set_cons_succ]
            refine wpAnyH_take (i := 1) (oi := ?oi1x61) (v := ?v1x61) ?hi1x61 (by kernel_rfl) (by kernel_rfl) (by kernel_rfl) ?hq1x61 ?hy1x61 hHeld ?rest1x61
            case hi1x61 => ((try simp only [List.getElem?_toArray, List.getElem?_cons_succ, List.getElem?_cons_zero]); (try rfl))
            case hq1x61 => exact fun _ _ _ h => h
            case hy1x61 => exact Or.inl ⟨by rfl, by intro w hSw; clear hSw; go_simp; try with_reducible rfl⟩
            try simp only [Act.put, List.setIfInBounds_toArray, List.set_cons_zero, List.set_cons_succ]
            refine wpAnyH_take (i := 2) (oi := ?oi2x62) (v := ?v2x62) ?hi2x62 (by kernel_rfl) (by kernel_rfl) (by kernel_rfl) ?hq2x62 ?hy2x62 hHeld ?rest2x62
            case hi2x62 => ((try simp only [List.getElem?_toArray, List.getElem?_cons_succ, List.getElem?_cons_zero]); (try rfl))
            case hq2x62 => exact fun _ _ _ h => h
            case hy2x62 => exact Or.inl ⟨by rfl, by intro w hSw; clear hSw; go_simp; try with_reducible rfl⟩
            try simp only [Act.put, List.setIfInBounds_toArray, List.set_cons_zero, List.set_cons_succ]
            refine wpAnyH_take (i := 3) (oi := ?oi3x63) (v := ?v3x63) ?hi3x63 (by kernel_rfl) (by kernel_rfl) (by kernel_rfl) ?hq3x63 ?hy3x63 hHeld ?rest3x63
            case hi3x63 => ((try simp only [List.getElem?_toArray, List.getElem?_cons_succ, List.getElem?_cons_zero]); (try rfl))
            case hq3x63 => exact fun _ _ _ h => h
            case hy3x63 => 
              refine' yieldsIf_load_mid ?_ 23 (.tmp 11) ?_ w8.heap.size (0) ?_ (obsC q') _ ?_ Tryz.underlying23 ?_ info8
              · rfl
              · rfl
              · rfl
              · exact fun _ h => ((RW.rows h) (w8.heap.size, 0, q') (by simp)).2
              · rfl
            try simp only [Act.put, List.setIfInBounds_toArray, List.set_cons_zero, List.set_cons_succ]
            refine wpAnyH_take (i := 4) (oi := ?oi4x64) (v := ?v4x64) ?hi4x64 (by kernel_rfl) (by kernel_rfl) (by kernel_rfl) ?hq4x64 ?hy4x64 hHeld ?rest4x64
            case hi4x64 => ((try simp only [List.getElem?_toArray, List.getElem?_cons_succ, List.getElem?_cons_zero]); (try rfl))
            case hq4x64 => exact fun _ _ _ h => h
            case hy4x64 => exact Or.inl ⟨by rfl, by intro w hSw; clear hSw; go_simp; try with_reducible rfl⟩
            try simp only [Act.put, List.setIfInBounds_toArray, List.set_cons_zero, List.set_cons_succ]
            refine wpAnyH_take (i := 5) (oi := ?oi5x65) (v := ?v5x65) ?hi5x65 (by kernel_rfl) (by kernel_rfl) (by kernel_rfl) ?hq5x65 ?hy5x65 hHeld ?rest5x65
            case hi5x65 => ((try simp only [List.getElem?_toArray, List.getElem?_cons_succ, List.getElem?_cons_zero]); (try rfl))
            case hq5x65 => exact fun _ _ _ h => h
            case hy5x65 => exact Or.inl ⟨by rfl, by intro w hSw; clear hSw; go_simp; try with_reducible rfl⟩
            try simp only [Act.put, List.setIfInBounds_toArray, List.set_cons_zero, List.set_cons_succ]
            refine wpAnyH_take (i := 6) (oi := ?oi6x66) (v := ?v6x66) ?hi6x66 (by kernel_rfl) (by kernel_rfl) (by kernel_rfl) ?hq6x66 ?hy6x66 hHeld ?rest6x66
            case hi6x66 => ((try simp only [List.getElem?_toArray, List.getElem?_cons_succ, List.getElem?_cons_zero]); (try rfl))
            case hq6x66 => exact fun _ _ _ h => h
            case hy6x66 => exact Or.inl ⟨by rfl, by intro w hSw; clear hSw; go_simp; try with_reducible rfl⟩
            try simp only [Act.put, List.setIfInBounds_toArray, List.set_cons_zero, List.set_cons_succ]
            refine wpAnyH_take (i := 7) (oi := ?oi7x67) (v := ?v7x67) ?hi7x67 (by kernel_rfl) (by kernel_rfl) (by kernel_rfl) ?hq7x67 ?hy7x67 hHeld ?rest7x67
            case hi7x67 => ((try simp only [List.getElem?_toArray, List.getElem?_cons_succ, List.getElem?_cons_zero]); (try rfl))
            case hq7x67 => exact fun _ _ _ h => h
            case hy7x67 => 
              refine' yieldsIf_load_mid ?_ 23 (.tmp 129) ?_ bm (offm + k * 8) ?_ (obsC q') _ ?_ Tryz.underlying23 ?_ info8
              · rfl
              · rfl
              · rfl
              · exact fun _ h => ((RW.rows h) (bm, offm + k * 8, q') (by simp)).2
              · rfl
            try simp only [Act.put, List.setIfInBounds_toArray, List.set_cons_zero, List.set_cons_succ]
            refine wpAnyH_take (i := 8) (oi := ?oi8x68) (v := ?v8x68) ?hi8x68 (by kernel_rfl) (by kernel_rfl) (by kernel_rfl) ?hq8x68 ?hy8x68 hHeld ?rest8x68
            case hi8x68 => ((try simp only [List.getElem?_toArray, List.getElem?_cons_succ, List.getElem?_cons_zero]); (try rfl))
            case hq8x68 => exact fun _ _ _ h => h
            case hy8x68 => exact Or.inl ⟨by rfl, by intro w hSw; clear hSw; go_simp; try with_reducible rfl⟩
            try simp only [Act.put, List.setIfInBounds_toArray, List.set_cons_zero, List.set_cons_succ]
            refine wpAnyH_take (i := 9) (oi := ?oi9x69) (v := ?v9x69) ?hi9x69 (by kernel_rfl) (by kernel_rfl) (by kernel_rfl) ?hq9x69 ?hy9x69 hHeld ?rest9x69
            case hi9x69 => ((try simp only [List.getElem?_toArray, List.getElem?_cons_succ, List.getElem?_cons_zero]); (try rfl))
            case hq9x69 => exact fun _ _ _ h => h
            case hy9x69 => exact Or.inl ⟨by rfl, by intro w hSw; clear hSw; go_simp; try with_reducible rfl⟩
            try simp only [Act.put, List.setIfInBounds_toArray, List.set_cons_zero, List.set_cons_succ]
            refine wpAnyH_take (i := 10) (oi := ?oi10x70) (v := ?v10x70) ?hi10x70 (by kernel_rfl) (by kernel_rfl) (by kernel_rfl) ?hq10x70 ?hy10x70 hHeld ?rest10x70
            case hi10x70 => ((try simp only [List.getElem?_toArray, List.getElem?_cons_succ, List.getElem?_cons_zero]); (try rfl))
            case hq10x70 => exact fun _ _ _ h => h
            case hy10x70 => exact Or.inl ⟨by rfl, by intro w hSw; clear hSw; go_simp; try with_reducible rfl⟩
            try simp only [Act.put, List.setIfInBounds_toArray, List.set_cons_zero, List.set_cons_succ]
            refine wpAnyH_take (i := 11) (oi := ?oi11x71) (v := ?v11x71) ?hi11x71 (by kernel_rfl) (by kernel_rfl) (by kernel_rfl) ?hq11x71 ?hy11x71 hHeld ?rest11x71
            case hi11x71 => ((try simp only [List.getElem?_toArray, List.getElem?_cons_succ, List.getElem?_cons_zero]); (try rfl))
            case hq11x71 => exact fun _ _ _ h => h
            case hy11x71 => exact Or.inl ⟨by rfl, by intro w hSw; clear hSw; go_simp; try with_reducible rfl⟩
            try simp only [Act.put, List.setIfInBounds_toArray, List.set_cons_zero, List.set_cons_succ]
            refine wpAnyH_take (i := 12) (oi := ?oi12x72) (v := ?v12x72) ?hi12x72 (by kernel_rfl) (by kernel_rfl) (by kernel_rfl) ?hq12x72 ?hy12x72 hHeld ?rest12x72
            case hi12x72 => ((try simp only [List.getElem?_toArray, List.getElem?_cons_succ, List.getElem?_cons_zero]); (try rfl))
            case hq12x72 => exact fun _ _ _ h => h
            case hy12x72 => exact Or.inl ⟨by rfl, by intro w hSw; clear hSw; go_simp; try with_reducible rfl⟩
            try simp only [Act.put, List.setIfInBounds_toArray, List.set_cons_zero, List.set_cons_succ]
            refine wpAnyH_take (i := 13) (oi := ?oi13x73) (v := ?v13x73) ?hi13x73 (by kernel_rfl) (by kernel_rfl) (by kernel_rfl) ?hq13x73 ?hy13x73 hHeld ?rest13x73
            case hi13x73 => ((try simp only [List.getElem?_toArray, List.getElem?_cons_succ, List.getElem?_cons_zero]); (try rfl))
            case hq13x73 => exact fun _ _ _ h => h
            case hy13x73 => exact Or.inl ⟨by rfl, by intro w hSw; clear hSw; go_simp; try with_reducible rfl⟩
            try simp only [Act.put, List.setIfInBounds_toArray, List.set_cons_zero, List.set_cons_succ]
            refine wpAnyH_take (i := 14) (oi := ?oi14x74) (v := ?v14x74) ?hi14x74 (by kernel_rfl) (by kernel_rfl) (by kernel_rfl) ?hq14x74 ?hy14x74 hHeld ?rest14x74
            case hi14x74 => ((try simp only [List.getElem?_toArray, List.getElem?_cons_succ, List.getElem?_cons_zero]); (try rfl))
            case hq14x74 => exact fun _ _ _ h => h
            case hy14x74 => exact Or.inl ⟨by rfl, by intro w hSw; clear hSw; go_simp; try with_reducible rfl⟩
            try simp only [Act.put, List.setIfInBounds_toArray, List.set_cons_zero, List.set_cons_succ]
            refine wpAnyH_take (i := 15) (oi := ?oi15x75) (v := ?v15x75) ?hi15x75 (by kernel_rfl) (by kernel_rfl) (by kernel_rfl) ?hq15x75 ?hy15x75 hHeld ?rest15x75
            case hi15x75 => ((try simp only [List.getElem?_toArray, List.getElem?_cons_succ, List.getElem?_cons_zero]); (try rfl))
            case hq15x75 => exact fun _ _ _ h => h
            case hy15x75 => exact Or.inl ⟨by rfl, by intro w hSw; clear hSw; go_simp; try with_reducible rfl⟩
            try simp only [Act.put, List.setIfInBounds_toArray, List.set_cons_zero, List.set_cons_succ]
            refine wpAnyH_take (i := 16) (oi := ?oi16x76) (v := ?v16x76) ?hi16x76 (by kernel_rfl) (by kernel_rfl) (by kernel_rfl) ?hq16x76 ?hy16x76 hHeld ?rest16x76
            case hi16x76 => ((try simp only [List.getElem?_toArray, List.getElem?_cons_succ, List.getElem?_cons_zero]); (try rfl))
            case hq16x76 => exact fun _ _ _ h => h
            case hy16x76 => exact Or.inl ⟨by rfl, by intro w hSw; clear hSw; go_simp; try with_reducible rfl⟩
            try simp only [Act.put, List.setIfInBounds_toArray, List.set_cons_zero, List.set_cons_succ]
            refine wpAnyH_take (i := 17) (oi := ?oi17x77) (v := ?v17x77) ?hi17x77 (by kernel_rfl) (by kernel_rfl) (by kernel_rfl) ?hq17x77 ?hy17x77 hHeld ?rest17x77
            case hi17x77 => ((try simp only [List.getElem?_toArray, List.getElem?_cons_succ, List.getElem?_cons_zero]); (try rfl))
            case hq17x77 => exact fun _ _ _ h => h
            case hy17x77 => exact Or.inl ⟨by rfl, by intro w hSw; clear hSw; go_simp; try with_reducible rfl⟩
            try simp only [Act.put, List.setIfInBounds_toArray, List.set_cons_zero, List.set_cons_succ]
            refine wpAnyH_take (i := 18) (oi := ?oi18x78) (v := ?v18x78) ?hi18x78 (by kernel_rfl) (by kernel_rfl) (by kernel_rfl) ?hq18x78 ?hy18x78 hHeld ?rest18x78
            case hi18x78 => ((try simp only [List.getElem?_toArray, List.getElem?_cons_succ, List.getElem?_cons_zero]); (try rfl))
            case hq18x78 => exact fun _ _ _ h => h
            case hy18x78 => exact Or.inl ⟨by rfl, by intro w hSw; clear hSw; go_simp; try with_reducible rfl⟩
            try simp only [Act.put, List.setIfInBounds_toArray, List.set_cons_zero, List.set_cons_succ]
            refine wpAnyH_take (i := 19) (oi := ?oi19x79) (v := ?v19x79) ?hi19x79 (by kernel_rfl) (by kernel_rfl) (by kernel_rfl) ?hq19x79 ?hy19x79 hHeld ?rest19x79
            case hi19x79 => ((try simp only [List.getElem?_toArray, List.getElem?_cons_succ, List.getElem?_cons_zero]); (try rfl))
            case hq19x79 => exact fun _ _ _ h => h
            case hy19x79 => exact Or.inl ⟨by rfl, by intro w hSw; clear hSw; go_simp; try with_reducible rfl⟩
            try simp only [Act.put, List.setIfInBounds_toArray, List.set_cons_zero, List.set_cons_succ]
            refine wpAnyH_take (i := 20) (oi := ?oi20x80) (v := ?v20x80) ?hi20x80 (by kernel_rfl) (by kernel_rfl) (by kernel_rfl) ?hq20x80 ?hy20x80 hHeld ?rest20x80
            case hi20x80 => ((try simp only [List.getElem?_toArray, List.getElem?_cons_succ, List.getElem?_cons_zero]); (try rfl))
            case hq20x80 => exact fun _ _ _ h => h
            case hy20x80 => exact Or.inl ⟨by rfl, by intro w hSw; clear hSw; go_simp; try with_reducible rfl⟩
            try simp only [Act.put, List.setIfInBounds_toArray, List.set_cons_zero, List.set_cons_succ]
            refine wpAnyH_take (i := 21) (oi := ?oi21x81) (v := ?v21x81) ?hi21x81 (by kernel_rfl) (by kernel_rfl) (by kernel_rfl) ?hq21x81 ?hy21x81 hHeld ?rest21x81
            case hi21x81 => ((try simp only [List.getElem?_toArray, List.getElem?_cons_succ, List.getElem?_cons_zero]); (try rfl))
            case hq21x81 => exact fun _ _ _ h => h
            case hy21x81 => exact Or.inl ⟨by rfl, by intro w hSw; clear hSw; go_simp; try with_reducible rfl⟩
            try simp only [Act.put, List.setIfInBounds_toArray, List.set_cons_zero, List.set_cons_succ]
            refine wpAnyH_take (i := 22) (oi := ?oi22x82) (v := ?v22x82) ?hi22x82 (by kernel_rfl) (by kernel_rfl) (by kernel_rfl) ?hq22x82 ?hy22x82 hHeld ?rest22x82
            case hi22x82 => ((try simp only [List.getElem?_toArray, List.getElem?_cons_succ, List.getElem?_cons_zero]); (try rfl))
            case hq22x82 => exact fun _ _ _ h => h
            case hy22x82 => exact Or.inl ⟨by rfl, by intro w hSw; clear hSw; go_simp; try with_reducible rfl⟩
            try simp only [Act.put, List.setIfInBounds_toArray, List.set_cons_zero, List.set_cons_succ]
            refine wpAnyH_take (i := 23) (oi := ?oi23x83) (v := ?v23x83) ?hi23x83 (by kernel_rfl) (by kernel_rfl) (by kernel_rfl) ?hq23x83 ?hy23x83 hHeld ?rest23x83
            case hi23x83 => ((try simp only [List.getElem?_toArray, List.getElem?_cons_succ, List.getElem?_cons_zero]); (try rfl))
            case hq23x83 => exact fun _ _ _ h => h
            case hy23x83 => 
              refine' yieldsIf_load_mid ?_ 23 (.tmp 145) ?_ b3 (off3 + kk * 8) ?_ (obsC p) _ ?_ Tryz.underlying23 ?_ info8
              · rfl
              · rfl
              · rfl
              · exact fun _ h => ((RW.rows h) (b3, off3 + kk * 8, p) (by simp)).2
              · rfl
            try simp only [Act.put, List.setIfInBounds_toArray, List.set_cons_zero, List.set_cons_succ]
            refine wpAnyH_take (i := 24) (oi := ?oi24x84) (v := ?v24x84) ?hi24x84 (by kernel_rfl) (by kernel_rfl) (by kernel_rfl) ?hq24x84 ?hy24x84 hHeld ?rest24x84
            case hi24x84 => ((try simp only [List.getElem?_toArray, List.getElem?_cons_succ, List.getElem?_cons_zero]); (try rfl))
            case hq24x84 => exact fun _ _ _ h => h
            case hy24x84 => exact Or.inl ⟨by rfl, by intro w hSw; clear hSw; go_simp; try with_reducible rfl⟩
            try simp only [Act.put, List.setIfInBounds_toArray, List.set_cons_zero, List.set_cons_succ]
            refine wpAnyH_take (i := 25) (oi := ?oi25x85) (v := ?v25x85) ?hi25x85 (by kernel_rfl) (by kernel_rfl) (by kernel_rfl) ?hq25x85 ?hy25x85 hHeld ?rest25x85
            case hi25x85 => ((try simp only [List.getElem?_toArray, List.getElem?_cons_succ, List.getElem?_cons_zero]); (try rfl))
            case hq25x85 => exact fun _ _ _ h => h
            case hy25x85 => exact Or.inl ⟨by rfl, by intro w hSw; clear hSw; go_simp; try with_reducible rfl⟩
            try simp only [Act.put, List.setIfInBounds_toArray, List.set_cons_zero, List.set_cons_succ]
            refine wpAnyH_take (i := 26) (oi := ?oi26x86) (v := ?v26x86) ?hi26x86 (by kernel_rfl) (by kernel_rfl) (by kernel_rfl) ?hq26x86 ?hy26x86 hHeld ?rest26x86
            case hi26x86 => ((try simp only [List.getElem?_toArray, List.getElem?_cons_succ, List.getElem?_cons_zero]); (try rfl))
            case hq26x86 => exact fun _ _ _ h => h
            case hy26x86 => exact Or.inl ⟨by rfl, by intro w hSw; clear hSw; go_simp; try with_reducible rfl⟩
            try simp only [Act.put, List.setIfInBounds_toArray, List.set_cons_zero, List.set_cons_succ]
            refine wpAnyH_take (i := 27) (oi := ?oi27x87) (v := ?v27x87) ?hi27x87 (by kernel_rfl) (by kernel_rfl) (by kernel_rfl) ?hq27x87 ?hy27x87 hHeld ?rest27x87
            case hi27x87 => ((try simp only [List.getElem?_toArray, List.getElem?_cons_succ, List.getElem?_cons_zero]); (try rfl))
            case hq27x87 => exact fun _ _ _ h => h
            case hy27x87 => 
              refine' yieldsIf_load_mid ?_ 23 (.tmp 149) ?_ b3 (off3 + k * 8) ?_ (obsC r) _ ?_ Tryz.underlying23 ?_ info8
              · rfl
              · rfl
              · rfl
              · exact fun _ h => ((RW.rows h) (b3, off3 + k * 8, r) (by simp)).2
              · rfl
            try simp only [Act.put, List.setIfInBounds_toArray, List.set_cons_zero, List.set_cons_succ]
            refine wpAnyH_ready (rs := [28]) (by kernel_rfl) (by simp) ?_
            refine AllReadyH.cons rfl (fun K' hK => ?_) AllReadyH.nil
            have H1 := Lib.hid hHeld
            clear hHeld
            go_simp
            refine (CP.out _).mono ?_
            rintro e w9 ⟨rfl, hb9⟩
            refine hK.out _ _ (H1.out.call hb9) (fun hHeld => ?_)
            clear hK H1 hb9
            try simp only [Act.put, List.setIfInBounds_toArray, List.set_cons_zero, List.set_cons_succ]
            refine wpAnyH_take (i := 29) (oi := ?oi29x88) (v := ?v29x88) ?hi29x88 (by kernel_rfl) (by kernel_rfl) (by kernel_rfl) ?hq29x88 ?hy29x88 hHeld ?rest29x88
            case hi29x88 => ((try simp only [List.getElem?_toArray, List.getElem?_cons_succ, List.getElem?_cons_zero]); (try rfl))
            case hq29x88 => exact fun _ _ _ h => h
            case hy29x88 => exact Or.inl ⟨by rfl, by intro w hSw; clear hSw; go_simp; try with_reducible rfl⟩
            try simp only [Act.put, List.setIfInBounds_toArray, List.set_cons_zero, List.set_cons_succ]
            refine wpAnyH_take (i := 30) (oi := ?oi30x89) (v := ?v30x89) ?hi30x89 (by kernel_rfl) (by kernel_rfl) (by kernel_rfl) ?hq30x89 ?hy30x89 hHeld ?rest30x89
            case hi30x89 => ((try simp only [List.getElem?_toArray, List.getElem?_cons_succ, List.getElem?_cons_zero]); (try rfl))
            case hq30x89 => exact fun _ _ _ h => h
            case hy30x89 => exact Or.inl ⟨by rfl, by intro w hSw; clear hSw; go_simp; try with_reducible rfl⟩
            try simp only [Act.put, List.setIfInBounds_toArray, List.set_cons_zero, List.set_cons_succ]
            refine wpAnyH_take (i := 31) (oi := ?oi31x90) (v := ?v31x90) ?hi31x90 (by kernel_rfl) (by kernel_rfl) (by kernel_rfl) ?hq31x90 ?hy31x90 hHeld ?rest31x90
            case hi31x90 => ((try simp only [List.getElem?_toArray, List.getElem?_cons_succ, List.getElem?_cons_zero]); (try rfl))
            case hq31x90 => exact fun _ _ _ h => h
            case hy31x90 => exact Or.inl ⟨by rfl, by intro w hSw; clear hSw; go_simp; try with_reducible rfl⟩
            try simp only [Act.put, List.setIfInBounds_toArray, List.set_cons_zero, List.set_cons_succ]
            refine wpAnyH_done (by kernel_rfl) ?_ _
            have DF := Lib.hid hHeld.below
            clear hHeld V
            go_wp2_with fail
            go_roundw
            case rel => exact ⟨k + 1, by omega, by go_num, DF⟩
            case measure => simp [intOf]; omega
    · obtain rfl : k = n := by omega
      clear D B6
      go_wp2_with fail
      go_ret
      exact ⟨rfl, BD.out⟩
theorem obssorted_any (x : Option Addr) (cap : Nat) (l : List Ob) (w : World) (hT : Gt.Tab w) (hE : ES w) (hl : SlA w x l) (hm : l.length ≤ 9223372036854775807) (hb : OBs l) : Calls Tryz.prog 9 #[.slice x l.length cap] w fun e w' => e = .returned (.bool true) ∧ Below w.heap.size w w' := by
  by_cases h : greatB l 12 = true ∨ 12 < l.length ∨ allC l ≠ 0
  · exact sorted_out x cap l w hT hE hl hm hb h
  · exact sorted_main x cap l w hT hE hl hb (Bool.eq_false_iff.2 fun g => h (Or.inl g)) (by
      rcases Nat.lt_or_ge 12 l.length with g | g
      · exact absurd (Or.inr (Or.inl g)) h
      · exact g) (by
      by_cases g : allC l = 0
      · exact g
      · exact absurd (Or.inr (Or.inr g)) h)
end Ow
end Go.Proofs.YtgodhaphbgllhaaGreatDoor
