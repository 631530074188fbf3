/-
  The walk of DesigSorted.
-/
import Derived.Test.YtdjndoafnoidbaaDoorDBack
import Derived.Test.YtdjndoafnoidbaaDoorDSPl
import Derived.Test.YtdjndoafnoidbaaDoorDWalk3
import Derived.Test.YtdjndoafnoidbaaDoorDRef1
import Derived.IntWalk
import Derived.Deep.DeepCutAuto
namespace Go.Proofs.YtdjndoafnoidbaaDoor
namespace Dw
open Go.RowKit Dp Lw

/-- Three boxed designations. -/
structure DS (w : World) (c0 c1 c2 : List Value) (w' : World) : Prop where
  x0 : Bx w.heap.size c0 w'
  x1 : Bx (w.heap.size + 1) c1 w'
  x2 : Bx (w.heap.size + 1 + 1) c2 w'
  tb : Tb w'
  below : Below w.heap.size w w'
theorem DS.call {w : World} {c0 c1 c2 : List Value} {a b : World} (h : DS w c0 c1 c2 a) (hb : Below a.heap.size a b) : DS w c0 c1 c2 b := ⟨h.x0.call hb, h.x1.call hb, h.x2.call hb, h.tb.below hb, below_then h.below hb⟩
theorem DS.new {w : World} (hT : Tb w) (c0 c1 c2 : List Value) (t : TypeId) : DS w c0 c1 c2 (((w.alloc (.cells c0.toArray t)).alloc (.cells c1.toArray t)).alloc (.cells c2.toArray t)) := by
  have b1 := Bx.new (w.alloc (.cells c0.toArray t)) c1 t
  have b2 := Bx.new ((w.alloc (.cells c0.toArray t)).alloc (.cells c1.toArray t)) c2 t
  have e1 : (w.alloc (.cells c0.toArray t)).heap.size = w.heap.size + 1 := by simp
  have e2 : ((w.alloc (.cells c0.toArray t)).alloc (.cells c1.toArray t)).heap.size = w.heap.size + 1 + 1 := by simp
  rw [e1] at b1
  rw [e2] at b2
  have hB : Below w.heap.size w (((w.alloc (.cells c0.toArray t)).alloc (.cells c1.toArray t)).alloc (.cells c2.toArray t)) := (((Below.refl _ _).alloc (Nat.le_refl _) _).alloc (by simp) _).alloc (by simp; omega) _
  exact ⟨((Bx.new w c0 t).alloc _).alloc _, b1.alloc _, b2, hT.below hB, hB⟩
set_option maxRecDepth 100000 in
set_option maxHeartbeats 16000000 in
theorem sorted_any (a b c : Dg) (w : World) (hT : Tb w) (a0 : 0 ≤ a.h) (a1 : a.h < 256) (a2 : 0 ≤ a.s) (a3 : a.s < 256) (b0 : 0 ≤ b.h) (b1 : b.h < 256) (b2 : 0 ≤ b.s) (b3 : b.s < 256) (c0 : 0 ≤ c.h) (c1 : c.h < 256) (c2 : 0 ≤ c.s) (c3 : c.s < 256) (ga : okG a) (gb : okG b) (gc : okG c) :
    Calls Tryd.prog 8 #[desigV a.n a.y a.h a.s a.c, desigV b.n b.y b.h b.s b.c, desigV c.n c.y c.h c.s c.c] w fun e w' => e = .returned (.bool true) ∧ Below w.heap.size w w' := by
  have S0 := DS.new hT (desigC a.n a.y a.h a.s a.c) (desigC b.n b.y b.h b.s b.c) (desigC c.n c.y c.h c.s c.c) 23
  obtain ⟨o1, o2, o3⟩ := cmp_order ga gb gc
  have ea := errC_ok ga
  have eb := errC_ok gb
  have ec := errC_ok gc
  have RA := fun w' => rcheck_any a.n a.y a.h a.s a.c w'
  have RB := fun w' => rcheck_any b.n b.y b.h b.s b.c w'
  have RC := fun w' => rcheck_any c.n c.y c.h c.s c.c w'
  rw [ea] at RA
  rw [eb] at RB
  rw [ec] at RC
  have RA := Lib.hid RA
  have RB := Lib.hid RB
  have RC := Lib.hid RC
  have CAB := Lib.hid (fun w' ht => Compare_any a.n a.y a.h a.s a.c b.n b.y b.h b.s b.c w' ht a0 a1 a2 a3 b0 b1 b2 b3)
  have CBA := Lib.hid (fun w' ht => Compare_any b.n b.y b.h b.s b.c a.n a.y a.h a.s a.c w' ht b0 b1 b2 b3 a0 a1 a2 a3)
  have CBC := Lib.hid (fun w' ht => Compare_any b.n b.y b.h b.s b.c c.n c.y c.h c.s c.c w' ht b0 b1 b2 b3 c0 c1 c2 c3)
  have CAC := Lib.hid (fun w' ht => Compare_any a.n a.y a.h a.s a.c c.n c.y c.h c.s c.c w' ht a0 a1 a2 a3 c0 c1 c2 c3)
  have IAB := Lib.hid (show CmpIs a.n a.y a.h a.s a.c b.n b.y b.h b.s b.c (cmpD a b) 0 from Or.inl ⟨ga, gb, rfl, rfl⟩)
  have IBA := Lib.hid (show CmpIs b.n b.y b.h b.s b.c a.n a.y a.h a.s a.c (cmpD b a) 0 from Or.inl ⟨gb, ga, rfl, rfl⟩)
  have IBC := Lib.hid (show CmpIs b.n b.y b.h b.s b.c c.n c.y c.h c.s c.c (cmpD b c) 0 from Or.inl ⟨gb, gc, rfl, rfl⟩)
  have IAC := Lib.hid (show CmpIs a.n a.y a.h a.s a.c c.n c.y c.h c.s c.c (cmpD a c) 0 from Or.inl ⟨ga, gc, rfl, rfl⟩)
  have PA := fun w' ht => Pack_ok a.n a.y a.h a.s a.c w' ht a0 a1 a2 a3 ga
  have PB := fun w' ht => Pack_ok b.n b.y b.h b.s b.c w' ht b0 b1 b2 b3 gb
  unfold PackOk at PA PB
  have sg : cmpD a b < 0 ↔ keyD a < keyD b := by rw [cmp_key ga gb]; unfold sgn; split <;> (try split) <;> omega
  have ord : (packG a).length = (packG b).length → a.n < 620000 → b.n < 620000 → Op.bytesLess (packG a) (packG b) = decide (cmpD a b < 0) := fun hl na nb => (pack_order ga gb hl na nb).trans (decide_eq_decide.2 sg.symm)
  have ord := Lib.hid ord
  have xb := sgn_bd (keyD a) (keyD b)
  rw [← cmp_key ga gb] at xb
  rw [o1] at IBA
  have inj := Lib.hid o2
  clear ga gb gc ea eb ec a0 a1 a2 a3 b0 b1 b2 b3 c0 c1 c2 c3 sg o1 o2 hT
  obtain ⟨na, ya, ha, sa, ca⟩ := a
  obtain ⟨nb, yb, hb, sb, cb⟩ := b
  obtain ⟨nc, yc, hc, sc, cc⟩ := c
  generalize cmpD ⟨na, ya, ha, sa, ca⟩ ⟨nb, yb, hb, sb, cb⟩ = x at *
  generalize cmpD ⟨nb, yb, hb, sb, cb⟩ ⟨nc, yc, hc, sc, cc⟩ = z at *
  generalize cmpD ⟨na, ya, ha, sa, ca⟩ ⟨nc, yc, hc, sc, cc⟩ = v at *
  generalize packG ⟨na, ya, ha, sa, ca⟩ = P at *
  generalize packG ⟨nb, yb, hb, sb, cb⟩ = Q at *
  have PA := Lib.hid PA
  have PB := Lib.hid PB
  have O3 := Lib.hid o3
  clear o3
  simp only at S0
  go_enter Tryd.func8, Tryd.ntmps8
  go_wp2_with fail
  refine (alive_any _ S0.tb).mono ?_
  rintro e w1 ⟨rfl, hh⟩
  have S1 := S0.call hh
  clear S0 hh
  have k0 := S1.x0.cell 0 _ rfl
  go_wp2_with (refine wpList_load_mid rfl _ (.tmp 3) rfl w.heap.size 0 rfl (desigC na ya ha sa ca) _ S1.x0.row Tryd.underlying23 rfl info5d ?_)
  refine (RA.out _).mono ?_
  rintro e w2 ⟨rfl, hh⟩
  have S2 := S1.call hh
  clear S1 hh RA k0
  have q0 := S2.x1.cell 0 _ rfl
  have q1 := S2.x1.cell 1 _ rfl
  have q2 := S2.x1.cell 2 _ rfl
  have q3 := S2.x1.cell 3 _ rfl
  have q4 := S2.x1.cell 4 _ rfl
  go_wp2_with fail
  refine (RB.out _).mono ?_
  rintro e w3 ⟨rfl, hh⟩
  have S3 := S2.call hh
  clear S2 hh RB q0 q1 q2 q3 q4
  have q0 := S3.x2.cell 0 _ rfl
  have q1 := S3.x2.cell 1 _ rfl
  have q2 := S3.x2.cell 2 _ rfl
  have q3 := S3.x2.cell 3 _ rfl
  have q4 := S3.x2.cell 4 _ rfl
  go_wp2_with fail
  refine (RC.out _).mono ?_
  rintro e w4 ⟨rfl, hh⟩
  have S4 := S3.call hh
  clear S3 hh RC q0 q1 q2 q3 q4
  go_wp2_with (first | (refine wpList_load_mid rfl _ (.tmp 3) rfl w.heap.size 0 rfl (desigC na ya ha sa ca) _ S4.x0.row Tryd.underlying23 rfl info5d ?_) | (refine wpList_load_mid rfl _ (.tmp 4) rfl (w.heap.size + 1) 0 rfl (desigC nb yb hb sb cb) _ S4.x1.row Tryd.underlying23 rfl info5d ?_))
  refine (CAB.out _ S4.tb.ord).mono ?_
  rintro e w5 ⟨v1, j1, rfl, i1, hh⟩
  obtain ⟨rfl, rfl⟩ := i1.uniq IAB.out
  have S5 := S4.call hh
  clear S4 hh i1 IAB CAB
  go_wp2_with (first | (refine wpList_load_mid rfl _ (.tmp 3) rfl w.heap.size 0 rfl (desigC na ya ha sa ca) _ S5.x0.row Tryd.underlying23 rfl info5d ?_) | (refine wpList_load_mid rfl _ (.tmp 4) rfl (w.heap.size + 1) 0 rfl (desigC nb yb hb sb cb) _ S5.x1.row Tryd.underlying23 rfl info5d ?_))
  refine (CBA.out _ S5.tb.ord).mono ?_
  rintro e w6 ⟨v2, j2, rfl, i2, hh⟩
  obtain ⟨rfl, rfl⟩ := i2.uniq IBA.out
  have S6 := S5.call hh
  clear S5 hh i2 IBA CBA
  go_wp2_with (first | (refine wpList_load_mid rfl _ (.tmp 5) rfl (w.heap.size + 1 + 1) 0 rfl (desigC nc yc hc sc cc) _ S6.x2.row Tryd.underlying23 rfl info5d ?_) | (refine wpList_load_mid rfl _ (.tmp 4) rfl (w.heap.size + 1) 0 rfl (desigC nb yb hb sb cb) _ S6.x1.row Tryd.underlying23 rfl info5d ?_))
  refine (CBC.out _ S6.tb.ord).mono ?_
  rintro e w7 ⟨v3, j3, rfl, i3, hh⟩
  obtain ⟨rfl, rfl⟩ := i3.uniq IBC.out
  have S7 := S6.call hh
  clear S6 hh i3 IBC CBC
  go_wp2_with (first | (refine wpList_load_mid rfl _ (.tmp 5) rfl (w.heap.size + 1 + 1) 0 rfl (desigC nc yc hc sc cc) _ S7.x2.row Tryd.underlying23 rfl info5d ?_) | (refine wpList_load_mid rfl _ (.tmp 3) rfl w.heap.size 0 rfl (desigC na ya ha sa ca) _ S7.x0.row Tryd.underlying23 rfl info5d ?_))
  refine (CAC.out _ S7.tb.ord).mono ?_
  rintro e w8 ⟨v4, j4, rfl, i4, hh⟩
  obtain ⟨rfl, rfl⟩ := i4.uniq IAC.out
  have S8 := S7.call hh
  clear S7 hh i4 IAC CAC
  have q0 := S8.x0.cell 0 _ rfl
  have q1 := S8.x0.cell 1 _ rfl
  have q2 := S8.x0.cell 2 _ rfl
  have q3 := S8.x0.cell 3 _ rfl
  have q4 := S8.x0.cell 4 _ rfl
  have r0 := S8.x1.cell 0 _ rfl
  have r1 := S8.x1.cell 1 _ rfl
  have r2 := S8.x1.cell 2 _ rfl
  have r3 := S8.x1.cell 3 _ rfl
  have r4 := S8.x1.cell 4 _ rfl
  go_upto_region 8 with (fail)
  go_cut [102] (fun t wx => t = .bool false ∧ DS w (desigC na ya ha sa ca) (desigC nb yb hb sb cb) (desigC nc yc hc sc cc) wx)
  case first =>
    have od : 0 < v1 ∨ (v1 ≤ 0 ∧ 0 < v3) ∨ (v1 ≤ 0 ∧ v3 ≤ 0 ∧ decide (0 < v4) = false) := by
      have := O3.out
      rcases (show 0 < v1 ∨ (v1 ≤ 0 ∧ 0 < v3) ∨ (v1 ≤ 0 ∧ v3 ≤ 0 ∧ v4 ≤ 0) by omega) with h | h | ⟨h1, h2, h3⟩
      · exact Or.inl h
      · exact Or.inr (Or.inl h)
      · exact Or.inr (Or.inr ⟨h1, h2, decide_eq_false (by omega)⟩)
    have nw : IntKind.i64.wrap (-(-v1)) = v1 := by rw [Int.neg_neg]; exact IntWalk.i64_in _ (by omega)
    have sp : (na = nb ∧ ya = yb ∧ ha = hb ∧ sa = sb ∧ ca = cb ∧ v1 = 0) ∨ (v1 ≠ 0 ∧ (¬ na = nb ∨ (na = nb ∧ ¬ ya = yb) ∨ (na = nb ∧ ya = yb ∧ ¬ ha = hb) ∨ (na = nb ∧ ya = yb ∧ ha = hb ∧ ¬ sa = sb) ∨ (na = nb ∧ ya = yb ∧ ha = hb ∧ sa = sb ∧ ¬ ca = cb))) := by
      have hi := inj.out
      by_cases h : v1 = 0
      · have := hi.1 h
        injection this with e1 e2 e3 e4 e5
        exact Or.inl ⟨e1, e2, e3, e4, e5, h⟩
      · refine Or.inr ⟨h, ?_⟩
        have : ¬ (na = nb ∧ ya = yb ∧ ha = hb ∧ sa = sb ∧ ca = cb) := fun x => h (hi.2 (by rw [x.1, x.2.1, x.2.2.1, x.2.2.2.1, x.2.2.2.2]))
        omega
    clear O3 inj PA PB ord
    rcases sp with ⟨rfl, rfl, rfl, rfl, rfl, rfl⟩ | ⟨hne, sp⟩
    · rcases od with h | ⟨h1, h2⟩ | ⟨h1, h2, h3⟩
      · omega
      · go_wp2_with fail
        go_meet
        exact ⟨rfl, S8⟩
      · go_wp2_with fail
        go_meet
        exact ⟨rfl, S8⟩
    · have e0 : (v1 == 0) = false := by rw [beq_eq_false_iff_ne]; exact hne
      rcases od with h | ⟨h1, h2⟩ | ⟨h1, h2, h3⟩
      all_goals
        rcases sp with g1 | ⟨rfl, g1⟩ | ⟨rfl, rfl, g1⟩ | ⟨rfl, rfl, rfl, g1⟩ | ⟨rfl, rfl, rfl, rfl, g1⟩
        all_goals
          go_wp2_with fail
          go_meet
          exact ⟨rfl, S8⟩
  case rest =>
    obtain ⟨rfl, S9⟩ := hcut
    clear S8 inj O3 q0 q1 q2 q3 q4 r0 r1 r2 r3 r4
    go_wp2_with (first | (refine wpList_load_mid rfl _ (.tmp 3) rfl w.heap.size 0 rfl (desigC na ya ha sa ca) _ S9.x0.row Tryd.underlying23 rfl info5d ?_))
    refine (PA.out _ S9.tb).mono ?_
    rintro e w10 ⟨rfl, hh⟩
    have S10 := S9.call hh
    clear S9 hh PA
    go_wp2_with (first | (refine wpList_load_mid rfl _ (.tmp 4) rfl (w.heap.size + 1) 0 rfl (desigC nb yb hb sb cb) _ S10.x1.row Tryd.underlying23 rfl info5d ?_))
    refine (PB.out _ S10.tb).mono ?_
    rintro e w11 ⟨rfl, hh⟩
    have S11 := S10.call hh
    clear S10 hh PB
    have q0 := S11.x0.cell 0 _ rfl
    have r0 := S11.x1.cell 0 _ rfl
    have hB := Lib.hid S11.below
    clear S11
    by_cases hl : P.length = Q.length
    · have hl' : ((P.length : Int) == (Q.length : Int)) = true := by rw [hl]; simp
      by_cases h1 : na < 620000
      · by_cases h2 : nb < 620000
        · have hs := ord.out hl h1 h2
          have HL := Lib.hid hl
          clear hl ord
          by_cases h3 : v1 < 0
          · rw [decide_eq_true h3] at hs
            go_wp2_with fail
            go_ret
            exact ⟨rfl, hB.out⟩
          · rw [decide_eq_false h3] at hs
            go_wp2_with fail
            go_ret
            exact ⟨rfl, hB.out⟩
        · clear hl
          go_wp2_with fail
          go_ret
          exact ⟨rfl, hB.out⟩
      · clear hl
        go_wp2_with fail
        go_ret
        exact ⟨rfl, hB.out⟩
    · have hl' : ((P.length : Int) == (Q.length : Int)) = false := by rw [beq_eq_false_iff_ne]; omega
      clear hl
      go_wp2_with fail
      go_ret
      exact ⟨rfl, hB.out⟩
end Dw
end Go.Proofs.YtdjndoafnoidbaaDoor
