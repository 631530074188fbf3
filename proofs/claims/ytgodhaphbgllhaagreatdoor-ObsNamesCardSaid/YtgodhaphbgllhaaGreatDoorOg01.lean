/-
  Lemmas and walks, texts joined: ONm1, ONmPl, ONmPl2, ONm3, ONames.
-/
import Derived.Deep.RegionHeld3
import Derived.Laws.MakeOwn
import Derived.OwnWalk
import Derived.Test.YtgodhaphbgllhaaGreatDoorOa08
import Derived.Test.YtgodhaphbgllhaaGreatDoorOa06
import Derived.Test.YtgodhaphbgllhaaGreatDoorOc02
import Derived.Test.YtgodhaphbgllhaaGreatDoorOe03
import Derived.Test.YtgodhaphbgllhaaGreatDoorOe02
import Derived.Test.YtgodhaphbgllhaaGreatDoorOe01
set_option linter.unusedSimpArgs false
set_option linter.unusedVariables false
/-
  The walks of with, reads, wrong of the law package of observations.
-/
namespace Go.Proofs.YtgodhaphbgllhaaGreatDoor
namespace Ow
open Go.RowKit Lw Go.Proofs.YtgodhaphbgllhaaGreatDoor.Ap Go.Proofs.YtgodhaphbgllhaaGreatDoor.Op Go.Proofs.YtgodhaphbgllhaaGreatDoor.Mp Go.Proofs.YtgodhaphbgllhaaGreatDoor.Mw Go.Proofs.YtgodhaphbgllhaaGreatDoor.At

/-- The example's line with another piece at a place. -/
def withS (a : Nat) (p : ByteArray) : ByteArray := sOA.extract 0 a ++ p ++ sOA.extract (a + p.size) 80
set_option maxRecDepth 100000 in
set_option maxHeartbeats 4000000 in
theorem with_any (a : Nat) (p : ByteArray) (w : World) (h : a + p.size ≤ 80) : Calls Tryz.prog 28 #[.int .i64 a, .string p] w fun e w' => e = .returned (.string (withS a p)) ∧ Below w.heap.size w w' := by
  have GA := Lib.hid (fun w' => given_any w')
  have zS : sOA.size = 80 := by decide
  obtain ⟨S, hS⟩ : ∃ S, sOA = S := ⟨_, rfl⟩
  have eW : Hid (withS a p = S.extract 0 a ++ p ++ S.extract (a + p.size) 80) := Lib.hid (by unfold withS; rw [hS])
  rw [hS] at zS GA
  clear hS
  generalize withS a p = V at *
  obtain ⟨A1, hA1⟩ : ∃ A1, S.extract 0 a = A1 := ⟨_, rfl⟩
  obtain ⟨A3, hA3⟩ : ∃ A3, S.extract (a + p.size) 80 = A3 := ⟨_, rfl⟩
  have z1 : A1.size = a := by rw [← hA1, ByteArray.size_extract]; omega
  have z3 : A3.size = 80 - (a + p.size) := by rw [← hA3, ByteArray.size_extract]; omega
  rw [hA1, hA3] at eW
  have s1 : ∀ w', (Instr.slice 9 (.string S) none (some (.int .i64 (a : Int))) none).run Tryz.prog w' = .ok (.string A1) w' := fun w' => by
    have := run_slice_string_h (P := Tryz.prog) (w := w') (t := 9) (s := S) Tryz.underlying9 .i64 (a : Int) (by omega) (by omega)
    rw [Int.toNat_natCast, hA1] at this
    exact this
  have s2 : ∀ w', (Instr.slice 9 (.string S) (some (.int .i64 ((a : Int) + (p.size : Int)))) none none).run Tryz.prog w' = .ok (.string A3) w' := fun w' => by
    have := run_slice_string_l (P := Tryz.prog) (w := w') (t := 9) (s := S) Tryz.underlying9 .i64 ((a : Int) + (p.size : Int)) (by omega) (by omega)
    rw [show ((a : Int) + (p.size : Int)).toNat = a + p.size by omega, zS, hA3] at this
    exact this
  have wa : IntKind.i64.wrap ((a : Int) + (p.size : Int)) = (a : Int) + (p.size : Int) := wrap_small _ (by omega) (by omega)
  obtain ⟨G1, hG1⟩ : ∃ G, A1 ++ p = G := ⟨_, rfl⟩
  obtain ⟨G2, hG2⟩ : ∃ G, G1 ++ A3 = G := ⟨_, rfl⟩
  have zG : G1.size = a + p.size := by rw [← hG1, ByteArray.size_append, z1]
  have t1 : ∀ w', (Go.Op.stringOp .add A1 p).run Tryz.prog w' = .ok (.string G1) w' := fun w' => by rw [run_string_add_sum (P := Tryz.prog) (w := w') _ _ (by omega), hG1]
  have t2 : ∀ w', (Go.Op.stringOp .add G1 A3).run Tryz.prog w' = .ok (.string G2) w' := fun w' => by rw [run_string_add_sum (P := Tryz.prog) (w := w') _ _ (by omega), hG2]
  rw [hG1, hG2] at eW
  clear hA1 hA3 hG1 hG2 z1 z3 zG zS
  go_enter Tryz.func28, Tryz.ntmps28
  go_wp2_with fail
  refine (GA.out _).mono ?_
  rintro e w1 ⟨rfl, hb⟩
  have B1 := Lib.hid (hb.alloc hb.size (.cells (obsC oA).toArray 23))
  clear hb GA
  go_wp2_with (refine wpList_store_new rfl _ (.tmp 6) (.tmp 10) rfl _ _ rfl rfl info8 rfl ?_ ?_; simp [Value.oneCell'])
  go_quiet (fail)
  go_wp2_with fail
  go_ret
  exact ⟨by rw [eW.out]; rfl, below_then B1.out (drewN_below2 (Below.refl _ _) _)⟩
set_option maxRecDepth 100000 in
set_option maxHeartbeats 4000000 in
theorem reads_any (s want : ByteArray) (o : Ob) (w : World) (hT : Gt.Tab w) (hE : ES w) (hs : s.size ≤ maxLen) (h : ObsIs s o 0) (g : PrintIs o want 0) (hb : OB o) : Calls Tryz.prog 29 #[.string s, .string want] w fun e w' => e = .returned (.bool true) ∧ Below w.heap.size w w' := by
  have PA := Lib.hid (obs_parse_any s w hE hs)
  have PR := Lib.hid (fun w' (h : Gt.Tab w') (g : ES w') => print_any o w' h g hb)
  have HT := Lib.hid (fun w' (h : Below w.heap.size w w') => hT.below h)
  have HE := Lib.hid (fun w' (h : Below w.heap.size w w') => hE.below h)
  have H := Lib.hid h
  have G := Lib.hid g
  clear hT hE hs h g hb
  go_enter Tryz.func29, Tryz.ntmps29
  go_wp2_with fail
  refine PA.out.mono ?_
  rintro e w1 ⟨q, c, rfl, hP, hb⟩
  obtain ⟨rfl, rfl⟩ := H.out.uniq hP
  have X1 := Lib.hid (show OX w w1.heap.size o _ from ⟨hb.alloc hb.size (.cells (obsC o).toArray 23), by simp, rangeAt_new w1 _ _⟩)
  clear hb hP PA
  go_wp2_with (first | (refine wpList_store_new rfl _ (.tmp 5) (.tmp 12) rfl _ _ rfl rfl info8 rfl ?_ ?_; simp [Value.oneCell']) | (refine wpList_load_mid rfl _ (.tmp 5) rfl w1.heap.size 0 rfl (obsC o) _ X1.out.row Tryz.underlying23 rfl info8 ?_))
  refine (PR.out _ (HT.out _ X1.out.below) (HE.out _ X1.out.below)).mono ?_
  rintro e w2 ⟨t, c, rfl, hP, hb⟩
  obtain ⟨rfl, rfl⟩ := G.out.uniq hP
  have B2 := Lib.hid (below_then X1.out.below hb)
  clear hb hP PR X1
  go_wp2_with fail
  go_ret
  exact ⟨rfl, B2.out⟩
set_option maxRecDepth 100000 in
set_option maxHeartbeats 4000000 in
theorem wrong_any (s : ByteArray) (w : World) (hE : ES w) (hs : s.size ≤ maxLen) (no : NoO s) : Calls Tryz.prog 30 #[.string s] w fun e w' => e = .returned (.bool true) ∧ Below w.heap.size w w' := by
  have PA := Lib.hid (obs_parse_any s w hE hs)
  have H := Lib.hid (show ObsIs s ⟨⟨#[]⟩, ⟨#[]⟩, 0, 0, 0, 0, 0, 0⟩ 12 from obs_no no)
  clear hE hs no
  go_enter Tryz.func30, Tryz.ntmps30
  go_wp2_with fail
  refine PA.out.mono ?_
  rintro e w1 ⟨q, c, rfl, hP, hb⟩
  obtain ⟨rfl, rfl⟩ := H.out.uniq hP
  have X1 := Lib.hid (show OX w w1.heap.size (⟨⟨#[]⟩, ⟨#[]⟩, 0, 0, 0, 0, 0, 0⟩ : Ob) _ from ⟨hb.alloc hb.size (.cells (obsC (⟨⟨#[]⟩, ⟨#[]⟩, 0, 0, 0, 0, 0, 0⟩ : Ob)).toArray 23), by simp, rangeAt_new w1 _ _⟩)
  have l1 := X1.out.lt
  have q0 := X1.out.row 0 _ rfl
  have q1 := X1.out.row 1 _ rfl
  have q2 := X1.out.row 2 _ rfl
  have q3 := X1.out.row 3 _ rfl
  have q4 := X1.out.row 4 _ rfl
  have q5 := X1.out.row 5 _ rfl
  have q6 := X1.out.row 6 _ rfl
  have q7 := X1.out.row 7 _ rfl
  simp only [Nat.zero_add] at q0 q1 q2 q3 q4 q5 q6 q7
  clear hb hP PA
  go_wp2_with (refine wpList_store_new rfl _ (.tmp 3) (.tmp 8) rfl _ _ rfl rfl info8 rfl ?_ ?_; simp [Value.oneCell'])
  go_ret
  exact ⟨rfl, X1.out.below⟩
end Ow
end Go.Proofs.YtgodhaphbgllhaaGreatDoor
/-
  Plain law of observations: the lines of the law ObsNames that cannot be read; no walk here.
-/
namespace Go.Proofs.YtgodhaphbgllhaaGreatDoor
namespace Op
open Go.RowKit Lw Go.Proofs.YtgodhaphbgllhaaGreatDoor.Ap Go.Proofs.YtgodhaphbgllhaaGreatDoor.Mp Go.Proofs.YtgodhaphbgllhaaGreatDoor.At Go.Proofs.YtgodhaphbgllhaaGreatDoor.Ow Go.Proofs.YtgodhaphbgllhaaGreatDoor.Mw

/-- A column that is a magnitude. -/
def magOkP (s : ByteArray) : Prop := bt s 2 = 46 ∧ dgP (bt s 1) ∧ dgP (bt s 3) ∧ (dgP (bt s 4) ∨ bt s 4 = 32) ∧ ((bt s 0 = 45 ∧ 0 < magN s) ∨ bt s 0 = 32 ∨ (dgP (bt s 0) ∧ bt s 0 ≠ 48 ∧ magN s + 1000 * (bt s 0 - 48) ≤ 3000))
instance (s : ByteArray) : Decidable (magOkP s) := by unfold magOkP; infer_instance
theorem no_mag2 {s : ByteArray} (hb : ¬ blankP (s.extract 65 71)) (h : ¬ magOkP (s.extract 65 70)) : NoO s := fun x g => by
  rcases g.mag with ⟨a, _⟩ | ⟨_, b, _⟩
  · exact hb a
  · apply h
    obtain ⟨b1, b2, b3, b4, b5⟩ := b
    refine ⟨b1, b2, b3, b4, ?_⟩
    rcases b5 with ⟨c1, _, c3⟩ | ⟨c1, _⟩ | ⟨c1, c2, c3, c4⟩
    · exact Or.inl ⟨c1, c3⟩
    · exact Or.inr (Or.inl c1)
    · exact Or.inr (Or.inr ⟨c1, c2, by omega⟩)
theorem no_band {s : ByteArray} (hb : ¬ blankP (s.extract 65 71)) (h : ¬ (bt s 70 = 32 ∨ ltP (bt s 70))) : NoO s := fun x g => by
  obtain ⟨_, _, _, _, _, _, _, _, _, _, m⟩ := g.ok
  rcases g.mag with ⟨a, _⟩ | ⟨_, _, c⟩
  · exact hb a
  · rw [c] at m
    rcases m with ⟨_, m⟩ | ⟨_, _, m⟩
    · exact h (Or.inl m)
    · exact h m
theorem no_site {s : ByteArray} (h : ¬ wordP (s.extract 77 80).data.toList) : NoO s := fun x g => by
  obtain ⟨_, _, _, m, _⟩ := g.ok
  rw [g.site] at m
  exact h m
theorem no_nm {s : ByteArray} (hb : blankP (s.extract 0 5)) (h : ¬ nameP (cutS (s.extract 5 12))) : NoO s := fun x g => by
  obtain ⟨_, m, _⟩ := g.ok
  rcases g.name with ⟨_, b, _⟩ | ⟨a, _⟩
  · rw [b] at m; exact h m
  · exact a hb
theorem ra_n {s : ByteArray} (h : ¬ (Gp.validP s ∧ Gp.two s 0 ≤ 23)) : Gp.RaIs s 0 12 := Or.inr ⟨h, rfl, rfl⟩
theorem dec_n {s : ByteArray} (h : ¬ Gp.decOk s) : Gp.DecIs s 0 12 := Or.inr ⟨h, rfl, rfl⟩
theorem bad_size1 : NoO (sOA.extract 0 79) := no_size (by decide +kernel)
theorem bad_size2 : NoO (sOA ++ ⟨#[32]⟩) := no_size (by decide +kernel)
theorem bad_c : NoO (withS 14 ⟨#[99]⟩) := no_mark (by decide +kernel)
theorem bad_1 : NoO (withS 0 ⟨#[49]⟩) := no_n2 (by decide +kernel) (by decide +kernel)
theorem bad_433 : NoO (withS 0 ⟨#[48, 48, 52, 51, 51]⟩) := no_n3 (by decide +kernel) (by decide +kernel)
theorem bad_star : NoO (withS 12 ⟨#[42]⟩) := no_mark (by decide +kernel)
theorem bad_433b : NoO (withS 5 ⟨#[48, 48, 52, 51, 51, 32, 32]⟩) := no_n1 (by decide +kernel) (by decide +kernel)
theorem bad_sp : NoO (withS 5 ⟨#[32, 75, 50, 54, 87, 49, 50]⟩) := no_nm (by decide +kernel) (by decide +kernel)
theorem bad_1971 : NoO (withS 15 ⟨#[49, 57, 55, 49]⟩) := no_day (pday_n (by decide +kernel)) (by decide)
instance (s : ByteArray) : Decidable (Gp.validP s) := by unfold Gp.validP Gp.shapeP; infer_instance
instance (s : ByteArray) : Decidable (Gp.decOk s) := by unfold Gp.decOk Gp.signP; infer_instance
theorem bad_24 : NoO (withS 32 ⟨#[50, 52]⟩) := no_ra (ra_n (by decide +kernel)) (by decide)
theorem bad_91 : NoO (withS 44 ⟨#[43, 57, 49]⟩) := no_dec (dec_n (by decide +kernel)) (by decide)
theorem bad_sp2 : NoO (withS 44 ⟨#[32]⟩) := no_dec (dec_n (by decide +kernel)) (by decide)
theorem bad_mag0 : NoO (withS 65 ⟨#[45, 48, 46, 48, 48]⟩) := no_mag2 (by decide +kernel) (by decide +kernel)
theorem bad_mag08 : NoO (withS 65 ⟨#[48, 56, 46, 53, 48]⟩) := no_mag2 (by decide +kernel) (by decide +kernel)
theorem bad_mag31 : NoO (withS 65 ⟨#[51, 49, 46, 48, 48]⟩) := no_mag2 (by decide +kernel) (by decide +kernel)
theorem bad_mag99 : NoO (withS 65 ⟨#[57, 57, 46, 57, 57, 32]⟩) := no_mag2 (by decide +kernel) (by decide +kernel)
theorem bad_mag185 : NoO (withS 65 ⟨#[32, 49, 56, 46, 53]⟩) := no_mag2 (by decide +kernel) (by decide +kernel)
theorem bad_band : NoO (withS 70 ⟨#[49]⟩) := no_band (by decide +kernel) (by decide +kernel)
theorem bad_x : NoO (withS 56 ⟨#[120]⟩) := no_b1 (by decide +kernel)
theorem bad_site : NoO (withS 77 ⟨#[70, 45, 49]⟩) := no_site (by decide +kernel)
theorem bad_none : NoO ⟨#[]⟩ := no_size (by decide +kernel)
end Op
end Go.Proofs.YtgodhaphbgllhaaGreatDoor
/-
  Plain law of observations: the lines of the law ObsNames that can be read; no walk here.
-/
namespace Go.Proofs.YtgodhaphbgllhaaGreatDoor
namespace Op
open Go.RowKit Lw Go.Proofs.YtgodhaphbgllhaaGreatDoor.Ap Go.Proofs.YtgodhaphbgllhaaGreatDoor.Mp Go.Proofs.YtgodhaphbgllhaaGreatDoor.At Go.Proofs.YtgodhaphbgllhaaGreatDoor.Ow Go.Proofs.YtgodhaphbgllhaaGreatDoor.Mw

/-- The line of an exact observation at the example's time. -/
theorem line_k {s : ByteArray} {o : Ob} (ok : okO o) (ht : o.t = 848793669184000) (hr : ∃ N : Nat, o.ra = ((N * 15000 : Nat) : Int)) (hc : ∃ R : Nat, o.dec.natAbs = R * 10000) (hs : o.sg = 100000) (e : lineL dayA o = s.data.toList) : ObsIs s o 0 ∧ PrintIs o s 0 := by
  have kd := k_dayA
  have kp := k_pdayA
  rw [← ht] at kd kp
  have g := line_good ok kd (exact_rnd ok kd kp hr hc hs)
  rw [e, mk_toL] at g
  exact ⟨Or.inl ⟨g, rfl⟩, Or.inl ⟨ok, ⟨dayA, kd, by rw [e, mk_toL]⟩, rfl⟩⟩
def o9 : Ob := { oA with mag := 910 }
def oN : Ob := { oA with name := ⟨#[97]⟩ }
def o90 : Ob := { oA with dec := 324000000000 }
def oZ : Ob := { oA with name := ⟨#[126, 48, 48, 48, 122]⟩ }
def oB : Ob := { oA with mag := 9999, band := 32 }
def oF : Ob := { oA with mag := 5, band := 32 }
def oR : Ob := { oA with mag := -146, name := ⟨#[48, 48, 52, 51, 51]⟩ }
theorem yes_a : ObsIs (withS 5 ⟨#[97, 32, 32, 32, 32, 32, 32]⟩) oN 0 ∧ PrintIs oN (withS 5 ⟨#[97, 32, 32, 32, 32, 32, 32]⟩) 0 := line_k (by decide +kernel) rfl ⟨1000, rfl⟩ ⟨100, rfl⟩ rfl (by decide +kernel)
theorem yes_90 : ObsIs (withS 44 ⟨#[43, 57, 48, 32, 48, 48, 32, 48, 48, 46, 48, 48]⟩) o90 0 ∧ PrintIs o90 (withS 44 ⟨#[43, 57, 48, 32, 48, 48, 32, 48, 48, 46, 48, 48]⟩) 0 := line_k (by decide +kernel) rfl ⟨1000, rfl⟩ ⟨32400000, rfl⟩ rfl (by decide +kernel)
def sZ : ByteArray := ⟨#[126, 48, 48, 48, 122, 32, 32, 32, 32, 32, 32, 32]⟩ ++ sOA.extract 12 80
theorem yes_Z : ObsIs sZ oZ 0 ∧ PrintIs oZ sZ 0 := line_k (by decide +kernel) rfl ⟨1000, rfl⟩ ⟨100, rfl⟩ rfl (by decide +kernel)
theorem yes_9 : PrintIs o9 (withS 65 ⟨#[32, 57, 46, 49, 48]⟩) 0 := (line_k (by decide +kernel) rfl ⟨1000, rfl⟩ ⟨100, rfl⟩ rfl (by decide +kernel)).2
instance (a b c : Nat) : Decidable (digP a b c) := by unfold digP; infer_instance
/-- A line that is read, field by field. -/
theorem good_k {s : ByteArray} {o : Ob} (h0 : s.size = 80) (h1 : bt s 12 = 32 ∧ bt s 13 = 32 ∧ bt s 14 = 67) (h2 : blankP (s.extract 56 65) ∧ blankP (s.extract 71 77))
    (h3 : digP (decs (cutS (s.extract 15 32))) (decs (cutS (s.extract 32 44))) (decs (cutS (s.extract 44 56)))) (h4 : okDay (cutS (s.extract 15 32))) (h5 : dayV (cutS (s.extract 15 32)) = o.t)
    (h6 : Gp.validP (cutS (s.extract 32 44)) ∧ Gp.two (cutS (s.extract 32 44)) 0 ≤ 23) (h7 : o.ra = Gp.angV (cutS (s.extract 32 44)) 15000000) (h8 : Gp.decOk (cutS (s.extract 44 56)))
    (h9 : o.dec = (if (((cutS (s.extract 44 56)).get! 0).toNat : Int) = 45 then -Gp.angV (Gp.tailOf (cutS (s.extract 44 56))) 1000000 else Gp.angV (Gp.tailOf (cutS (s.extract 44 56))) 1000000))
    (ha : o.site = s.extract 77 80) (hb : o.sg = sgOf (decs (cutS (s.extract 44 56)))) (hc : blankP (s.extract 0 5) ∧ o.name = cutS (s.extract 5 12) ∧ ¬ numbP o.name)
    (hd : ¬ blankP (s.extract 65 71)) (he : magOkP (s.extract 65 70)) (hf : (bt (s.extract 65 70) 0 = 32 ∧ o.mag = magN (s.extract 65 70)) ∨ (dgP (bt (s.extract 65 70) 0) ∧ bt (s.extract 65 70) 0 ≠ 48 ∧ o.mag = magN (s.extract 65 70) + 1000 * (bt (s.extract 65 70) 0 - 48) ∧ o.mag ≤ 3000)) (hg : o.band = bt s 70) (ok : okO o) : ObsIs s o 0 :=
  Or.inl ⟨⟨h0, h1, h2.1, h2.2, ⟨h3.1, h3.2.1⟩, ⟨h3.2.2.1, h3.2.2.2.1⟩, h3.2.2.2.2, Or.inl ⟨h4, h5.symm, rfl⟩, Or.inl ⟨h6.1, h6.2, h7, rfl⟩, Or.inl ⟨h8, h9, rfl⟩, ha, hb, Or.inl hc, Or.inr ⟨hd, ⟨he.1, he.2.1, he.2.2.1, he.2.2.2.1, Or.inr hf⟩, hg⟩, ok⟩, rfl⟩
theorem yes_91 : ObsIs (withS 65 ⟨#[32, 57, 46, 49, 32]⟩) o9 0 := good_k (by decide +kernel) (by decide +kernel) (by decide +kernel) (by decide +kernel) (by decide +kernel) (by decide +kernel) (by decide +kernel) (by decide +kernel) (by decide +kernel) (by decide +kernel) (by decide +kernel) (by decide +kernel) (by decide +kernel) (by decide +kernel) (by decide +kernel) (by decide +kernel) (by decide +kernel) (by decide +kernel)
def oW : Ob := { oA with sg := 1000000 }
def sW : ByteArray := ⟨#[50, 52, 46, 53, 48, 48, 32, 32, 32, 48, 48, 32, 48, 48, 32, 48, 49, 46, 48, 32, 32, 45, 48, 48, 32, 48, 48, 32, 48, 49, 32, 32, 32]⟩
theorem yes_few : ObsIs (withS 23 sW) oW 0 := good_k (by decide +kernel) (by decide +kernel) (by decide +kernel) (by decide +kernel) (by decide +kernel) (by decide +kernel) (by decide +kernel) (by decide +kernel) (by decide +kernel) (by decide +kernel) (by decide +kernel) (by decide +kernel) (by decide +kernel) (by decide +kernel) (by decide +kernel) (by decide +kernel) (by decide +kernel) (by decide +kernel)
theorem print_B : PrintIs oB ((withS 66 ⟨#[32, 32, 32, 32, 32]⟩).extract 0 65 ++ ⟨#[32, 32, 32, 32, 32, 32, 32, 32, 32, 32, 32, 32, 70, 53, 49]⟩) 0 := (line_k (by decide +kernel) rfl ⟨1000, rfl⟩ ⟨100, rfl⟩ rfl (by decide +kernel)).2
theorem print_F : PrintIs oF (withS 65 ⟨#[32, 48, 46, 48, 53, 32]⟩) 0 := (line_k (by decide +kernel) rfl ⟨1000, rfl⟩ ⟨100, rfl⟩ rfl (by decide +kernel)).2
theorem print_R : PrintIs oR (⟨#[48, 48, 52, 51, 51, 32, 32, 32, 32, 32, 32, 32, 32, 32, 67]⟩ ++ (withS 65 ⟨#[45, 49, 46, 52, 54]⟩).extract 15 80) 0 := (line_k (by decide +kernel) rfl ⟨1000, rfl⟩ ⟨100, rfl⟩ rfl (by decide +kernel)).2
end Op
end Go.Proofs.YtgodhaphbgllhaaGreatDoor
/-
  What the law ObsNames needs of slices of zero observations and of files of lines; no walk here.
-/
namespace Go.Proofs.YtgodhaphbgllhaaGreatDoor
namespace Ow
open Go.RowKit Lw Go.Proofs.YtgodhaphbgllhaaGreatDoor.Ap Go.Proofs.YtgodhaphbgllhaaGreatDoor.Op Go.Proofs.YtgodhaphbgllhaaGreatDoor.Mp Go.Proofs.YtgodhaphbgllhaaGreatDoor.Mw Go.Proofs.YtgodhaphbgllhaaGreatDoor.At

def zQ : Ob := ⟨⟨#[]⟩, ⟨#[]⟩, 0, 0, 0, 0, 0, 0⟩
def zC (n : Nat) : Array Value := madeCells (obsC zQ).toArray (n * 8)
theorem info8f : (Tryz.prog.info? 23).map (fun i => (i.zero, i.size, i.bytes)) = some (some (.agg (obsC zQ).toArray), 8, 80) := by kernel_rfl
theorem make_O (n : Nat) (hn : n ≤ 2000) (w : World) : (Instr.makeSlice 25 (.int .i64 (n : Int)) (.int .i64 (n : Int))).run Tryz.prog w = .ok (.slice (some ⟨w.heap.size, 0, none⟩) n n) (w.alloc (.cells (zC n) 23)) := by
  obtain ⟨i, hi, hzz⟩ := Option.map_eq_some_iff.1 info8f
  simp only [Prod.mk.injEq] at hzz
  obtain ⟨hz, hs, hb⟩ := hzz
  have h := run_make (P := Tryz.prog) w 25 23 i _ Tryz.underlying25 hi hz .i64 .i64 (n : Int) (n : Int) (by omega) (Int.le_refl _) (by rw [hb]; omega) (by omega)
  rw [hs, Int.toNat_natCast] at h
  exact h
theorem zC_get (n i j : Nat) (v : Value) (hi : i < n) (h : (obsC zQ)[j]? = some v) : (zC n)[i * 8 + j]? = some v := by
  have hj : j < 8 := by
    have h8 : (obsC zQ).length = 8 := rfl
    have := (List.getElem?_eq_some_iff.1 h).1
    omega
  have hz : (obsC zQ).toArray.size = 8 := rfl
  have hl : i * 8 + j < n * 8 := by omega
  unfold zC madeCells
  rw [Array.getElem?_map, hz]
  rw [show (Array.range (n * 8))[i * 8 + j]? = some (i * 8 + j) by simp [hl]]
  show some ((obsC zQ).toArray[(i * 8 + j) % 8]!) = some v
  rw [show (i * 8 + j) % 8 = j by omega]
  have : (obsC zQ).toArray[j]? = some v := by simpa using h
  rw [getElem!_def, this]
theorem zeros_at (w : World) (n : Nat) : SlA (w.alloc (.cells (zC n) 23)) (some ⟨w.heap.size, 0, none⟩) (List.replicate n zQ) := by
  refine Or.inr ⟨w.heap.size, 0, rfl, by simp, fun i hi j v hv => ?_⟩
  rw [List.length_replicate] at hi
  rw [List.getElem_replicate] at hv
  rw [World.cell?_alloc_at _ _ _ _ rfl, Nat.zero_add]
  exact zC_get n i j v hi hv
theorem zeros_ob (n : Nat) : OBs (List.replicate n zQ) := fun i hi => by
  rw [List.getElem_replicate]
  exact ⟨by decide, by decide, by decide, by decide, by decide, by decide⟩
theorem zeros_many : allC (List.replicate 501 zQ) = 4 := allC_many (by rw [List.length_replicate]; omega)
theorem zeros_one : allC (List.replicate 1 zQ) = 8 := allC_bad (i := 0) (by decide) (by decide) (by decide)
theorem print_zeros (n : Nat) (c : Int) (hn : n ≤ 2000) (hc : allC (List.replicate n zQ) = c) (h0 : c ≠ 0) (w : World) (hT : Gt.Tab w) (hE : ES w) : Calls Tryz.prog 20 #[.slice (some ⟨w.heap.size, 0, none⟩) n n] (w.alloc (.cells (zC n) 23)) fun e w' => e = .returned (.tuple #[.string ByteArray.empty, .int .i64 c]) ∧ Below w.heap.size w w' := by
  have bl := (Below.refl w.heap.size w).alloc (Nat.le_refl _) (.cells (zC n) 23)
  have h := printall_any (some ⟨w.heap.size, 0, none⟩) n (List.replicate n zQ) _ (hT.below bl) (hE.below bl) (zeros_at w n) (by rw [List.length_replicate]; omega) (zeros_ob n)
  rw [List.length_replicate] at h
  refine h.mono ?_
  rintro e w1 ⟨s, c', rfl, hP, hb⟩
  rcases hP with ⟨h1, -⟩ | ⟨-, rfl, rfl⟩
  · exact absurd (hc.symm.trans h1) h0
  · exact ⟨by rw [hc], below_then bl hb⟩
theorem sort_zeros (n : Nat) (c : Int) (hn : n ≤ 2000) (hc : allC (List.replicate n zQ) = c) (h0 : c ≠ 0) (w : World) (hE : ES w) : Calls Tryz.prog 24 #[.slice (some ⟨w.heap.size, 0, none⟩) n n] (w.alloc (.cells (zC n) 23)) fun e w' => (∃ v, e = .returned (.tuple #[v, .int .i64 c])) ∧ Below w.heap.size w w' := by
  have bl := (Below.refl w.heap.size w).alloc (Nat.le_refl _) (.cells (zC n) 23)
  have h := sort_any (some ⟨w.heap.size, 0, none⟩) n (List.replicate n zQ) _ (hE.below bl) (zeros_at w n) (by rw [List.length_replicate]; omega) (zeros_ob n)
  rw [List.length_replicate] at h
  refine h.mono ?_
  rintro e w1 ⟨v, x, c', rfl, hP, hs, hb⟩
  rcases hP with ⟨h1, -⟩ | ⟨-, rfl, rfl⟩
  · exact absurd (hc.symm.trans h1) h0
  · exact ⟨⟨v, by rw [hc]⟩, below_then bl hb⟩
def sTwo : ByteArray := ((sOA ++ ⟨#[10]⟩) ++ sOA) ++ ⟨#[10]⟩
theorem good_A : Go.Proofs.YtgodhaphbgllhaaGreatDoor.Op.Good sOA oA := (obs_c k_parse_oA).elim (·.1) (fun h => absurd h.2 (by decide))
theorem two_is : ParseAllIs sTwo [oA, oA] 0 := by
  have e0 : sTwo.extract (81 * 0) (81 * 0 + 80) = sOA := by decide +kernel
  have e1 : sTwo.extract (81 * 1) (81 * 1 + 80) = sOA := by decide +kernel
  have zs : sTwo.size = 162 := by decide +kernel
  have b0 : bt sTwo (81 * 0 + 80) = 10 := by decide +kernel
  have b1 : bt sTwo (81 * 1 + 80) = 10 := by decide +kernel
  have g0 : 81 * 0 + 81 ≤ sTwo.size := by rw [zs]; decide
  have g1 : 81 * 1 + 81 ≤ sTwo.size := by rw [zs]; decide
  have s0 : StepAt sTwo 0 oA := ⟨g0, by rw [e0]; exact good_A, b0⟩
  have s1 : StepAt sTwo 1 oA := ⟨g1, by rw [e1]; exact good_A, b1⟩
  have pt : PartTo sTwo 2 [oA, oA] := ⟨[oA], oA, ⟨[], oA, rfl, s0, rfl⟩, s1, rfl⟩
  exact ⟨2, [oA, oA], pt, Or.inl ⟨by rw [zs], by omega, rfl, rfl⟩⟩
theorem one_is : ParseAllIs sOA [] 12 := by
  have zs : sOA.size = 80 := by decide +kernel
  refine ⟨0, [], rfl, Or.inr (Or.inr ⟨by rw [zs]; omega, fun o h => ?_, rfl, rfl⟩)⟩
  have := h.1
  omega
theorem parse_two (w : World) (hE : ES w) : Calls Tryz.prog 22 #[.string sTwo] w fun e w' => (∃ b off cap, e = .returned (.tuple #[.slice (some ⟨b, off, none⟩) 2 cap, .int .i64 0]) ∧ w'.rangeAt b (off + 8) (obsC oA) ∧ b < w'.heap.size) ∧ Below w.heap.size w w' := by
  refine (parseall_any sTwo w hE (by decide +kernel)).mono ?_
  rintro e w1 ⟨v, l, c, rfl, hP, hs, hb⟩
  obtain ⟨rfl, rfl⟩ := two_is.uniq hP
  obtain ⟨x, cap, rfl, hs⟩ := hs
  rcases hs with h | ⟨b, off, rfl, lt, hat⟩
  · cases h
  · exact ⟨⟨b, off, cap, rfl, hat 1 (by decide), lt⟩, hb⟩
theorem parse_one (w : World) (hE : ES w) : Calls Tryz.prog 22 #[.string sOA] w fun e w' => (∃ v, e = .returned (.tuple #[v, .int .i64 12])) ∧ Below w.heap.size w w' := by
  refine (parseall_any sOA w hE (by decide +kernel)).mono ?_
  rintro e w1 ⟨v, l, c, rfl, hP, hs, hb⟩
  obtain ⟨rfl, rfl⟩ := one_is.uniq hP
  exact ⟨⟨v, rfl⟩, hb⟩
end Ow
end Go.Proofs.YtgodhaphbgllhaaGreatDoor
/-
  The walk of the law ObsNames.
-/
namespace Go.Proofs.YtgodhaphbgllhaaGreatDoor
namespace Ow
open Go.RowKit Lw Go.Proofs.YtgodhaphbgllhaaGreatDoor.Ap Go.Proofs.YtgodhaphbgllhaaGreatDoor.Op Go.Proofs.YtgodhaphbgllhaaGreatDoor.Mp Go.Proofs.YtgodhaphbgllhaaGreatDoor.Mw Go.Proofs.YtgodhaphbgllhaaGreatDoor.At

/-- The boxes of the law. -/
structure NX (W0 : World) (bs : List (Nat × Ob)) (w : World) : Prop where
  boxes : ∀ t ∈ bs, Box t.1 t.2 w
  below : Below W0.heap.size W0 w
theorem NX.call {W0 w w' : World} {bs : List (Nat × Ob)} (h : NX W0 bs w) (hb : Below w.heap.size w w') : NX W0 bs w' := ⟨fun t ht => (h.boxes t ht).call hb, below_then h.below hb⟩
theorem NX.new {W0 w : World} {bs : List (Nat × Ob)} (h : NX W0 bs w) (o : Ob) : NX W0 ((w.heap.size, o) :: bs) (w.alloc (.cells (obsC o).toArray 23)) := by
  have bl := (Below.refl w.heap.size w).alloc (Nat.le_refl _) (.cells (obsC o).toArray 23)
  refine ⟨fun t ht => ?_, below_then h.below bl⟩
  rcases List.mem_cons.1 ht with rfl | ht
  · exact Box.new w o
  · exact (h.boxes t ht).call bl
theorem NX.set {W0 w : World} {b : Nat} {o : Ob} {bs : List (Nat × Ob)} (h : NX W0 ((b, o) :: bs) w) (hb : W0.heap.size ≤ b) (hn : ∀ t ∈ bs, t.1 ≠ b) (i : Nat) (v : Value) (o' : Ob) (hi : i < 8) (e : obsC o' = (obsC o).set i v) : NX W0 ((b, o') :: bs) (w.setCell ⟨b, i, none⟩ v) := by
  refine ⟨fun t ht => ?_, h.below.setCell (p := ⟨b, i, none⟩) hb v⟩
  rcases List.mem_cons.1 ht with rfl | ht
  · exact (h.boxes (b, o) (List.mem_cons_self)).set i v o' hi e
  · exact (h.boxes t (List.mem_cons_of_mem _ ht)).apart (hn t ht) i v
theorem Box.put {w : World} {b : Nat} {z o : Ob} (h : Box b z w) : Box b o (w.setCells b 0 (obsC o)) := by
  have hz := sets_size b (obsC o) 0 w
  exact ⟨by rw [hz]; exact h.lt, World.rangeAt_setCells_same w b 0 (obsC o) h.th, World.there_setCells h.th b 0 (obsC o)⟩
theorem Box.away {w : World} {b c : Nat} {z o : Ob} (h : Box b z w) (hn : b ≠ c) : Box b z (w.setCells c 0 (obsC o)) := by
  have hz := sets_size c (obsC o) 0 w
  exact ⟨by rw [hz]; exact h.lt, World.rangeAt_setCells_apart h.row c 0 (obsC o) (Or.inl hn), World.there_setCells h.th c 0 (obsC o)⟩
theorem NX.put {W0 w : World} {b : Nat} {z o : Ob} {bs : List (Nat × Ob)} (h : NX W0 ((b, z) :: bs) w) (hb : W0.heap.size ≤ b) (hn : ∀ t ∈ bs, t.1 ≠ b) : NX W0 ((b, o) :: bs) (w.setCells b 0 (obsC o)) := by
  refine ⟨fun t ht => ?_, below_sets b hb _ _ h.below⟩
  rcases List.mem_cons.1 ht with rfl | ht
  · exact (h.boxes (b, z) (List.mem_cons_self)).put
  · exact (h.boxes t (List.mem_cons_of_mem _ ht)).away (hn t ht)
theorem NX.swap {W0 w : World} {a b : Nat × Ob} {bs : List (Nat × Ob)} (h : NX W0 (a :: b :: bs) w) : NX W0 (b :: a :: bs) w := ⟨fun t ht => h.boxes t (by simp only [List.mem_cons] at ht ⊢; exact ht.elim (fun h => Or.inr (Or.inl h)) (fun h => h.elim Or.inl (fun h => Or.inr (Or.inr h)))), h.below⟩
theorem NX.tail {W0 w : World} {a : Nat × Ob} {bs : List (Nat × Ob)} (h : NX W0 (a :: bs) w) : NX W0 bs w := ⟨fun t ht => h.boxes t (List.mem_cons_of_mem _ ht), h.below⟩
theorem step_store_S {S : World → Prop} {md : Region.Mode} {ops : Array Oper} {Q : Exit → Act → World → Prop} {fuel : Nat} {listed : Array Bool} {a : Act} {w : World} {i : Nat} {o : Oper} (hr : Region.ready md ops listed = [i]) (ho : ops[i]? = some o) (hw : Region.wanted o (yielded ops a.tmps) = true) (x y : Operand) (hop : o.op = .store 23 x y) (b off : Nat) (q : Ob)
    (hx : a.eval x = .pointer (some ⟨b, off, none⟩)) (hy : a.eval y = .agg (obsC q).toArray) (ht : w.there b off 8) (hS : S (w.setCells b off (obsC q))) (h : wpAnyH Tryz.prog md ops Q S fuel (listed.setIfInBounds i true) (a.put o.dst undef) (w.setCells b off (obsC q))) : wpAnyH Tryz.prog md ops Q S (fuel + 1) listed a w :=
  wpAnyH_ready hr (by simp) (AllReadyH.cons ho (fun K' hK => wanted_go hw (store_O x y hop b off q hx hy ht (hK.out _ _ hS (fun _ => h)))) AllReadyH.nil)
structure NR (W0 : World) (p b off : Nat) (w : World) : Prop where
  nx : NX W0 [(p, oA)] w
  row : w.rangeAt b (off + 8) (obsC oA)
  lt : b < w.heap.size
theorem NR.call {W0 w w' : World} {p b off : Nat} (h : NR W0 p b off w) (hb : Below w.heap.size w w') : NR W0 p b off w' := ⟨h.nx.call hb, rangeAt_below h.row hb h.lt, Nat.lt_of_lt_of_le h.lt hb.size⟩
abbrev zB : Ob := ⟨⟨#[]⟩, ⟨#[]⟩, 0, 0, 0, 0, 0, 0⟩
theorem nx_two {W0 w : World} {bs : List (Nat × Ob)} (z : Ob) (h : NX W0 bs w) : NX W0 ((w.heap.size + 1, z) :: (w.heap.size, z) :: bs) ((w.alloc (.cells (obsC z).toArray 23)).alloc (.cells (obsC z).toArray 23)) := by
  have g := (h.new z).new z
  have e : (w.alloc (.cells (obsC z).toArray 23)).heap.size = w.heap.size + 1 := by simp
  rw [e] at g
  exact g
theorem NX.lt {W0 w : World} {bs : List (Nat × Ob)} (h : NX W0 bs w) {t : Nat × Ob} (ht : t ∈ bs) : t.1 < w.heap.size := (h.boxes t ht).lt
set_option maxRecDepth 100000 in
set_option maxHeartbeats 40000000 in
theorem obsnames_any (w : World) (hT : Gt.Tab w) (hE : ES w) : Calls Tryz.prog 8 #[] w fun e w' => e = .returned (.bool true) ∧ Below w.heap.size w w' := by
  have HT := Lib.hid (fun w' (h : Below w.heap.size w w') => hT.below h)
  have HE := Lib.hid (fun w' (h : Below w.heap.size w w') => hE.below h)
  have GA := Lib.hid (fun w' => given_any w')
  have WI := Lib.hid (fun a p w' (h : a + ByteArray.size p ≤ 80) => with_any a p w' h)
  have PA := Lib.hid (fun s w' (h : Below w.heap.size w w') (g : ByteArray.size s ≤ maxLen) => obs_parse_any s w' (HE.out _ h) g)
  have PR := Lib.hid (fun o w' (h : Below w.heap.size w w') (g : OB o) => print_any o w' (HT.out _ h) (HE.out _ h) g)
  have RD := Lib.hid (fun s want o w' (h : Below w.heap.size w w') hs h1 h2 ob => reads_any s want o w' (HT.out _ h) (HE.out _ h) hs h1 h2 ob)
  have WR := Lib.hid (fun s w' (h : Below w.heap.size w w') hs no => wrong_any s w' (HE.out _ h) hs no)
  clear hT hE
  go_enter Tryz.func8, Tryz.ntmps8
  go_wp2_with fail
  refine (GA.out _).mono ?_
  rintro e w1 ⟨rfl, hb⟩
  obtain ⟨SA, hSA⟩ : ∃ V, sOA = V := ⟨_, rfl⟩
  rw [hSA]
  have X1 := Lib.hid ((show NX w [] w1 from ⟨fun t ht => by simp at ht, hb⟩).new oA)
  have l1 := hb.size
  clear hb GA
  go_wp2_with (refine wpList_store_new rfl _ (.tmp 2) (.tmp 31) rfl _ _ rfl rfl info8 rfl ?_ ?_; simp [Value.oneCell'])
  refine (WI.out 23 sW _ (by decide)).mono ?_
  rintro e w2 ⟨rfl, hb⟩
  have X2 := Lib.hid (X1.out.call hb)
  clear hb X1
  go_wp2_with fail
  refine (PA.out (withS 23 sW) _ X2.out.below (by decide +kernel)).mono ?_
  rintro e w3 ⟨q, c, rfl, hP, hb⟩
  obtain ⟨rfl, rfl⟩ := yes_few.uniq hP
  have X3 := Lib.hid ((X2.out.call hb).new oW)
  have l3 := (X2.out.call hb).lt (List.mem_cons_self)
  clear hb X2 hP
  go_wp2_with (first | (refine wpList_store_new rfl _ (.tmp 3) (.tmp 35) rfl _ _ rfl rfl info8 rfl ?_ ?_; simp [Value.oneCell']) | (refine wpList_store_new rfl _ (.tmp 5) (.tmp 37) rfl _ _ rfl rfl info8 rfl ?_ ?_; simp [Value.oneCell']) | (refine wpList_load_mid rfl _ (.tmp 2) rfl w1.heap.size 0 rfl (obsC oA) _ (X3.out.boxes (w1.heap.size, oA) (by simp)).row Tryz.underlying23 rfl info8 ?_))
  have X4 := Lib.hid (X3.out.new oB)
  have b4 : (w3.alloc (.cells (obsC oW).toArray 23)).heap.size = w3.heap.size + 1 := by simp
  rw [b4] at X4
  clear X3 b4
  refine (PR.out oB _ X4.out.below ⟨by decide, by decide, by decide, by decide, by decide, by decide⟩).mono ?_
  rintro e w4 ⟨s, c, rfl, hP, hb⟩
  obtain ⟨rfl, rfl⟩ := print_B.uniq hP
  have X5 := Lib.hid (X4.out.call hb)
  have l4 := (X4.out.call hb).lt (t := (w3.heap.size + 1, oB)) (by simp)
  clear hb X4 hP
  go_wp2_with fail
  go_cut [8, 9] (fun p8 p9 wx => ∃ b8 b9 : Nat, p8 = .pointer (some ⟨b8, 0, none⟩) ∧ p9 = .pointer (some ⟨b9, 0, none⟩) ∧ Hid (b8 ≠ b9 ∧ w4.heap.size ≤ b8 ∧ w4.heap.size ≤ b9) ∧ Hid (NX w ((b8, oA) :: (b9, oA) :: [(w3.heap.size + 1, oB), (w3.heap.size, oW), (w1.heap.size, oA)]) wx))
  case first => as_aux_lemma =>
    have NN := Lib.hid (nx_two zB (X5.out.call (Below.refl _ _).drew))
    have LL := Lib.hid (fun t (ht : t ∈ [(w3.heap.size + 1, oB), (w3.heap.size, oW), (w1.heap.size, oA)]) => X5.out.lt ht)
    have lw := X5.out.below.size
    have ew : w4.drew.heap.size = w4.heap.size := rfl
    rw [ew] at NN
    have apA : ∀ t ∈ ((w4.heap.size + 1, zB) :: [(w3.heap.size + 1, oB), (w3.heap.size, oW), (w1.heap.size, oA)] : List (Nat × Ob)), t.1 ≠ w4.heap.size := fun t ht => by rcases List.mem_cons.1 ht with rfl | ht; (show w4.heap.size + 1 ≠ w4.heap.size; omega); have := LL.out t ht; omega
    have apB : ∀ t ∈ ((w4.heap.size, oA) :: [(w3.heap.size + 1, oB), (w3.heap.size, oW), (w1.heap.size, oA)] : List (Nat × Ob)), t.1 ≠ w4.heap.size + 1 := fun t ht => by rcases List.mem_cons.1 ht with rfl | ht; (show w4.heap.size ≠ w4.heap.size + 1; omega); have := LL.out t ht; omega
    have apC : ∀ t ∈ ((w4.heap.size, zB) :: [(w3.heap.size + 1, oB), (w3.heap.size, oW), (w1.heap.size, oA)] : List (Nat × Ob)), t.1 ≠ w4.heap.size + 1 := fun t ht => by rcases List.mem_cons.1 ht with rfl | ht; (show w4.heap.size ≠ w4.heap.size + 1; omega); have := LL.out t ht; omega
    have apD : ∀ t ∈ ((w4.heap.size + 1, oA) :: [(w3.heap.size + 1, oB), (w3.heap.size, oW), (w1.heap.size, oA)] : List (Nat × Ob)), t.1 ≠ w4.heap.size := fun t ht => by rcases List.mem_cons.1 ht with rfl | ht; (show w4.heap.size + 1 ≠ w4.heap.size; omega); have := LL.out t ht; omega
    refine wp_region_held_drew (S := NX w [(w3.heap.size + 1, oB), (w3.heap.size, oW), (w1.heap.size, oA)]) (by kernel_rfl) (X5.out.call (Below.refl _ _).drew) (fun hHeld => ?_)
    refine wpAnyH_take (i := 0) (oi := ?oi0x1) (v := ?v0x1) ?hi0x1 (by kernel_rfl) (by kernel_rfl) (by kernel_rfl) ?hq0x1 ?hy0x1 hHeld ?rest0x1
    case hi0x1 => ((try simp only [List.getElem?_toArray, List.getElem?_cons_succ, List.getElem?_cons_zero]); (try rfl))
    case hq0x1 => exact fun _ _ _ h => h
    case hy0x1 => 
      refine' yieldsIf_load_mid ?_ 23 (.tmp 2) ?_ w1.heap.size (0) ?_ (obsC oA) _ ?_ Tryz.underlying23 ?_ info8
      · rfl
      · rfl
      · rfl
      · exact fun _ h => ((NX.boxes h) (w1.heap.size, oA) (by simp)).row
      · rfl
    try simp only [Act.put, List.setIfInBounds_toArray, List.set_cons_zero, List.set_cons_succ]
    refine wpAnyH_take (i := 1) (oi := ?oi1x2) (v := ?v1x2) ?hi1x2 (by kernel_rfl) (by kernel_rfl) (by kernel_rfl) ?hq1x2 ?hy1x2 hHeld ?rest1x2
    case hi1x2 => ((try simp only [List.getElem?_toArray, List.getElem?_cons_succ, List.getElem?_cons_zero]); (try rfl))
    case hq1x2 => exact fun _ _ _ h => h
    case hy1x2 => 
      refine' yieldsIf_load_mid ?_ 23 (.tmp 2) ?_ w1.heap.size (0) ?_ (obsC oA) _ ?_ Tryz.underlying23 ?_ info8
      · rfl
      · rfl
      · rfl
      · exact fun _ h => ((NX.boxes h) (w1.heap.size, oA) (by simp)).row
      · rfl
    try simp only [Act.put, List.setIfInBounds_toArray, List.set_cons_zero, List.set_cons_succ]
    refine wpAnyH_ready (rs := [2, 3]) (by kernel_rfl) (by simp) ?_
    refine AllReadyH.cons rfl (fun K' hK => ?_) (AllReadyH.cons rfl (fun K' hK => ?_) AllReadyH.nil)
    ·
      have H1 := Lib.hid hHeld
      clear hHeld
      go_simp
      refine hK.out _ _ (H1.out.new zB).tail (fun hHeld => ?_)
      clear hK H1
      try simp only [Act.put, List.setIfInBounds_toArray, List.set_cons_zero, List.set_cons_succ]
      refine wpAnyH_ready (rs := [3]) (by kernel_rfl) (by simp) ?_
      refine AllReadyH.cons rfl (fun K' hK => ?_) AllReadyH.nil
      have H1 := Lib.hid hHeld
      clear hHeld
      go_simp
      refine hK.out _ _ (H1.out.new zB).tail (fun hHeld => ?_)
      clear hK H1
      try simp only [Act.put, List.setIfInBounds_toArray, List.set_cons_zero, List.set_cons_succ]
      have N1 := Lib.hid (NN.out.swap.put (o := oA) lw apA)
      have N2 := Lib.hid (N1.out.swap.put (o := oA) (Nat.le_succ_of_le lw) apB)
      refine step_store_S (i := 4) (o := ?o4x3) (by kernel_rfl) ?ho4x3 ?hw4x3 (.tmp 8) (.tmp 45) ?hop4x3 w4.heap.size 0 oA ?hx4x3 ?hy4x3 ((NN.out.boxes (w4.heap.size, zB) (by simp)).th) (N1.out.tail.tail) ?rest4x3
      case ho4x3 => ((try simp only [List.getElem?_toArray, List.getElem?_cons_succ, List.getElem?_cons_zero]); (try rfl))
      case hw4x3 => rfl
      case hop4x3 => rfl
      case hx4x3 => rfl
      case hy4x3 => rfl
      try simp only [Act.put, List.setIfInBounds_toArray, List.set_cons_zero, List.set_cons_succ]
      refine step_store_S (i := 5) (o := ?o5x4) (by kernel_rfl) ?ho5x4 ?hw5x4 (.tmp 9) (.tmp 46) ?hop5x4 (w4.heap.size + 1) 0 oA ?hx5x4 ?hy5x4 ((N1.out.boxes (w4.heap.size + 1, zB) (by simp)).th) (N2.out.tail.tail) ?rest5x4
      case ho5x4 => ((try simp only [List.getElem?_toArray, List.getElem?_cons_succ, List.getElem?_cons_zero]); (try rfl))
      case hw5x4 => rfl
      case hop5x4 => rfl
      case hx5x4 => rfl
      case hy5x4 => rfl
      try simp only [Act.put, List.setIfInBounds_toArray, List.set_cons_zero, List.set_cons_succ]
      refine wpAnyH_done (by kernel_rfl) ?_ _
      clear hHeld
      go_wp2_with fail
      go_meet
      exact ⟨_, _, rfl, rfl, Lib.hid ⟨by omega, by omega, by omega⟩, Lib.hid N2.out.swap⟩
    ·
      have H1 := Lib.hid hHeld
      clear hHeld
      go_simp
      refine hK.out _ _ (H1.out.new zB).tail (fun hHeld => ?_)
      clear hK H1
      try simp only [Act.put, List.setIfInBounds_toArray, List.set_cons_zero, List.set_cons_succ]
      refine wpAnyH_ready (rs := [2]) (by kernel_rfl) (by simp) ?_
      refine AllReadyH.cons rfl (fun K' hK => ?_) AllReadyH.nil
      have H1 := Lib.hid hHeld
      clear hHeld
      go_simp
      refine hK.out _ _ (H1.out.new zB).tail (fun hHeld => ?_)
      clear hK H1
      try simp only [Act.put, List.setIfInBounds_toArray, List.set_cons_zero, List.set_cons_succ]
      have N1 := Lib.hid (NN.out.put (o := oA) (Nat.le_succ_of_le lw) apC)
      have N2 := Lib.hid (N1.out.swap.put (o := oA) lw apD)
      refine step_store_S (i := 4) (o := ?o4x5) (by kernel_rfl) ?ho4x5 ?hw4x5 (.tmp 8) (.tmp 45) ?hop4x5 (w4.heap.size + 1) 0 oA ?hx4x5 ?hy4x5 ((NN.out.boxes (w4.heap.size + 1, zB) (by simp)).th) (N1.out.tail.tail) ?rest4x5
      case ho4x5 => ((try simp only [List.getElem?_toArray, List.getElem?_cons_succ, List.getElem?_cons_zero]); (try rfl))
      case hw4x5 => rfl
      case hop4x5 => rfl
      case hx4x5 => rfl
      case hy4x5 => rfl
      try simp only [Act.put, List.setIfInBounds_toArray, List.set_cons_zero, List.set_cons_succ]
      refine step_store_S (i := 5) (o := ?o5x6) (by kernel_rfl) ?ho5x6 ?hw5x6 (.tmp 9) (.tmp 46) ?hop5x6 w4.heap.size 0 oA ?hx5x6 ?hy5x6 ((N1.out.boxes (w4.heap.size, zB) (by simp)).th) (N2.out.tail.tail) ?rest5x6
      case ho5x6 => ((try simp only [List.getElem?_toArray, List.getElem?_cons_succ, List.getElem?_cons_zero]); (try rfl))
      case hw5x6 => rfl
      case hop5x6 => rfl
      case hx5x6 => rfl
      case hy5x6 => rfl
      try simp only [Act.put, List.setIfInBounds_toArray, List.set_cons_zero, List.set_cons_succ]
      refine wpAnyH_done (by kernel_rfl) ?_ _
      clear hHeld
      go_wp2_with fail
      go_meet
      exact ⟨_, _, rfl, rfl, Lib.hid ⟨by omega, by omega, by omega⟩, Lib.hid N2.out.swap⟩
  case rest => as_aux_lemma =>
    obtain ⟨b8, b9, rfl, rfl, hne, X6⟩ := hcut
    clear X5
    obtain ⟨n1, n2, n3⟩ := hne.out
    have LL := Lib.hid (fun t (ht : t ∈ [(w3.heap.size + 1, oB), (w3.heap.size, oW), (w1.heap.size, oA)]) => show t.1 < w4.heap.size by
      simp only [List.mem_cons, List.not_mem_nil, or_false] at ht
      rcases ht with rfl | rfl | rfl
      · exact l4
      · show w3.heap.size < w4.heap.size; omega
      · show w1.heap.size < w4.heap.size; omega)
    have lw : w.heap.size ≤ w4.heap.size := by omega
    have ap8 : ∀ t ∈ ((b9, oA) :: [(w3.heap.size + 1, oB), (w3.heap.size, oW), (w1.heap.size, oA)] : List (Nat × Ob)), t.1 ≠ b8 := fun t ht => by rcases List.mem_cons.1 ht with rfl | ht; (show b9 ≠ b8; omega); have := LL.out t ht; omega
    have ap9 : ∀ t ∈ ((b8, oF) :: [(w3.heap.size + 1, oB), (w3.heap.size, oW), (w1.heap.size, oA)] : List (Nat × Ob)), t.1 ≠ b9 := fun t ht => by rcases List.mem_cons.1 ht with rfl | ht; (show b8 ≠ b9; omega); have := LL.out t ht; omega
    have X7 := Lib.hid ((((X6.out.set (by omega) ap8 6 (.int .i64 5) { oA with mag := 5 } (by omega) rfl).set (by omega) ap8 7 (.int .u8 32) oF (by omega) rfl).swap.set (by omega) ap9 6 (.int .i64 (-146)) { oA with mag := -146 } (by omega) rfl).set (by omega) ap9 0 (.string ⟨#[48, 48, 52, 51, 51]⟩) oR (by omega) rfl).swap
    have B8 := X6.out.boxes (b8, oA) (by simp)
    have B9 := X6.out.boxes (b9, oA) (by simp)
    have c86 := B8.row 6 _ rfl
    have c87 := B8.row 7 _ rfl
    have c96 := B9.row 6 _ rfl
    have c90 := B9.row 0 _ rfl
    have f86 := (B8.th 6 (by omega)).2
    have f87 := (B8.th 7 (by omega)).2
    have f96 := (B9.th 6 (by omega)).2
    have f90 := (B9.th 0 (by omega)).2
    simp only [Nat.zero_add] at c86 c87 c96 c90 f86 f87 f96 f90
    clear B8 B9 ap8 ap9 X6
    go_upto_region 8 with (fail)
    obtain ⟨W7, hW7⟩ : ∃ W7, ((((wc.setCell ⟨b8, 6, none⟩ (.int .i64 5)).setCell ⟨b8, 7, none⟩ (.int .u8 32)).setCell ⟨b9, 6, none⟩ (.int .i64 (-146))).setCell ⟨b9, 0, none⟩ (.string ⟨#[48, 48, 52, 51, 51]⟩)) = W7 := ⟨_, rfl⟩
    rw [hW7] at X7 ⊢
    clear hW7 c86 c87 c96 c90 f86 f87 f96 f90
    go_wp2_with (refine wpList_load_mid rfl _ (.tmp 8) rfl b8 0 rfl (obsC oF) _ (X7.out.boxes (b8, oF) (by simp)).row Tryz.underlying23 rfl info8 ?_)
    refine (PR.out oF _ X7.out.below ⟨by decide, by decide, by decide, by decide, by decide, by decide⟩).mono ?_
    rintro e w5 ⟨s, c, rfl, hP, hb⟩
    obtain ⟨rfl, rfl⟩ := print_F.uniq hP
    have X8 := Lib.hid (X7.out.call hb)
    clear hb X7 hP
    go_wp2_with (refine wpList_load_mid rfl _ (.tmp 9) rfl b9 0 rfl (obsC oR) _ (X8.out.boxes (b9, oR) (by simp)).row Tryz.underlying23 rfl info8 ?_)
    refine (PR.out oR _ X8.out.below ⟨by decide, by decide, by decide, by decide, by decide, by decide⟩).mono ?_
    rintro e w6 ⟨s, c, rfl, hP, hb⟩
    obtain ⟨rfl, rfl⟩ := print_R.uniq hP
    have X9 := Lib.hid (X8.out.call hb)
    clear hb X8 hP
    have Q3 := X9.out.boxes (w3.heap.size, oW) (by simp)
    have Q2 := X9.out.boxes (w1.heap.size, oA) (by simp)
    have q35 := Q3.row 5 _ rfl
    have q32 := Q3.row 2 _ rfl
    have q33 := Q3.row 3 _ rfl
    have q34 := Q3.row 4 _ rfl
    have q22 := Q2.row 2 _ rfl
    have q23 := Q2.row 3 _ rfl
    have q24 := Q2.row 4 _ rfl
    simp only [Nat.zero_add] at q35 q32 q33 q34 q22 q23 q24
    clear Q3 Q2
    obtain ⟨V66, hV66⟩ : ∃ V, withS 66 ⟨#[32, 32, 32, 32, 32]⟩ = V := ⟨_, rfl⟩
    obtain ⟨V65, hV65⟩ : ∃ V, withS 65 ⟨#[32, 48, 46, 48, 53, 32]⟩ = V := ⟨_, rfl⟩
    obtain ⟨Vm, hVm⟩ : ∃ V, withS 65 ⟨#[45, 49, 46, 52, 54]⟩ = V := ⟨_, rfl⟩
    have z66 : V66.size = 80 := by rw [← hV66]; decide +kernel
    have zm : Vm.size = 80 := by rw [← hVm]; decide +kernel
    rw [hV66, hV65, hVm]
    have s66 : ∀ w', (Instr.slice 9 (.string V66) none (some (.int .i64 65)) none).run Tryz.prog w' = .ok (.string (V66.extract 0 65)) w' := fun w' => run_slice_string_h (P := Tryz.prog) (w := w') (t := 9) (s := V66) Tryz.underlying9 .i64 65 (by omega) (by omega)
    have sm : ∀ w', (Instr.slice 9 (.string Vm) (some (.int .i64 15)) none none).run Tryz.prog w' = .ok (.string (Vm.extract 15 80)) w' := fun w' => by
      have := run_slice_string_l (P := Tryz.prog) (w := w') (t := 9) (s := Vm) Tryz.underlying9 .i64 15 (by omega) (by omega)
      rw [zm] at this
      exact this
    have y66 : (V66.extract 0 65).size = 65 := by rw [ByteArray.size_extract]; omega
    have ym : (Vm.extract 15 80).size = 65 := by rw [ByteArray.size_extract]; omega
    obtain ⟨H66, hH66⟩ : ∃ V, V66.extract 0 65 = V := ⟨_, rfl⟩
    obtain ⟨Hm, hHm⟩ : ∃ V, Vm.extract 15 80 = V := ⟨_, rfl⟩
    rw [hH66, hHm]
    rw [hH66] at s66 y66
    rw [hHm] at sm ym
    obtain ⟨S6, hS6⟩ : ∃ V, H66 ++ (⟨#[32, 32, 32, 32, 32, 32, 32, 32, 32, 32, 32, 32, 70, 53, 49]⟩ : ByteArray) = V := ⟨_, rfl⟩
    obtain ⟨S12, hS12⟩ : ∃ V, (⟨#[48, 48, 52, 51, 51, 32, 32, 32, 32, 32, 32, 32, 32, 32, 67]⟩ : ByteArray) ++ Hm = V := ⟨_, rfl⟩
    rw [hS6, hS12]
    have t66 : ∀ w', (Go.Op.stringOp .add H66 ⟨#[32, 32, 32, 32, 32, 32, 32, 32, 32, 32, 32, 32, 70, 53, 49]⟩).run Tryz.prog w' = .ok (.string S6) w' := fun w' => by rw [run_string_add_sum (P := Tryz.prog) (w := w') _ _ (by rw [y66]; decide), hS6]
    have tm : ∀ w', (Go.Op.stringOp .add ⟨#[48, 48, 52, 51, 51, 32, 32, 32, 32, 32, 32, 32, 32, 32, 67]⟩ Hm).run Tryz.prog w' = .ok (.string S12) w' := fun w' => by rw [run_string_add_sum (P := Tryz.prog) (w := w') _ _ (by rw [ym]; decide), hS12]
    clear hH66 hHm hS6 hS12 z66 zm y66 ym
    go_wp2_with fail
    refine (WI.out 66 ⟨#[32, 32, 32, 32, 32]⟩ _ (by decide)).mono ?_
    rintro e w7 ⟨rfl, hb⟩
    rw [hV66]
    have X10 := Lib.hid (X9.out.call hb)
    clear hb X9 hV66 q35 q32 q33 q34 q22 q23 q24
    go_wp2_with fail
    refine (WI.out 65 ⟨#[32, 48, 46, 48, 53, 32]⟩ _ (by decide)).mono ?_
    rintro e w8 ⟨rfl, hb⟩
    rw [hV65]
    have X11 := Lib.hid (X10.out.call hb)
    clear hb X10 hV65
    go_wp2_with fail
    refine (WI.out 65 ⟨#[45, 49, 46, 52, 54]⟩ _ (by decide)).mono ?_
    rintro e w9 ⟨rfl, hb⟩
    rw [hVm]
    have X12 := Lib.hid (show NX w [(w1.heap.size, oA)] w9 from (X11.out.call hb).tail.tail.tail.tail)
    clear hb X11 hVm
    go_wp2_with fail
    clear s66 sm t66 tm
    have zA : SA.size = 80 := by rw [← hSA]; decide +kernel
    obtain ⟨A12, hA12⟩ : ∃ V, sOA.extract 12 80 = V := ⟨_, rfl⟩
    obtain ⟨A79, hA79⟩ : ∃ V, sOA.extract 0 79 = V := ⟨_, rfl⟩
    obtain ⟨A1, hA1⟩ : ∃ V, sOA ++ (⟨#[32]⟩ : ByteArray) = V := ⟨_, rfl⟩
    obtain ⟨AZ, hAZ⟩ : ∃ V, sZ = V := ⟨_, rfl⟩
    have yZ := Lib.hid yes_Z
    have nB1 := Lib.hid bad_size1
    have nB2 := Lib.hid bad_size2
    have lZ : AZ.size ≤ maxLen := by rw [← hAZ]; decide +kernel
    have l79 : A79.size ≤ maxLen := by rw [← hA79]; decide +kernel
    have lA1 : A1.size ≤ maxLen := by rw [← hA1]; decide +kernel
    have zW : sZ = (⟨#[126, 48, 48, 48, 122, 32, 32, 32, 32, 32, 32, 32]⟩ : ByteArray) ++ sOA.extract 12 80 := rfl
    rw [hA12, hAZ] at zW
    rw [hAZ] at yZ
    rw [hA79] at nB1
    rw [hA1] at nB2
    rw [hSA] at hA12 hA79 hA1
    have sZ12 : ∀ w', (Instr.slice 9 (.string SA) (some (.int .i64 12)) none none).run Tryz.prog w' = .ok (.string A12) w' := fun w' => by
      have := run_slice_string_l (P := Tryz.prog) (w := w') (t := 9) (s := SA) Tryz.underlying9 .i64 12 (by omega) (by omega)
      rw [zA] at this
      rw [← hA12]
      exact this
    have s79 : ∀ w', (Instr.slice 9 (.string SA) none (some (.int .i64 79)) none).run Tryz.prog w' = .ok (.string A79) w' := fun w' => by
      rw [← hA79]
      exact run_slice_string_h (P := Tryz.prog) (w := w') (t := 9) (s := SA) Tryz.underlying9 .i64 79 (by omega) (by omega)
    have y12 : A12.size = 68 := by rw [← hA12, ByteArray.size_extract]; omega
    have tZ : ∀ w', (Go.Op.stringOp .add ⟨#[126, 48, 48, 48, 122, 32, 32, 32, 32, 32, 32, 32]⟩ A12).run Tryz.prog w' = .ok (.string AZ) w' := fun w' => by rw [run_string_add_sum (P := Tryz.prog) (w := w') _ _ (by rw [y12]; decide), zW]
    have tS : ∀ w', (Go.Op.stringOp .add SA ⟨#[32]⟩).run Tryz.prog w' = .ok (.string A1) w' := fun w' => by rw [run_string_add_sum (P := Tryz.prog) (w := w') _ _ (by rw [zA]; decide), hA1]
    clear y12 zW hA12 hA79 hA1 hAZ
    go_cut [15] (fun p wx => p = .bool true ∧ Hid (NX w [(w1.heap.size, oA)] wx))
    case first => as_aux_lemma =>
      refine wp_region_held_drew (S := NX w [(w1.heap.size, oA)]) (by kernel_rfl) (X12.out.call (Below.refl _ _).drew) (fun hHeld => ?_)
      refine wpAnyH_ready (rs := [0]) (by kernel_rfl) (by simp) ?_
      refine AllReadyH.cons rfl (fun K' hK => ?_) AllReadyH.nil
      have H1 := Lib.hid hHeld
      clear hHeld
      go_simp
      refine (WI.out 65 ⟨#[32, 57, 46, 49, 32]⟩ _ (by decide)).mono ?_
      rintro e wk ⟨rfl, hb⟩
      refine hK.out _ _ (H1.out.call hb) (fun hHeld => ?_)
      clear hK H1 hb
      try simp only [Act.put, List.setIfInBounds_toArray, List.set_cons_zero, List.set_cons_succ]
      refine wpAnyH_ready (rs := [1]) (by kernel_rfl) (by simp) ?_
      refine AllReadyH.cons rfl (fun K' hK => ?_) AllReadyH.nil
      have H1 := Lib.hid hHeld
      clear hHeld
      go_simp
      refine (WI.out 65 ⟨#[32, 57, 46, 49, 48]⟩ _ (by decide)).mono ?_
      rintro e wk ⟨rfl, hb⟩
      refine hK.out _ _ (H1.out.call hb) (fun hHeld => ?_)
      clear hK H1 hb
      try simp only [Act.put, List.setIfInBounds_toArray, List.set_cons_zero, List.set_cons_succ]
      refine wpAnyH_ready (rs := [2]) (by kernel_rfl) (by simp) ?_
      refine AllReadyH.cons rfl (fun K' hK => ?_) AllReadyH.nil
      have H1 := Lib.hid hHeld
      clear hHeld
      go_simp
      refine (RD.out (withS 65 ⟨#[32, 57, 46, 49, 32]⟩) (withS 65 ⟨#[32, 57, 46, 49, 48]⟩) o9 _ H1.out.below (by decide +kernel) yes_91 yes_9 ⟨by decide, by decide, by decide, by decide, by decide, by decide⟩).mono ?_
      rintro e wk ⟨rfl, hb⟩
      refine hK.out _ _ (H1.out.call hb) (fun hHeld => ?_)
      clear hK H1 hb
      try simp only [Act.put, List.setIfInBounds_toArray, List.set_cons_zero, List.set_cons_succ]
      refine wpAnyH_take (i := 3) (oi := ?oi3x38) (v := ?v3x38) ?hi3x38 (by kernel_rfl) (by kernel_rfl) (by kernel_rfl) ?hq3x38 ?hy3x38 hHeld ?rest3x38
      case hi3x38 => ((try simp only [List.getElem?_toArray, List.getElem?_cons_succ, List.getElem?_cons_zero]); (try rfl))
      case hq3x38 => exact fun _ _ _ h => h
      case hy3x38 => exact Or.inl ⟨by rfl, by intro w hSw; clear hSw; go_simp; try with_reducible rfl⟩
      try simp only [Act.put, List.setIfInBounds_toArray, List.set_cons_zero, List.set_cons_succ]
      refine wpAnyH_ready (rs := [4]) (by kernel_rfl) (by simp) ?_
      refine AllReadyH.cons rfl (fun K' hK => ?_) AllReadyH.nil
      have H1 := Lib.hid hHeld
      clear hHeld
      go_simp
      refine (WI.out 5 ⟨#[97, 32, 32, 32, 32, 32, 32]⟩ _ (by decide)).mono ?_
      rintro e wk ⟨rfl, hb⟩
      refine hK.out _ _ (H1.out.call hb) (fun hHeld => ?_)
      clear hK H1 hb
      try simp only [Act.put, List.setIfInBounds_toArray, List.set_cons_zero, List.set_cons_succ]
      refine wpAnyH_ready (rs := [5]) (by kernel_rfl) (by simp) ?_
      refine AllReadyH.cons rfl (fun K' hK => ?_) AllReadyH.nil
      have H1 := Lib.hid hHeld
      clear hHeld
      go_simp
      refine (WI.out 5 ⟨#[97, 32, 32, 32, 32, 32, 32]⟩ _ (by decide)).mono ?_
      rintro e wk ⟨rfl, hb⟩
      refine hK.out _ _ (H1.out.call hb) (fun hHeld => ?_)
      clear hK H1 hb
      try simp only [Act.put, List.setIfInBounds_toArray, List.set_cons_zero, List.set_cons_succ]
      refine wpAnyH_ready (rs := [6]) (by kernel_rfl) (by simp) ?_
      refine AllReadyH.cons rfl (fun K' hK => ?_) AllReadyH.nil
      have H1 := Lib.hid hHeld
      clear hHeld
      go_simp
      refine (RD.out (withS 5 ⟨#[97, 32, 32, 32, 32, 32, 32]⟩) (withS 5 ⟨#[97, 32, 32, 32, 32, 32, 32]⟩) oN _ H1.out.below (by decide +kernel) yes_a.1 yes_a.2 ⟨by decide, by decide, by decide, by decide, by decide, by decide⟩).mono ?_
      rintro e wk ⟨rfl, hb⟩
      refine hK.out _ _ (H1.out.call hb) (fun hHeld => ?_)
      clear hK H1 hb
      try simp only [Act.put, List.setIfInBounds_toArray, List.set_cons_zero, List.set_cons_succ]
      refine wpAnyH_take (i := 7) (oi := ?oi7x39) (v := ?v7x39) ?hi7x39 (by kernel_rfl) (by kernel_rfl) (by kernel_rfl) ?hq7x39 ?hy7x39 hHeld ?rest7x39
      case hi7x39 => ((try simp only [List.getElem?_toArray, List.getElem?_cons_succ, List.getElem?_cons_zero]); (try rfl))
      case hq7x39 => exact fun _ _ _ h => h
      case hy7x39 => exact Or.inl ⟨by rfl, by intro w hSw; clear hSw; go_simp; try with_reducible rfl⟩
      try simp only [Act.put, List.setIfInBounds_toArray, List.set_cons_zero, List.set_cons_succ]
      refine wpAnyH_take (i := 8) (oi := ?oi8x40) (v := ?v8x40) ?hi8x40 (by kernel_rfl) (by kernel_rfl) (by kernel_rfl) ?hq8x40 ?hy8x40 hHeld ?rest8x40
      case hi8x40 => ((try simp only [List.getElem?_toArray, List.getElem?_cons_succ, List.getElem?_cons_zero]); (try rfl))
      case hq8x40 => exact fun _ _ _ h => h
      case hy8x40 => exact Or.inl ⟨by rfl, by intro w hSw; clear hSw; go_simp; try with_reducible rfl⟩
      try simp only [Act.put, List.setIfInBounds_toArray, List.set_cons_zero, List.set_cons_succ]
      refine wpAnyH_ready (rs := [9]) (by kernel_rfl) (by simp) ?_
      refine AllReadyH.cons rfl (fun K' hK => ?_) AllReadyH.nil
      have H1 := Lib.hid hHeld
      clear hHeld
      go_simp
      refine (WI.out 44 ⟨#[43, 57, 48, 32, 48, 48, 32, 48, 48, 46, 48, 48]⟩ _ (by decide)).mono ?_
      rintro e wk ⟨rfl, hb⟩
      refine hK.out _ _ (H1.out.call hb) (fun hHeld => ?_)
      clear hK H1 hb
      try simp only [Act.put, List.setIfInBounds_toArray, List.set_cons_zero, List.set_cons_succ]
      refine wpAnyH_ready (rs := [10]) (by kernel_rfl) (by simp) ?_
      refine AllReadyH.cons rfl (fun K' hK => ?_) AllReadyH.nil
      have H1 := Lib.hid hHeld
      clear hHeld
      go_simp
      refine (WI.out 44 ⟨#[43, 57, 48, 32, 48, 48, 32, 48, 48, 46, 48, 48]⟩ _ (by decide)).mono ?_
      rintro e wk ⟨rfl, hb⟩
      refine hK.out _ _ (H1.out.call hb) (fun hHeld => ?_)
      clear hK H1 hb
      try simp only [Act.put, List.setIfInBounds_toArray, List.set_cons_zero, List.set_cons_succ]
      refine wpAnyH_ready (rs := [11]) (by kernel_rfl) (by simp) ?_
      refine AllReadyH.cons rfl (fun K' hK => ?_) AllReadyH.nil
      have H1 := Lib.hid hHeld
      clear hHeld
      go_simp
      refine (RD.out (withS 44 ⟨#[43, 57, 48, 32, 48, 48, 32, 48, 48, 46, 48, 48]⟩) (withS 44 ⟨#[43, 57, 48, 32, 48, 48, 32, 48, 48, 46, 48, 48]⟩) o90 _ H1.out.below (by decide +kernel) yes_90.1 yes_90.2 ⟨by decide, by decide, by decide, by decide, by decide, by decide⟩).mono ?_
      rintro e wk ⟨rfl, hb⟩
      refine hK.out _ _ (H1.out.call hb) (fun hHeld => ?_)
      clear hK H1 hb
      try simp only [Act.put, List.setIfInBounds_toArray, List.set_cons_zero, List.set_cons_succ]
      refine wpAnyH_take (i := 12) (oi := ?oi12x41) (v := ?v12x41) ?hi12x41 (by kernel_rfl) (by kernel_rfl) (by kernel_rfl) ?hq12x41 ?hy12x41 hHeld ?rest12x41
      case hi12x41 => ((try simp only [List.getElem?_toArray, List.getElem?_cons_succ, List.getElem?_cons_zero]); (try rfl))
      case hq12x41 => exact fun _ _ _ h => h
      case hy12x41 => exact Or.inl ⟨by rfl, by intro w hSw; clear hSw; go_simp; try with_reducible rfl⟩
      try simp only [Act.put, List.setIfInBounds_toArray, List.set_cons_zero, List.set_cons_succ]
      refine wpAnyH_take (i := 13) (oi := ?oi13x42) (v := ?v13x42) ?hi13x42 (by kernel_rfl) (by kernel_rfl) (by kernel_rfl) ?hq13x42 ?hy13x42 hHeld ?rest13x42
      case hi13x42 => ((try simp only [List.getElem?_toArray, List.getElem?_cons_succ, List.getElem?_cons_zero]); (try rfl))
      case hq13x42 => exact fun _ _ _ h => h
      case hy13x42 => exact Or.inl ⟨by rfl, by intro w hSw; clear hSw; go_simp; try with_reducible rfl⟩
      try simp only [Act.put, List.setIfInBounds_toArray, List.set_cons_zero, List.set_cons_succ]
      refine wpAnyH_take (i := 14) (oi := ?oi14x43) (v := ?v14x43) ?hi14x43 (by kernel_rfl) (by kernel_rfl) (by kernel_rfl) ?hq14x43 ?hy14x43 hHeld ?rest14x43
      case hi14x43 => ((try simp only [List.getElem?_toArray, List.getElem?_cons_succ, List.getElem?_cons_zero]); (try rfl))
      case hq14x43 => exact fun _ _ _ h => h
      case hy14x43 => exact Or.inl ⟨by rfl, by intro w hSw; clear hSw; go_simp; try with_reducible rfl⟩
      try simp only [Act.put, List.setIfInBounds_toArray, List.set_cons_zero, List.set_cons_succ]
      refine wpAnyH_take (i := 15) (oi := ?oi15x44) (v := ?v15x44) ?hi15x44 (by kernel_rfl) (by kernel_rfl) (by kernel_rfl) ?hq15x44 ?hy15x44 hHeld ?rest15x44
      case hi15x44 => ((try simp only [List.getElem?_toArray, List.getElem?_cons_succ, List.getElem?_cons_zero]); (try rfl))
      case hq15x44 => exact fun _ _ _ h => h
      case hy15x44 => exact Or.inl ⟨by rfl, by intro w hSw; clear hSw; go_simp; try with_reducible rfl⟩
      try simp only [Act.put, List.setIfInBounds_toArray, List.set_cons_zero, List.set_cons_succ]
      refine wpAnyH_take (i := 16) (oi := ?oi16x45) (v := ?v16x45) ?hi16x45 (by kernel_rfl) (by kernel_rfl) (by kernel_rfl) ?hq16x45 ?hy16x45 hHeld ?rest16x45
      case hi16x45 => ((try simp only [List.getElem?_toArray, List.getElem?_cons_succ, List.getElem?_cons_zero]); (try rfl))
      case hq16x45 => exact fun _ _ _ h => h
      case hy16x45 => exact Or.inl ⟨by rfl, by intro w hSw; clear hSw; go_simp; try with_reducible rfl⟩
      try simp only [Act.put, List.setIfInBounds_toArray, List.set_cons_zero, List.set_cons_succ]
      refine wpAnyH_take (i := 17) (oi := ?oi17x46) (v := ?v17x46) ?hi17x46 (by kernel_rfl) (by kernel_rfl) (by kernel_rfl) ?hq17x46 ?hy17x46 hHeld ?rest17x46
      case hi17x46 => ((try simp only [List.getElem?_toArray, List.getElem?_cons_succ, List.getElem?_cons_zero]); (try rfl))
      case hq17x46 => exact fun _ _ _ h => h
      case hy17x46 => exact Or.inl ⟨by rfl, by intro w hSw; clear hSw; go_simp; try with_reducible rfl⟩
      try simp only [Act.put, List.setIfInBounds_toArray, List.set_cons_zero, List.set_cons_succ]
      refine wpAnyH_take (i := 18) (oi := ?oi18x47) (v := ?v18x47) ?hi18x47 (by kernel_rfl) (by kernel_rfl) (by kernel_rfl) ?hq18x47 ?hy18x47 hHeld ?rest18x47
      case hi18x47 => ((try simp only [List.getElem?_toArray, List.getElem?_cons_succ, List.getElem?_cons_zero]); (try rfl))
      case hq18x47 => exact fun _ _ _ h => h
      case hy18x47 => exact Or.inl ⟨by rfl, by intro w hSw; clear hSw; go_simp; try with_reducible rfl⟩
      try simp only [Act.put, List.setIfInBounds_toArray, List.set_cons_zero, List.set_cons_succ]
      refine wpAnyH_take (i := 19) (oi := ?oi19x48) (v := ?v19x48) ?hi19x48 (by kernel_rfl) (by kernel_rfl) (by kernel_rfl) ?hq19x48 ?hy19x48 hHeld ?rest19x48
      case hi19x48 => ((try simp only [List.getElem?_toArray, List.getElem?_cons_succ, List.getElem?_cons_zero]); (try rfl))
      case hq19x48 => exact fun _ _ _ h => h
      case hy19x48 => exact Or.inl ⟨by rfl, by intro w hSw; clear hSw; go_simp; try with_reducible rfl⟩
      try simp only [Act.put, List.setIfInBounds_toArray, List.set_cons_zero, List.set_cons_succ]
      refine wpAnyH_ready (rs := [20]) (by kernel_rfl) (by simp) ?_
      refine AllReadyH.cons rfl (fun K' hK => ?_) AllReadyH.nil
      have H1 := Lib.hid hHeld
      clear hHeld
      go_simp
      refine (RD.out (AZ) (AZ) oZ _ H1.out.below lZ yZ.out.1 yZ.out.2 ⟨by decide, by decide, by decide, by decide, by decide, by decide⟩).mono ?_
      rintro e wk ⟨rfl, hb⟩
      refine hK.out _ _ (H1.out.call hb) (fun hHeld => ?_)
      clear hK H1 hb
      try simp only [Act.put, List.setIfInBounds_toArray, List.set_cons_zero, List.set_cons_succ]
      refine wpAnyH_take (i := 21) (oi := ?oi21x49) (v := ?v21x49) ?hi21x49 (by kernel_rfl) (by kernel_rfl) (by kernel_rfl) ?hq21x49 ?hy21x49 hHeld ?rest21x49
      case hi21x49 => ((try simp only [List.getElem?_toArray, List.getElem?_cons_succ, List.getElem?_cons_zero]); (try rfl))
      case hq21x49 => exact fun _ _ _ h => h
      case hy21x49 => exact Or.inl ⟨by rfl, by intro w hSw; clear hSw; go_simp; try with_reducible rfl⟩
      try simp only [Act.put, List.setIfInBounds_toArray, List.set_cons_zero, List.set_cons_succ]
      refine wpAnyH_take (i := 22) (oi := ?oi22x50) (v := ?v22x50) ?hi22x50 (by kernel_rfl) (by kernel_rfl) (by kernel_rfl) ?hq22x50 ?hy22x50 hHeld ?rest22x50
      case hi22x50 => ((try simp only [List.getElem?_toArray, List.getElem?_cons_succ, List.getElem?_cons_zero]); (try rfl))
      case hq22x50 => exact fun _ _ _ h => h
      case hy22x50 => exact Or.inl ⟨by rfl, by intro w hSw; clear hSw; go_simp; try with_reducible rfl⟩
      try simp only [Act.put, List.setIfInBounds_toArray, List.set_cons_zero, List.set_cons_succ]
      refine wpAnyH_done (by kernel_rfl) ?_ _
      have hEnd := Lib.hid hHeld
      clear hHeld
      go_wp2_with fail
      go_meet
      exact ⟨rfl, hEnd⟩
    case rest => as_aux_lemma =>
    obtain ⟨rfl, X13⟩ := hcut
    clear X12 sZ12 tZ RD
    go_upto_region 12 with (fail)
    go_cut [16] (fun p wx => p = .bool true ∧ Hid (NX w [(w1.heap.size, oA)] wx))
    case first => as_aux_lemma =>
      have H1 := X13
      go_wp2_with fail
      refine (WR.out (A79) _ H1.out.below l79 nB1.out).mono ?_
      rintro e wk ⟨rfl, hb⟩
      replace H1 := Lib.hid (H1.out.call hb)
      clear hb
      go_wp2_with fail
      refine (WR.out (A1) _ H1.out.below lA1 nB2.out).mono ?_
      rintro e wk ⟨rfl, hb⟩
      replace H1 := Lib.hid (H1.out.call hb)
      clear hb
      go_wp2_with fail
      refine (WI.out 14 ⟨#[99]⟩ _ (by decide)).mono ?_
      rintro e wk ⟨rfl, hb⟩
      replace H1 := Lib.hid (H1.out.call hb)
      clear hb
      go_wp2_with fail
      refine (WR.out (withS 14 ⟨#[99]⟩) _ H1.out.below (by decide +kernel) bad_c).mono ?_
      rintro e wk ⟨rfl, hb⟩
      replace H1 := Lib.hid (H1.out.call hb)
      clear hb
      go_wp2_with fail
      refine (WI.out 0 ⟨#[49]⟩ _ (by decide)).mono ?_
      rintro e wk ⟨rfl, hb⟩
      replace H1 := Lib.hid (H1.out.call hb)
      clear hb
      go_wp2_with fail
      refine (WR.out (withS 0 ⟨#[49]⟩) _ H1.out.below (by decide +kernel) bad_1).mono ?_
      rintro e wk ⟨rfl, hb⟩
      replace H1 := Lib.hid (H1.out.call hb)
      clear hb
      go_wp2_with fail
      refine (WI.out 0 ⟨#[48, 48, 52, 51, 51]⟩ _ (by decide)).mono ?_
      rintro e wk ⟨rfl, hb⟩
      replace H1 := Lib.hid (H1.out.call hb)
      clear hb
      go_wp2_with fail
      refine (WR.out (withS 0 ⟨#[48, 48, 52, 51, 51]⟩) _ H1.out.below (by decide +kernel) bad_433).mono ?_
      rintro e wk ⟨rfl, hb⟩
      replace H1 := Lib.hid (H1.out.call hb)
      clear hb
      go_wp2_with fail
      refine (WI.out 12 ⟨#[42]⟩ _ (by decide)).mono ?_
      rintro e wk ⟨rfl, hb⟩
      replace H1 := Lib.hid (H1.out.call hb)
      clear hb
      go_wp2_with fail
      refine (WR.out (withS 12 ⟨#[42]⟩) _ H1.out.below (by decide +kernel) bad_star).mono ?_
      rintro e wk ⟨rfl, hb⟩
      replace H1 := Lib.hid (H1.out.call hb)
      clear hb
      go_wp2_with fail
      refine (WI.out 5 ⟨#[48, 48, 52, 51, 51, 32, 32]⟩ _ (by decide)).mono ?_
      rintro e wk ⟨rfl, hb⟩
      replace H1 := Lib.hid (H1.out.call hb)
      clear hb
      go_wp2_with fail
      refine (WR.out (withS 5 ⟨#[48, 48, 52, 51, 51, 32, 32]⟩) _ H1.out.below (by decide +kernel) bad_433b).mono ?_
      rintro e wk ⟨rfl, hb⟩
      replace H1 := Lib.hid (H1.out.call hb)
      clear hb
      go_wp2_with fail
      refine (WI.out 5 ⟨#[32, 75, 50, 54, 87, 49, 50]⟩ _ (by decide)).mono ?_
      rintro e wk ⟨rfl, hb⟩
      replace H1 := Lib.hid (H1.out.call hb)
      clear hb
      go_wp2_with fail
      refine (WR.out (withS 5 ⟨#[32, 75, 50, 54, 87, 49, 50]⟩) _ H1.out.below (by decide +kernel) bad_sp).mono ?_
      rintro e wk ⟨rfl, hb⟩
      replace H1 := Lib.hid (H1.out.call hb)
      clear hb
      go_wp2_with fail
      refine (WI.out 15 ⟨#[49, 57, 55, 49]⟩ _ (by decide)).mono ?_
      rintro e wk ⟨rfl, hb⟩
      replace H1 := Lib.hid (H1.out.call hb)
      clear hb
      go_wp2_with fail
      refine (WR.out (withS 15 ⟨#[49, 57, 55, 49]⟩) _ H1.out.below (by decide +kernel) bad_1971).mono ?_
      rintro e wk ⟨rfl, hb⟩
      replace H1 := Lib.hid (H1.out.call hb)
      clear hb
      go_wp2_with fail
      refine (WI.out 32 ⟨#[50, 52]⟩ _ (by decide)).mono ?_
      rintro e wk ⟨rfl, hb⟩
      replace H1 := Lib.hid (H1.out.call hb)
      clear hb
      go_wp2_with fail
      refine (WR.out (withS 32 ⟨#[50, 52]⟩) _ H1.out.below (by decide +kernel) bad_24).mono ?_
      rintro e wk ⟨rfl, hb⟩
      replace H1 := Lib.hid (H1.out.call hb)
      clear hb
      go_wp2_with fail
      refine (WI.out 44 ⟨#[43, 57, 49]⟩ _ (by decide)).mono ?_
      rintro e wk ⟨rfl, hb⟩
      replace H1 := Lib.hid (H1.out.call hb)
      clear hb
      go_wp2_with fail
      refine (WR.out (withS 44 ⟨#[43, 57, 49]⟩) _ H1.out.below (by decide +kernel) bad_91).mono ?_
      rintro e wk ⟨rfl, hb⟩
      replace H1 := Lib.hid (H1.out.call hb)
      clear hb
      go_wp2_with fail
      refine (WI.out 44 ⟨#[32]⟩ _ (by decide)).mono ?_
      rintro e wk ⟨rfl, hb⟩
      replace H1 := Lib.hid (H1.out.call hb)
      clear hb
      go_wp2_with fail
      refine (WR.out (withS 44 ⟨#[32]⟩) _ H1.out.below (by decide +kernel) bad_sp2).mono ?_
      rintro e wk ⟨rfl, hb⟩
      replace H1 := Lib.hid (H1.out.call hb)
      clear hb
      go_wp2_with fail
      refine (WI.out 65 ⟨#[45, 48, 46, 48, 48]⟩ _ (by decide)).mono ?_
      rintro e wk ⟨rfl, hb⟩
      replace H1 := Lib.hid (H1.out.call hb)
      clear hb
      go_wp2_with fail
      refine (WR.out (withS 65 ⟨#[45, 48, 46, 48, 48]⟩) _ H1.out.below (by decide +kernel) bad_mag0).mono ?_
      rintro e wk ⟨rfl, hb⟩
      replace H1 := Lib.hid (H1.out.call hb)
      clear hb
      go_wp2_with fail
      refine (WI.out 65 ⟨#[48, 56, 46, 53, 48]⟩ _ (by decide)).mono ?_
      rintro e wk ⟨rfl, hb⟩
      replace H1 := Lib.hid (H1.out.call hb)
      clear hb
      go_wp2_with fail
      refine (WR.out (withS 65 ⟨#[48, 56, 46, 53, 48]⟩) _ H1.out.below (by decide +kernel) bad_mag08).mono ?_
      rintro e wk ⟨rfl, hb⟩
      replace H1 := Lib.hid (H1.out.call hb)
      clear hb
      go_wp2_with fail
      refine (WI.out 65 ⟨#[51, 49, 46, 48, 48]⟩ _ (by decide)).mono ?_
      rintro e wk ⟨rfl, hb⟩
      replace H1 := Lib.hid (H1.out.call hb)
      clear hb
      go_wp2_with fail
      refine (WR.out (withS 65 ⟨#[51, 49, 46, 48, 48]⟩) _ H1.out.below (by decide +kernel) bad_mag31).mono ?_
      rintro e wk ⟨rfl, hb⟩
      replace H1 := Lib.hid (H1.out.call hb)
      clear hb
      go_wp2_with fail
      refine (WI.out 65 ⟨#[57, 57, 46, 57, 57, 32]⟩ _ (by decide)).mono ?_
      rintro e wk ⟨rfl, hb⟩
      replace H1 := Lib.hid (H1.out.call hb)
      clear hb
      go_wp2_with fail
      refine (WR.out (withS 65 ⟨#[57, 57, 46, 57, 57, 32]⟩) _ H1.out.below (by decide +kernel) bad_mag99).mono ?_
      rintro e wk ⟨rfl, hb⟩
      replace H1 := Lib.hid (H1.out.call hb)
      clear hb
      go_wp2_with fail
      refine (WI.out 65 ⟨#[32, 49, 56, 46, 53]⟩ _ (by decide)).mono ?_
      rintro e wk ⟨rfl, hb⟩
      replace H1 := Lib.hid (H1.out.call hb)
      clear hb
      go_wp2_with fail
      refine (WR.out (withS 65 ⟨#[32, 49, 56, 46, 53]⟩) _ H1.out.below (by decide +kernel) bad_mag185).mono ?_
      rintro e wk ⟨rfl, hb⟩
      replace H1 := Lib.hid (H1.out.call hb)
      clear hb
      go_wp2_with fail
      refine (WI.out 70 ⟨#[49]⟩ _ (by decide)).mono ?_
      rintro e wk ⟨rfl, hb⟩
      replace H1 := Lib.hid (H1.out.call hb)
      clear hb
      go_wp2_with fail
      refine (WR.out (withS 70 ⟨#[49]⟩) _ H1.out.below (by decide +kernel) bad_band).mono ?_
      rintro e wk ⟨rfl, hb⟩
      replace H1 := Lib.hid (H1.out.call hb)
      clear hb
      go_wp2_with fail
      refine (WI.out 56 ⟨#[120]⟩ _ (by decide)).mono ?_
      rintro e wk ⟨rfl, hb⟩
      replace H1 := Lib.hid (H1.out.call hb)
      clear hb
      go_wp2_with fail
      refine (WR.out (withS 56 ⟨#[120]⟩) _ H1.out.below (by decide +kernel) bad_x).mono ?_
      rintro e wk ⟨rfl, hb⟩
      replace H1 := Lib.hid (H1.out.call hb)
      clear hb
      go_wp2_with fail
      refine (WI.out 77 ⟨#[70, 45, 49]⟩ _ (by decide)).mono ?_
      rintro e wk ⟨rfl, hb⟩
      replace H1 := Lib.hid (H1.out.call hb)
      clear hb
      go_wp2_with fail
      refine (WR.out (withS 77 ⟨#[70, 45, 49]⟩) _ H1.out.below (by decide +kernel) bad_site).mono ?_
      rintro e wk ⟨rfl, hb⟩
      replace H1 := Lib.hid (H1.out.call hb)
      clear hb
      go_wp2_with fail
      refine (WR.out (⟨#[]⟩) _ H1.out.below (by decide +kernel) bad_none).mono ?_
      rintro e wk ⟨rfl, hb⟩
      replace H1 := Lib.hid (H1.out.call hb)
      clear hb
      have hEnd := H1
      go_wp2_with fail
      go_meet
      exact ⟨rfl, hEnd⟩
    case rest => as_aux_lemma =>
    obtain ⟨rfl, X14⟩ := hcut
    clear X13 s79 tS WR WI PA PR nB1 nB2 yZ lZ l79 lA1
    have m501 : ∀ w', (Instr.makeSlice 25 (.int .i64 501) (.int .i64 501)).run Tryz.prog w' = .ok (.slice (some ⟨w'.heap.size, 0, none⟩) 501 501) (w'.alloc (.cells (zC 501) 23)) := fun w' => make_O 501 (by decide) w'
    have m1 : ∀ w', (Instr.makeSlice 25 (.int .i64 1) (.int .i64 1)).run Tryz.prog w' = .ok (.slice (some ⟨w'.heap.size, 0, none⟩) 1 1) (w'.alloc (.cells (zC 1) 23)) := fun w' => make_O 1 (by decide) w'
    have PZ := Lib.hid (fun w' (h : Below w.heap.size w w') => print_zeros 501 4 (by decide) zeros_many (by decide) w' (HT.out _ h) (HE.out _ h))
    have PZ1 := Lib.hid (fun w' (h : Below w.heap.size w w') => print_zeros 1 8 (by decide) zeros_one (by decide) w' (HT.out _ h) (HE.out _ h))
    have SZ := Lib.hid (fun w' (h : Below w.heap.size w w') => sort_zeros 501 4 (by decide) zeros_many (by decide) w' (HE.out _ h))
    have PT := Lib.hid (fun w' (h : Below w.heap.size w w') => parse_two w' (HE.out _ h))
    have PO := Lib.hid (fun w' (h : Below w.heap.size w w') => parse_one w' (HE.out _ h))
    have AL := Lib.hid (fun w' (h : Below w.heap.size w w') => alive_any w' (HT.out _ h) (HE.out _ h))
    obtain ⟨B1, hB1⟩ : ∃ V, sOA ++ (⟨#[10]⟩ : ByteArray) = V := ⟨_, rfl⟩
    obtain ⟨B2, hB2⟩ : ∃ V, B1 ++ SA = V := ⟨_, rfl⟩
    obtain ⟨B3, hB3⟩ : ∃ V, B2 ++ (⟨#[10]⟩ : ByteArray) = V := ⟨_, rfl⟩
    have z1 : B1.size = 81 := by rw [← hB1]; decide +kernel
    have z2 : B2.size = 161 := by rw [← hB2, ByteArray.size_append, z1, zA]
    have e3 : sTwo = B3 := by
      unfold sTwo
      rw [hB1, hSA, hB2, hB3]
    rw [e3] at PT
    rw [hSA] at PO hB1
    have t1 : ∀ w', (Go.Op.stringOp .add SA ⟨#[10]⟩).run Tryz.prog w' = .ok (.string B1) w' := fun w' => by rw [run_string_add_sum (P := Tryz.prog) (w := w') _ _ (by rw [zA]; decide), hB1]
    have t2 : ∀ w', (Go.Op.stringOp .add B1 SA).run Tryz.prog w' = .ok (.string B2) w' := fun w' => by rw [run_string_add_sum (P := Tryz.prog) (w := w') _ _ (by rw [z1, zA]; decide), hB2]
    have t3 : ∀ w', (Go.Op.stringOp .add B2 ⟨#[10]⟩).run Tryz.prog w' = .ok (.string B3) w' := fun w' => by rw [run_string_add_sum (P := Tryz.prog) (w := w') _ _ (by rw [z2]; decide), hB3]
    clear hB1 hB2 hB3 z1 z2 e3 zA hSA HT HE
    go_wp2_with (at_make; refine wpList_make_run _ rfl _ _ _ rfl _ _ _ _ rfl rfl (m501 _) ?_)
    refine (PZ.out _ X14.out.below).mono ?_
    rintro e wp1 ⟨rfl, hb⟩
    have X15 := Lib.hid (X14.out.call hb)
    clear hb X14 PZ
    go_wp2_with (at_make; refine wpList_make_run _ rfl _ _ _ rfl _ _ _ _ rfl rfl (m1 _) ?_)
    refine (PZ1.out _ X15.out.below).mono ?_
    rintro e wp2 ⟨rfl, hb⟩
    have X16 := Lib.hid (X15.out.call hb)
    clear hb X15 PZ1 m1
    go_wp2_with fail
    refine (PT.out _ X16.out.below).mono ?_
    rintro e wp3 ⟨⟨b, off, cap, rfl, hrow, lt⟩, hb⟩
    have X17 := Lib.hid (show NR w w1.heap.size b off wp3 from ⟨X16.out.call hb, hrow, lt⟩)
    clear hb X16 PT t1 t2 t3 hrow lt
    go_wp2_with fail
    refine (PO.out _ X17.out.nx.below).mono ?_
    rintro e wp4 ⟨⟨v4, rfl⟩, hb⟩
    have X18 := Lib.hid (X17.out.call hb)
    clear hb X17 PO
    go_wp2_with (at_make; refine wpList_make_run _ rfl _ _ _ rfl _ _ _ _ rfl rfl (m501 _) ?_)
    refine (SZ.out _ X18.out.nx.below).mono ?_
    rintro e wp5 ⟨⟨v5, rfl⟩, hb⟩
    have X19 := Lib.hid (X18.out.call hb)
    clear hb X18 SZ m501
    go_upto_region 18 with (fail)
    go_cut [27] (fun p wx => p = .bool true ∧ Hid (NR w w1.heap.size b off wx))
    case first => as_aux_lemma =>
      refine wp_region_held_drew (S := NR w w1.heap.size b off) (by kernel_rfl) (X19.out.call (Below.refl _ _).drew) (fun hHeld => ?_)
      refine wpAnyH_take (i := 0) (oi := ?oi0x7) (v := ?v0x7) ?hi0x7 (by kernel_rfl) (by kernel_rfl) (by kernel_rfl) ?hq0x7 ?hy0x7 hHeld ?rest0x7
      case hi0x7 => ((try simp only [List.getElem?_toArray, List.getElem?_cons_succ, List.getElem?_cons_zero]); (try rfl))
      case hq0x7 => exact fun _ _ _ h => h
      case hy0x7 => exact Or.inl ⟨by rfl, by intro w hSw; clear hSw; go_simp; try with_reducible rfl⟩
      try simp only [Act.put, List.setIfInBounds_toArray, List.set_cons_zero, List.set_cons_succ]
      refine wpAnyH_take (i := 1) (oi := ?oi1x8) (v := ?v1x8) ?hi1x8 (by kernel_rfl) (by kernel_rfl) (by kernel_rfl) ?hq1x8 ?hy1x8 hHeld ?rest1x8
      case hi1x8 => ((try simp only [List.getElem?_toArray, List.getElem?_cons_succ, List.getElem?_cons_zero]); (try rfl))
      case hq1x8 => exact fun _ _ _ h => h
      case hy1x8 => exact Or.inl ⟨by rfl, by intro w hSw; clear hSw; go_simp; try with_reducible rfl⟩
      try simp only [Act.put, List.setIfInBounds_toArray, List.set_cons_zero, List.set_cons_succ]
      refine wpAnyH_take (i := 2) (oi := ?oi2x9) (v := ?v2x9) ?hi2x9 (by kernel_rfl) (by kernel_rfl) (by kernel_rfl) ?hq2x9 ?hy2x9 hHeld ?rest2x9
      case hi2x9 => ((try simp only [List.getElem?_toArray, List.getElem?_cons_succ, List.getElem?_cons_zero]); (try rfl))
      case hq2x9 => exact fun _ _ _ h => h
      case hy2x9 => exact Or.inl ⟨by rfl, by intro w hSw; clear hSw; go_simp; try with_reducible rfl⟩
      try simp only [Act.put, List.setIfInBounds_toArray, List.set_cons_zero, List.set_cons_succ]
      refine wpAnyH_take (i := 3) (oi := ?oi3x10) (v := ?v3x10) ?hi3x10 (by kernel_rfl) (by kernel_rfl) (by kernel_rfl) ?hq3x10 ?hy3x10 hHeld ?rest3x10
      case hi3x10 => ((try simp only [List.getElem?_toArray, List.getElem?_cons_succ, List.getElem?_cons_zero]); (try rfl))
      case hq3x10 => exact fun _ _ _ h => h
      case hy3x10 => exact Or.inl ⟨by rfl, by intro w hSw; clear hSw; go_simp; try with_reducible rfl⟩
      try simp only [Act.put, List.setIfInBounds_toArray, List.set_cons_zero, List.set_cons_succ]
      refine wpAnyH_take (i := 4) (oi := ?oi4x11) (v := ?v4x11) ?hi4x11 (by kernel_rfl) (by kernel_rfl) (by kernel_rfl) ?hq4x11 ?hy4x11 hHeld ?rest4x11
      case hi4x11 => ((try simp only [List.getElem?_toArray, List.getElem?_cons_succ, List.getElem?_cons_zero]); (try rfl))
      case hq4x11 => exact fun _ _ _ h => h
      case hy4x11 => exact Or.inl ⟨by rfl, by intro w hSw; clear hSw; go_simp; try with_reducible rfl⟩
      try simp only [Act.put, List.setIfInBounds_toArray, List.set_cons_zero, List.set_cons_succ]
      refine wpAnyH_take (i := 5) (oi := ?oi5x12) (v := ?v5x12) ?hi5x12 (by kernel_rfl) (by kernel_rfl) (by kernel_rfl) ?hq5x12 ?hy5x12 hHeld ?rest5x12
      case hi5x12 => ((try simp only [List.getElem?_toArray, List.getElem?_cons_succ, List.getElem?_cons_zero]); (try rfl))
      case hq5x12 => exact fun _ _ _ h => h
      case hy5x12 => exact Or.inl ⟨by rfl, by intro w hSw; clear hSw; go_simp; try with_reducible rfl⟩
      try simp only [Act.put, List.setIfInBounds_toArray, List.set_cons_zero, List.set_cons_succ]
      refine wpAnyH_take (i := 6) (oi := ?oi6x13) (v := ?v6x13) ?hi6x13 (by kernel_rfl) (by kernel_rfl) (by kernel_rfl) ?hq6x13 ?hy6x13 hHeld ?rest6x13
      case hi6x13 => ((try simp only [List.getElem?_toArray, List.getElem?_cons_succ, List.getElem?_cons_zero]); (try rfl))
      case hq6x13 => exact fun _ _ _ h => h
      case hy6x13 => exact Or.inl ⟨by rfl, by intro w hSw; clear hSw; go_simp; try with_reducible rfl⟩
      try simp only [Act.put, List.setIfInBounds_toArray, List.set_cons_zero, List.set_cons_succ]
      refine wpAnyH_take (i := 7) (oi := ?oi7x14) (v := ?v7x14) ?hi7x14 (by kernel_rfl) (by kernel_rfl) (by kernel_rfl) ?hq7x14 ?hy7x14 hHeld ?rest7x14
      case hi7x14 => ((try simp only [List.getElem?_toArray, List.getElem?_cons_succ, List.getElem?_cons_zero]); (try rfl))
      case hq7x14 => exact fun _ _ _ h => h
      case hy7x14 => exact Or.inl ⟨by rfl, by intro w hSw; clear hSw; go_simp; try with_reducible rfl⟩
      try simp only [Act.put, List.setIfInBounds_toArray, List.set_cons_zero, List.set_cons_succ]
      refine wpAnyH_take (i := 8) (oi := ?oi8x15) (v := ?v8x15) ?hi8x15 (by kernel_rfl) (by kernel_rfl) (by kernel_rfl) ?hq8x15 ?hy8x15 hHeld ?rest8x15
      case hi8x15 => ((try simp only [List.getElem?_toArray, List.getElem?_cons_succ, List.getElem?_cons_zero]); (try rfl))
      case hq8x15 => exact fun _ _ _ h => h
      case hy8x15 => exact Or.inl ⟨by rfl, by intro w hSw; clear hSw; go_simp; try with_reducible rfl⟩
      try simp only [Act.put, List.setIfInBounds_toArray, List.set_cons_zero, List.set_cons_succ]
      refine wpAnyH_take (i := 9) (oi := ?oi9x16) (v := ?v9x16) ?hi9x16 (by kernel_rfl) (by kernel_rfl) (by kernel_rfl) ?hq9x16 ?hy9x16 hHeld ?rest9x16
      case hi9x16 => ((try simp only [List.getElem?_toArray, List.getElem?_cons_succ, List.getElem?_cons_zero]); (try rfl))
      case hq9x16 => exact fun _ _ _ h => h
      case hy9x16 => exact Or.inl ⟨by rfl, by intro w hSw; clear hSw; go_simp; try with_reducible rfl⟩
      try simp only [Act.put, List.setIfInBounds_toArray, List.set_cons_zero, List.set_cons_succ]
      refine wpAnyH_take (i := 10) (oi := ?oi10x17) (v := ?v10x17) ?hi10x17 (by kernel_rfl) (by kernel_rfl) (by kernel_rfl) ?hq10x17 ?hy10x17 hHeld ?rest10x17
      case hi10x17 => ((try simp only [List.getElem?_toArray, List.getElem?_cons_succ, List.getElem?_cons_zero]); (try rfl))
      case hq10x17 => exact fun _ _ _ h => h
      case hy10x17 => exact Or.inl ⟨by rfl, by intro w hSw; clear hSw; go_simp; try with_reducible rfl⟩
      try simp only [Act.put, List.setIfInBounds_toArray, List.set_cons_zero, List.set_cons_succ]
      refine wpAnyH_take (i := 11) (oi := ?oi11x18) (v := ?v11x18) ?hi11x18 (by kernel_rfl) (by kernel_rfl) (by kernel_rfl) ?hq11x18 ?hy11x18 hHeld ?rest11x18
      case hi11x18 => ((try simp only [List.getElem?_toArray, List.getElem?_cons_succ, List.getElem?_cons_zero]); (try rfl))
      case hq11x18 => exact fun _ _ _ h => h
      case hy11x18 => exact Or.inl ⟨by rfl, by intro w hSw; clear hSw; go_simp; try with_reducible rfl⟩
      try simp only [Act.put, List.setIfInBounds_toArray, List.set_cons_zero, List.set_cons_succ]
      refine wpAnyH_take (i := 12) (oi := ?oi12x19) (v := ?v12x19) ?hi12x19 (by kernel_rfl) (by kernel_rfl) (by kernel_rfl) ?hq12x19 ?hy12x19 hHeld ?rest12x19
      case hi12x19 => ((try simp only [List.getElem?_toArray, List.getElem?_cons_succ, List.getElem?_cons_zero]); (try rfl))
      case hq12x19 => exact fun _ _ _ h => h
      case hy12x19 => exact Or.inl ⟨by rfl, by intro w hSw; clear hSw; go_simp; try with_reducible rfl⟩
      try simp only [Act.put, List.setIfInBounds_toArray, List.set_cons_zero, List.set_cons_succ]
      refine wpAnyH_take (i := 13) (oi := ?oi13x20) (v := ?v13x20) ?hi13x20 (by kernel_rfl) (by kernel_rfl) (by kernel_rfl) ?hq13x20 ?hy13x20 hHeld ?rest13x20
      case hi13x20 => ((try simp only [List.getElem?_toArray, List.getElem?_cons_succ, List.getElem?_cons_zero]); (try rfl))
      case hq13x20 => exact fun _ _ _ h => h
      case hy13x20 => exact Or.inl ⟨by rfl, by intro w hSw; clear hSw; go_simp; try with_reducible rfl⟩
      try simp only [Act.put, List.setIfInBounds_toArray, List.set_cons_zero, List.set_cons_succ]
      refine wpAnyH_take (i := 14) (oi := ?oi14x21) (v := ?v14x21) ?hi14x21 (by kernel_rfl) (by kernel_rfl) (by kernel_rfl) ?hq14x21 ?hy14x21 hHeld ?rest14x21
      case hi14x21 => ((try simp only [List.getElem?_toArray, List.getElem?_cons_succ, List.getElem?_cons_zero]); (try rfl))
      case hq14x21 => exact fun _ _ _ h => h
      case hy14x21 => exact Or.inl ⟨by rfl, by intro w hSw; clear hSw; go_simp; try with_reducible rfl⟩
      try simp only [Act.put, List.setIfInBounds_toArray, List.set_cons_zero, List.set_cons_succ]
      refine wpAnyH_take (i := 15) (oi := ?oi15x22) (v := ?v15x22) ?hi15x22 (by kernel_rfl) (by kernel_rfl) (by kernel_rfl) ?hq15x22 ?hy15x22 hHeld ?rest15x22
      case hi15x22 => ((try simp only [List.getElem?_toArray, List.getElem?_cons_succ, List.getElem?_cons_zero]); (try rfl))
      case hq15x22 => exact fun _ _ _ h => h
      case hy15x22 => exact Or.inl ⟨by rfl, by intro w hSw; clear hSw; go_simp; try with_reducible rfl⟩
      try simp only [Act.put, List.setIfInBounds_toArray, List.set_cons_zero, List.set_cons_succ]
      refine wpAnyH_take (i := 16) (oi := ?oi16x23) (v := ?v16x23) ?hi16x23 (by kernel_rfl) (by kernel_rfl) (by kernel_rfl) ?hq16x23 ?hy16x23 hHeld ?rest16x23
      case hi16x23 => ((try simp only [List.getElem?_toArray, List.getElem?_cons_succ, List.getElem?_cons_zero]); (try rfl))
      case hq16x23 => exact fun _ _ _ h => h
      case hy16x23 => exact Or.inl ⟨by rfl, by intro w hSw; clear hSw; go_simp; try with_reducible rfl⟩
      try simp only [Act.put, List.setIfInBounds_toArray, List.set_cons_zero, List.set_cons_succ]
      refine wpAnyH_take (i := 17) (oi := ?oi17x24) (v := ?v17x24) ?hi17x24 (by kernel_rfl) (by kernel_rfl) (by kernel_rfl) ?hq17x24 ?hy17x24 hHeld ?rest17x24
      case hi17x24 => ((try simp only [List.getElem?_toArray, List.getElem?_cons_succ, List.getElem?_cons_zero]); (try rfl))
      case hq17x24 => exact fun _ _ _ h => h
      case hy17x24 => exact Or.inl ⟨by rfl, by intro w hSw; clear hSw; go_simp; try with_reducible rfl⟩
      try simp only [Act.put, List.setIfInBounds_toArray, List.set_cons_zero, List.set_cons_succ]
      refine wpAnyH_take (i := 18) (oi := ?oi18x25) (v := ?v18x25) ?hi18x25 (by kernel_rfl) (by kernel_rfl) (by kernel_rfl) ?hq18x25 ?hy18x25 hHeld ?rest18x25
      case hi18x25 => ((try simp only [List.getElem?_toArray, List.getElem?_cons_succ, List.getElem?_cons_zero]); (try rfl))
      case hq18x25 => exact fun _ _ _ h => h
      case hy18x25 => 
        refine' yieldsIf_load_mid ?_ 23 (.tmp 271) ?_ b (off + 8) ?_ (obsC oA) _ ?_ Tryz.underlying23 ?_ info8
        · rfl
        · rfl
        · rfl
        · exact fun _ h => NR.row h
        · rfl
      try simp only [Act.put, List.setIfInBounds_toArray, List.set_cons_zero, List.set_cons_succ]
      refine wpAnyH_take (i := 19) (oi := ?oi19x26) (v := ?v19x26) ?hi19x26 (by kernel_rfl) (by kernel_rfl) (by kernel_rfl) ?hq19x26 ?hy19x26 hHeld ?rest19x26
      case hi19x26 => ((try simp only [List.getElem?_toArray, List.getElem?_cons_succ, List.getElem?_cons_zero]); (try rfl))
      case hq19x26 => exact fun _ _ _ h => h
      case hy19x26 => 
        refine' yieldsIf_load_mid ?_ 23 (.tmp 2) ?_ w1.heap.size (0) ?_ (obsC oA) _ ?_ Tryz.underlying23 ?_ info8
        · rfl
        · rfl
        · rfl
        · exact fun _ h => ((NR.nx h).boxes (w1.heap.size, oA) (by simp)).row
        · rfl
      try simp only [Act.put, List.setIfInBounds_toArray, List.set_cons_zero, List.set_cons_succ]
      refine wpAnyH_take (i := 20) (oi := ?oi20x27) (v := ?v20x27) ?hi20x27 (by kernel_rfl) (by kernel_rfl) (by kernel_rfl) ?hq20x27 ?hy20x27 hHeld ?rest20x27
      case hi20x27 => ((try simp only [List.getElem?_toArray, List.getElem?_cons_succ, List.getElem?_cons_zero]); (try rfl))
      case hq20x27 => exact fun _ _ _ h => h
      case hy20x27 => exact Or.inl ⟨by rfl, by intro w hSw; clear hSw; go_simp; try with_reducible rfl⟩
      try simp only [Act.put, List.setIfInBounds_toArray, List.set_cons_zero, List.set_cons_succ]
      refine wpAnyH_take (i := 21) (oi := ?oi21x28) (v := ?v21x28) ?hi21x28 (by kernel_rfl) (by kernel_rfl) (by kernel_rfl) ?hq21x28 ?hy21x28 hHeld ?rest21x28
      case hi21x28 => ((try simp only [List.getElem?_toArray, List.getElem?_cons_succ, List.getElem?_cons_zero]); (try rfl))
      case hq21x28 => exact fun _ _ _ h => h
      case hy21x28 => exact Or.inl ⟨by rfl, by intro w hSw; clear hSw; go_simp; try with_reducible rfl⟩
      try simp only [Act.put, List.setIfInBounds_toArray, List.set_cons_zero, List.set_cons_succ]
      refine wpAnyH_take (i := 22) (oi := ?oi22x29) (v := ?v22x29) ?hi22x29 (by kernel_rfl) (by kernel_rfl) (by kernel_rfl) ?hq22x29 ?hy22x29 hHeld ?rest22x29
      case hi22x29 => ((try simp only [List.getElem?_toArray, List.getElem?_cons_succ, List.getElem?_cons_zero]); (try rfl))
      case hq22x29 => exact fun _ _ _ h => h
      case hy22x29 => exact Or.inl ⟨by rfl, by intro w hSw; clear hSw; go_simp; try with_reducible rfl⟩
      try simp only [Act.put, List.setIfInBounds_toArray, List.set_cons_zero, List.set_cons_succ]
      refine wpAnyH_take (i := 23) (oi := ?oi23x30) (v := ?v23x30) ?hi23x30 (by kernel_rfl) (by kernel_rfl) (by kernel_rfl) ?hq23x30 ?hy23x30 hHeld ?rest23x30
      case hi23x30 => ((try simp only [List.getElem?_toArray, List.getElem?_cons_succ, List.getElem?_cons_zero]); (try rfl))
      case hq23x30 => exact fun _ _ _ h => h
      case hy23x30 => exact Or.inl ⟨by rfl, by intro w hSw; clear hSw; go_simp; try with_reducible rfl⟩
      try simp only [Act.put, List.setIfInBounds_toArray, List.set_cons_zero, List.set_cons_succ]
      refine wpAnyH_take (i := 24) (oi := ?oi24x31) (v := ?v24x31) ?hi24x31 (by kernel_rfl) (by kernel_rfl) (by kernel_rfl) ?hq24x31 ?hy24x31 hHeld ?rest24x31
      case hi24x31 => ((try simp only [List.getElem?_toArray, List.getElem?_cons_succ, List.getElem?_cons_zero]); (try rfl))
      case hq24x31 => exact fun _ _ _ h => h
      case hy24x31 => exact Or.inl ⟨by rfl, by intro w hSw; clear hSw; go_simp; try with_reducible rfl⟩
      try simp only [Act.put, List.setIfInBounds_toArray, List.set_cons_zero, List.set_cons_succ]
      refine wpAnyH_take (i := 25) (oi := ?oi25x32) (v := ?v25x32) ?hi25x32 (by kernel_rfl) (by kernel_rfl) (by kernel_rfl) ?hq25x32 ?hy25x32 hHeld ?rest25x32
      case hi25x32 => ((try simp only [List.getElem?_toArray, List.getElem?_cons_succ, List.getElem?_cons_zero]); (try rfl))
      case hq25x32 => exact fun _ _ _ h => h
      case hy25x32 => exact Or.inl ⟨by rfl, by intro w hSw; clear hSw; go_simp; try with_reducible rfl⟩
      try simp only [Act.put, List.setIfInBounds_toArray, List.set_cons_zero, List.set_cons_succ]
      refine wpAnyH_take (i := 26) (oi := ?oi26x33) (v := ?v26x33) ?hi26x33 (by kernel_rfl) (by kernel_rfl) (by kernel_rfl) ?hq26x33 ?hy26x33 hHeld ?rest26x33
      case hi26x33 => ((try simp only [List.getElem?_toArray, List.getElem?_cons_succ, List.getElem?_cons_zero]); (try rfl))
      case hq26x33 => exact fun _ _ _ h => h
      case hy26x33 => exact Or.inl ⟨by rfl, by intro w hSw; clear hSw; go_simp; try with_reducible rfl⟩
      try simp only [Act.put, List.setIfInBounds_toArray, List.set_cons_zero, List.set_cons_succ]
      refine wpAnyH_take (i := 27) (oi := ?oi27x34) (v := ?v27x34) ?hi27x34 (by kernel_rfl) (by kernel_rfl) (by kernel_rfl) ?hq27x34 ?hy27x34 hHeld ?rest27x34
      case hi27x34 => ((try simp only [List.getElem?_toArray, List.getElem?_cons_succ, List.getElem?_cons_zero]); (try rfl))
      case hq27x34 => exact fun _ _ _ h => h
      case hy27x34 => exact Or.inl ⟨by rfl, by intro w hSw; clear hSw; go_simp; try with_reducible rfl⟩
      try simp only [Act.put, List.setIfInBounds_toArray, List.set_cons_zero, List.set_cons_succ]
      refine wpAnyH_take (i := 28) (oi := ?oi28x35) (v := ?v28x35) ?hi28x35 (by kernel_rfl) (by kernel_rfl) (by kernel_rfl) ?hq28x35 ?hy28x35 hHeld ?rest28x35
      case hi28x35 => ((try simp only [List.getElem?_toArray, List.getElem?_cons_succ, List.getElem?_cons_zero]); (try rfl))
      case hq28x35 => exact fun _ _ _ h => h
      case hy28x35 => exact Or.inl ⟨by rfl, by intro w hSw; clear hSw; go_simp; try with_reducible rfl⟩
      try simp only [Act.put, List.setIfInBounds_toArray, List.set_cons_zero, List.set_cons_succ]
      refine wpAnyH_take (i := 29) (oi := ?oi29x36) (v := ?v29x36) ?hi29x36 (by kernel_rfl) (by kernel_rfl) (by kernel_rfl) ?hq29x36 ?hy29x36 hHeld ?rest29x36
      case hi29x36 => ((try simp only [List.getElem?_toArray, List.getElem?_cons_succ, List.getElem?_cons_zero]); (try rfl))
      case hq29x36 => exact fun _ _ _ h => h
      case hy29x36 => exact Or.inl ⟨by rfl, by intro w hSw; clear hSw; go_simp; try with_reducible rfl⟩
      try simp only [Act.put, List.setIfInBounds_toArray, List.set_cons_zero, List.set_cons_succ]
      refine wpAnyH_take (i := 30) (oi := ?oi30x37) (v := ?v30x37) ?hi30x37 (by kernel_rfl) (by kernel_rfl) (by kernel_rfl) ?hq30x37 ?hy30x37 hHeld ?rest30x37
      case hi30x37 => ((try simp only [List.getElem?_toArray, List.getElem?_cons_succ, List.getElem?_cons_zero]); (try rfl))
      case hq30x37 => exact fun _ _ _ h => h
      case hy30x37 => exact Or.inl ⟨by rfl, by intro w hSw; clear hSw; go_simp; try with_reducible rfl⟩
      try simp only [Act.put, List.setIfInBounds_toArray, List.set_cons_zero, List.set_cons_succ]
      refine wpAnyH_done (by kernel_rfl) ?_ _
      have hEnd := Lib.hid hHeld
      clear hHeld
      go_wp2_with fail
      go_meet
      exact ⟨rfl, hEnd⟩
    case rest => as_aux_lemma =>
    obtain ⟨rfl, X20⟩ := hcut
    clear X19
    go_wp2_with fail
    refine (AL.out _ X20.out.nx.below).mono ?_
    rintro e wp6 ⟨rfl, hb⟩
    have X21 := Lib.hid (X20.out.call hb)
    clear hb X20 AL
    go_wp2_with fail
    go_ret
    exact ⟨rfl, X21.out.nx.below⟩
end Ow
end Go.Proofs.YtgodhaphbgllhaaGreatDoor
