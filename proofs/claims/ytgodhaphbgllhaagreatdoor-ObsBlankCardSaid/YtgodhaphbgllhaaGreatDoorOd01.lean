/-
  Lemmas and walks, texts joined: OBlankPl, OBlankL.
-/
import Derived.RegionTactic
import Derived.BigRegion
import Derived.Deep.RegionHeld3
import Derived.Test.YtgodhaphbgllhaaGreatDoorOb01
import Derived.Test.YtgodhaphbgllhaaGreatDoorOa08
set_option linter.unusedSimpArgs false
set_option linter.unusedVariables false
/-
  Plain law of observations: a line with a byte in a blank column is no line; no walk here.
-/
namespace Go.Proofs.YtgodhaphbgllhaaGreatDoor
namespace Op
open Go.RowKit Lw Go.Proofs.YtgodhaphbgllhaaGreatDoor.Ap Go.Proofs.YtgodhaphbgllhaaGreatDoor.Mp Go.Proofs.YtgodhaphbgllhaaGreatDoor.At Go.Proofs.YtgodhaphbgllhaaGreatDoor.Ow Go.Proofs.YtgodhaphbgllhaaGreatDoor.Mw

theorem bt_app {a b : ByteArray} {k : Nat} (h : k < a.size) : bt (a ++ b) k = bt a k := by
  rw [bt_L _ k (by rw [ByteArray.size_append]; omega), bt_L a k h, app_L]
  congr 2
  rw [List.getD_eq_getElem?_getD, List.getD_eq_getElem?_getD, List.getElem?_append_left (by rw [← size_L]; exact h)]
theorem bt_appr {a b : ByteArray} {k : Nat} (h : k < b.size) : bt (a ++ b) (a.size + k) = bt b k := by
  rw [bt_L _ _ (by rw [ByteArray.size_append]; omega), bt_L b k h, app_L]
  congr 2
  rw [List.getD_eq_getElem?_getD, List.getD_eq_getElem?_getD, List.getElem?_append_right (by rw [← size_L]; omega), ← size_L]
  congr 2
  omega
/-- A line with another byte at one place. -/
theorem poke_no {S : ByteArray} {a : Nat} {u : UInt8} (hS : S.size = 80) (ha : a < 80) (hu : u ≠ 32) (hb : a = 12 ∨ a = 13 ∨ (56 ≤ a ∧ a < 65) ∨ (71 ≤ a ∧ a < 77)) : NoO (S.extract 0 a ++ ⟨#[u]⟩ ++ S.extract (a + 1) 80) := by
  have zu : (⟨#[u]⟩ : ByteArray).size = 1 := rfl
  have z0 : (S.extract 0 a).size = a := by rw [ByteArray.size_extract]; omega
  have z1 : (S.extract 0 a ++ ⟨#[u]⟩).size = a + 1 := by rw [ByteArray.size_append, z0, zu]
  have z2 : (S.extract (a + 1) 80).size = 79 - a := by rw [ByteArray.size_extract]; omega
  obtain ⟨X, hX⟩ : ∃ X, S.extract 0 a ++ ⟨#[u]⟩ ++ S.extract (a + 1) 80 = X := ⟨_, rfl⟩
  have z : X.size = 80 := by rw [← hX, ByteArray.size_append, z1, z2]; omega
  have hb1 : bt X a = (u.toNat : Int) := by
    rw [← hX, bt_app (by omega)]
    have := bt_appr (a := S.extract 0 a) (b := ⟨#[u]⟩) (k := 0) (by rw [zu]; omega)
    rw [z0, Nat.add_zero] at this
    rw [this]
    rfl
  rw [hX]
  have ne : bt X a ≠ 32 := by
    rw [hb1]
    intro e
    exact hu (UInt8.toNat_inj.1 (Int.ofNat.inj e))
  have nb : ∀ i j, i ≤ a → a < j → j ≤ 80 → ¬ blankP (X.extract i j) := fun i j h1 h2 h3 h => by
    have e := bt_ext X i j (a - i) (by omega) (by omega)
    rw [show i + (a - i) = a by omega] at e
    have hl : a - i < (X.extract i j).data.toList.length := by rw [← size_L, ByteArray.size_extract]; omega
    rw [bt_L _ _ (by rw [ByteArray.size_extract]; omega), List.getD_eq_getElem?_getD, List.getElem?_eq_getElem hl] at e
    have m := h _ (List.getElem_mem hl)
    apply ne
    rw [← e]
    show (((X.extract i j).data.toList[a - i]'hl).toNat : Int) = 32
    rw [m]
    rfl
  rcases hb with rfl | rfl | ⟨h1, h2⟩ | ⟨h1, h2⟩
  · exact no_mark (fun g => ne g.1)
  · exact no_mark (fun g => ne g.2.1)
  · exact no_b1 (nb 56 65 h1 h2 (by omega))
  · exact no_b2 (nb 71 77 h1 h2 (by omega))
end Op
end Go.Proofs.YtgodhaphbgllhaaGreatDoor
/-
  The walk of the law ObsBlank.
-/
namespace Go.Proofs.YtgodhaphbgllhaaGreatDoor
namespace Ow
open Go.RowKit Lw Go.Proofs.YtgodhaphbgllhaaGreatDoor.Ap Go.Proofs.YtgodhaphbgllhaaGreatDoor.Op Go.Proofs.YtgodhaphbgllhaaGreatDoor.Mp Go.Proofs.YtgodhaphbgllhaaGreatDoor.Mw Go.Proofs.YtgodhaphbgllhaaGreatDoor.At

set_option maxRecDepth 100000 in
set_option maxHeartbeats 40000000 in
theorem blank_bad (o : Ob) (at_ c : Int) (w : World) (hT : Gt.Tab w) (hE : ES w) (hb : OB o) (no : longP o ∨ ¬ okO o) : Calls Tryz.prog 5 #[obsV o, .int .i64 at_, .int .u8 c] w fun e w' => e = .returned (.bool true) ∧ Below w.heap.size w w' := by
  have X0 := Lib.hid (OX.new w o)
  have HT := Lib.hid (hT.below X0.out.below)
  have HE := Lib.hid (hE.below X0.out.below)
  have AL := Lib.hid (fun w' (h : Gt.Tab w') (g : ES w') => alive_any w' h g)
  have GR := Lib.hid (fun w' : World => great_one (w := w') hb)
  have RC := Lib.hid (fun w' => rcheck_any o w' hb.t0 hb.t1 hb.b0 hb.b1 hb.n1 hb.n2)
  clear hT hE hb
  obtain ⟨nm, st, tt, ra, dec, sg, mg, bd⟩ := o
  go_enter Tryz.func5, Tryz.ntmps5
  go_wp2_with fail
  refine (AL.out _ HT.out HE.out).mono ?_
  rintro e w1 ⟨rfl, hb⟩
  have X1 := Lib.hid (X0.out.call hb)
  clear hb AL HT HE X0
  go_wp2_with (refine wpList_load_mid rfl _ (.tmp 3) rfl w.heap.size 0 rfl (obsC ⟨nm, st, tt, ra, dec, sg, mg, bd⟩) _ X1.out.row Tryz.underlying23 rfl info8 ?_)
  refine (GR.out _).mono ?_
  rintro e w2 ⟨rfl, rfl⟩
  have X2 := Lib.hid (X1.out.call ((Below.refl w1.heap.size w1).alloc (Nat.le_refl _) (.cells (obsC ⟨nm, st, tt, ra, dec, sg, mg, bd⟩).toArray 23)))
  by_cases hl : longP ⟨nm, st, tt, ra, dec, sg, mg, bd⟩
  · rw [decide_eq_true hl]
    clear no hl GR RC X1
    go_wp2_with fail
    go_ret
    exact ⟨rfl, X2.out.below⟩
  · rw [decide_eq_false hl]
    rw [show checkC ⟨nm, st, tt, ra, dec, sg, mg, bd⟩ = 8 from if_neg (no.resolve_left hl)] at RC
    clear no hl GR
    have q0 := X1.out.row 0 _ rfl
    have q1 := X1.out.row 1 _ rfl
    have q2 := X1.out.row 2 _ rfl
    have q3 := X1.out.row 3 _ rfl
    have q4 := X1.out.row 4 _ rfl
    have q5 := X1.out.row 5 _ rfl
    have q6 := X1.out.row 6 _ rfl
    have q7 := X1.out.row 7 _ rfl
    simp only [Nat.zero_add] at q0 q1 q2 q3 q4 q5 q6 q7
    have lt1 := X1.out.lt
    go_wp2_with fail
    refine (RC.out _).mono ?_
    rintro e w3 ⟨rfl, hb⟩
    have X3 := Lib.hid (X2.out.call hb)
    clear hb X2 X1 q0 q1 q2 q3 q4 q5 q6 q7 lt1 RC
    go_wp2_with fail
    go_ret
    exact ⟨rfl, X3.out.below⟩
set_option maxRecDepth 100000 in
set_option maxHeartbeats 40000000 in
theorem blank_arg (o : Ob) (at_ c : Int) (w : World) (hT : Gt.Tab w) (hE : ES w) (hb : OB o) (ok : okO o) (nl : ¬ longP o) (no : at_ < 0 ∨ 80 ≤ at_ ∨ c = 32) : Calls Tryz.prog 5 #[obsV o, .int .i64 at_, .int .u8 c] w fun e w' => e = .returned (.bool true) ∧ Below w.heap.size w w' := by
  have X0 := Lib.hid (OX.new w o)
  have HT := Lib.hid (hT.below X0.out.below)
  have HE := Lib.hid (hE.below X0.out.below)
  have AL := Lib.hid (fun w' (h : Gt.Tab w') (g : ES w') => alive_any w' h g)
  have GR := Lib.hid (fun w' : World => great_one (w := w') hb)
  have RC := Lib.hid (fun w' => rcheck_any o w' hb.t0 hb.t1 hb.b0 hb.b1 hb.n1 hb.n2)
  rw [show checkC o = 0 from if_pos ok] at RC
  rw [decide_eq_false nl] at GR
  clear hT hE hb ok nl
  obtain ⟨nm, st, tt, ra, dec, sg, mg, bd⟩ := o
  go_enter Tryz.func5, Tryz.ntmps5
  go_wp2_with fail
  refine (AL.out _ HT.out HE.out).mono ?_
  rintro e w1 ⟨rfl, hb⟩
  have X1 := Lib.hid (X0.out.call hb)
  clear hb AL HT HE X0
  go_wp2_with (refine wpList_load_mid rfl _ (.tmp 3) rfl w.heap.size 0 rfl (obsC ⟨nm, st, tt, ra, dec, sg, mg, bd⟩) _ X1.out.row Tryz.underlying23 rfl info8 ?_)
  refine (GR.out _).mono ?_
  rintro e w2 ⟨rfl, rfl⟩
  have X2 := Lib.hid (X1.out.call ((Below.refl w1.heap.size w1).alloc (Nat.le_refl _) (.cells (obsC ⟨nm, st, tt, ra, dec, sg, mg, bd⟩).toArray 23)))
  clear GR
  have q0 := X1.out.row 0 _ rfl
  have q1 := X1.out.row 1 _ rfl
  have q2 := X1.out.row 2 _ rfl
  have q3 := X1.out.row 3 _ rfl
  have q4 := X1.out.row 4 _ rfl
  have q5 := X1.out.row 5 _ rfl
  have q6 := X1.out.row 6 _ rfl
  have q7 := X1.out.row 7 _ rfl
  simp only [Nat.zero_add] at q0 q1 q2 q3 q4 q5 q6 q7
  have lt1 := X1.out.lt
  go_wp2_with fail
  refine (RC.out _).mono ?_
  rintro e w3 ⟨rfl, hb⟩
  have X3 := Lib.hid (X2.out.call hb)
  clear hb X2 X1 q0 q1 q2 q3 q4 q5 q6 q7 lt1 RC
  rcases (show at_ < 0 ∨ (0 ≤ at_ ∧ 80 ≤ at_) ∨ (0 ≤ at_ ∧ at_ < 80 ∧ c = 32) by omega) with h | ⟨h, g⟩ | ⟨h, g, k⟩
  all_goals
    clear no
    go_wp2_with fail
    go_ret
    exact ⟨rfl, X3.out.below⟩
theorem es_al {w : World} (h : ES w) (o : Obj) : ES (w.alloc o) := h.below ((Below.refl _ _).alloc (Nat.le_refl _) _)
theorem es_set {w : World} (h : ES w) (b i : Nat) (hb : w.heap.size ≤ b) (v : Value) : ES (w.setCell ⟨b, i, none⟩ v) := h.below ((Below.refl w.heap.size w).setCell (p := ⟨b, i, none⟩) hb v)
theorem bel_al {w0 w : World} (h : Below w0.heap.size w0 w) (o : Obj) : Below w0.heap.size w0 (w.alloc o) := h.alloc h.size o
theorem bel_dr {w0 w : World} (h : Below w0.heap.size w0 w) : Below w0.heap.size w0 w.drew := h.drew
theorem bel_set {w0 w : World} {b i : Nat} (hb : w0.heap.size ≤ b) (h : Below w0.heap.size w0 w) (_i : Nat) (v : Value) : Below w0.heap.size w0 (w.setCell ⟨b, i, none⟩ v) := h.setCell (p := ⟨b, i, none⟩) hb v
theorem bel_sets8 {w0 w7 : World} {b : Nat} (hb : Below w0.heap.size w0 w7) (h : w0.heap.size ≤ b) (v0 v1 v2 v3 v4 v5 v6 v7 : Value) : Below w0.heap.size w0 ((((((((w7.setCell ⟨b, 0, none⟩ v0).setCell ⟨b, 1, none⟩ v1).setCell ⟨b, 2, none⟩ v2).setCell ⟨b, 3, none⟩ v3).setCell ⟨b, 4, none⟩ v4).setCell ⟨b, 5, none⟩ v5).setCell ⟨b, 6, none⟩ v6).setCell ⟨b, 7, none⟩ v7) := (bel_set h (bel_set h (bel_set h (bel_set h (bel_set h (bel_set h (bel_set h (bel_set h hb 0 v0) 1 v1) 2 v2) 3 v3) 4 v4) 5 v5) 6 v6) 7 v7)
theorem es_sets8 {w0 w7 : World} {b : Nat} (hE : ES w0) (hb : Below w0.heap.size w0 w7) (h : w0.heap.size ≤ b) (v0 v1 v2 v3 v4 v5 v6 v7 : Value) : ES ((((((((w7.setCell ⟨b, 0, none⟩ v0).setCell ⟨b, 1, none⟩ v1).setCell ⟨b, 2, none⟩ v2).setCell ⟨b, 3, none⟩ v3).setCell ⟨b, 4, none⟩ v4).setCell ⟨b, 5, none⟩ v5).setCell ⟨b, 6, none⟩ v6).setCell ⟨b, 7, none⟩ v7) := hE.below (bel_sets8 hb h v0 v1 v2 v3 v4 v5 v6 v7)
abbrev zO : Ob := ⟨⟨#[]⟩, ⟨#[]⟩, 0, 0, 0, 0, 0, 0⟩
theorem box_a {wF w7 : World} {c : Obj} (hb : Below ((wF.alloc c).alloc (.cells (obsC zO).toArray 23)).drew.heap.size ((wF.alloc c).alloc (.cells (obsC zO).toArray 23)).drew w7) : Box (wF.heap.size + 1) zO w7 := by
  have h := (Box.new (wF.alloc c) zO).call (Below.refl _ _).drew
  have e : (wF.alloc c).heap.size = wF.heap.size + 1 := by simp
  rw [e] at h
  exact h.call hb
theorem box_b {wF w7 : World} {c : Obj} (hb : Below ((wF.alloc (.cells (obsC zO).toArray 23)).alloc c).drew.heap.size ((wF.alloc (.cells (obsC zO).toArray 23)).alloc c).drew w7) : Box wF.heap.size zO w7 :=
  (((Box.new wF zO).call ((Below.refl _ _).alloc (Nat.le_refl _) c)).call (Below.refl _ _).drew).call hb
theorem sets8_box {wF w7 : World} {b : Nat} (h : Box b zO w7) (hw : Below wF.heap.size wF w7) (hb : wF.heap.size ≤ b) : ∃ W, ((((((((w7.setCell ⟨b, 0, none⟩ (.string ⟨#[]⟩)).setCell ⟨b, 1, none⟩ (.string ⟨#[]⟩)).setCell ⟨b, 2, none⟩ (.int .i64 0)).setCell ⟨b, 3, none⟩ (.int .i64 0)).setCell ⟨b, 4, none⟩ (.int .i64 0)).setCell ⟨b, 5, none⟩ (.int .i64 0)).setCell ⟨b, 6, none⟩ (.int .i64 0)).setCell ⟨b, 7, none⟩ (.int .u8 0)) = W ∧ Box b zO W ∧ Below wF.heap.size wF W :=
  ⟨_, rfl, (((((((h.set 0 (.string ⟨#[]⟩) zO (by omega) rfl).set 1 (.string ⟨#[]⟩) zO (by omega) rfl).set 2 (.int .i64 0) zO (by omega) rfl).set 3 (.int .i64 0) zO (by omega) rfl).set 4 (.int .i64 0) zO (by omega) rfl).set 5 (.int .i64 0) zO (by omega) rfl).set 6 (.int .i64 0) zO (by omega) rfl).set 7 (.int .u8 0) zO (by omega) rfl, bel_sets8 hw hb _ _ _ _ _ _ _ _⟩
theorem one_byte (u : UInt8) (W : World) (b : Nat) (h : W.cell? ⟨b, 0, none⟩ = some (.int .u8 (u.toNat : Int))) : (convert 42 9 (.slice (some ⟨b, 0, none⟩) 1 1)).run Tryz.prog W = .ok (.string ⟨#[u]⟩) W :=
  run_convert_bytes_back (P := Tryz.prog) W 42 9 5 ⟨b, 0, none⟩ 1 [u] Tryz.underlying42 Tryz.underlying5 Tryz.underlying9 (fun j hj => by
    have hj : j < 1 := hj
    obtain rfl : j = 0 := by omega
    rw [Addr.add_mid, h]
    rfl)
theorem es_dr {w : World} (h : ES w) : ES w.drew := h.below (Below.refl _ _).drew
theorem parse_no {s : ByteArray} (w : World) (hE : ES w) (hs : s.size ≤ maxLen) (no : NoO s) : Calls Tryz.prog 13 #[.string s] w fun e w' => e = .returned (.tuple #[obsV ⟨⟨#[]⟩, ⟨#[]⟩, 0, 0, 0, 0, 0, 0⟩, .int .i64 12]) ∧ Below w.heap.size w w' := by
  refine (obs_parse_any s w hE hs).mono ?_
  rintro e w1 ⟨q, c, rfl, hP, hb⟩
  obtain ⟨rfl, rfl⟩ := hP.uniq (show ObsIs s ⟨⟨#[]⟩, ⟨#[]⟩, 0, 0, 0, 0, 0, 0⟩ 12 from obs_no no)
  exact ⟨rfl, hb⟩
/-- The columns that must be blank. -/
def colP (a : Nat) : Prop := a = 12 ∨ a = 13 ∨ (56 ≤ a ∧ a < 65) ∨ (71 ≤ a ∧ a < 77)
instance (a : Nat) : Decidable (colP a) := by unfold colP; infer_instance
set_option maxRecDepth 100000 in
set_option maxHeartbeats 40000000 in
theorem blank_main (o : Ob) (a : Nat) (u : UInt8) (w : World) (hT : Gt.Tab w) (hE : ES w) (hb : OB o) (ok : okO o) (nl : ¬ longP o) (ha : a < 80) (hu : u ≠ 32) : Calls Tryz.prog 5 #[obsV o, .int .i64 a, .int .u8 (u.toNat : Int)] w fun e w' => e = .returned (.bool true) ∧ Below w.heap.size w w' := by
  have HTw := Lib.hid hT
  have HEw := Lib.hid hE
  have X0 := Lib.hid (OX.new w o)
  have HT := Lib.hid (hT.below X0.out.below)
  have HE := Lib.hid (hE.below X0.out.below)
  have AL := Lib.hid (fun w' (h : Gt.Tab w') (g : ES w') => alive_any w' h g)
  have GR := Lib.hid (fun w' : World => great_one (w := w') hb)
  have RC := Lib.hid (fun w' => rcheck_any o w' hb.t0 hb.t1 hb.b0 hb.b1 hb.n1 hb.n2)
  rw [show checkC o = 0 from if_pos ok] at RC
  rw [decide_eq_false nl] at GR
  obtain ⟨r, S, T, p1, -, -, -, -, zS, -, -, -⟩ := round_plan ok
  have PO := Lib.hid (fun w' (h : Gt.Tab w') (g : ES w') => print_any o w' h g hb)
  have Q1 := Lib.hid p1
  have zP : (S.extract 0 a).size = a := by rw [ByteArray.size_extract]; omega
  have zQ : (S.extract 0 1).size = 1 := by rw [ByteArray.size_extract]; omega
  have P1 := Lib.hid (fun w' (g : ES w') => parse_no (s := S.extract 0 a) w' g (by rw [zP]; unfold maxLen; omega) (no_size (by rw [zP]; omega)))
  have P2 := Lib.hid (fun w' (g : ES w') => parse_no (s := S ++ S.extract 0 1) w' g (by rw [ByteArray.size_append, zQ, zS]; decide) (no_size (by rw [ByteArray.size_append, zQ, zS]; decide)))
  have zu : (⟨#[u]⟩ : ByteArray).size = 1 := rfl
  have zR : (S.extract (a + 1) 80).size = 79 - a := by rw [ByteArray.size_extract]; omega
  have P3 : Hid (colP a → ∀ w', ES w' → Calls Tryz.prog 13 #[.string (S.extract 0 a ++ ⟨#[u]⟩ ++ S.extract (a + 1) 80)] w' fun e w'' => e = .returned (.tuple #[obsV ⟨⟨#[]⟩, ⟨#[]⟩, 0, 0, 0, 0, 0, 0⟩, .int .i64 12]) ∧ Below w'.heap.size w' w'') := Lib.hid fun hc w' g => parse_no w' g (by rw [ByteArray.size_append, ByteArray.size_append, zP, zu, zR]; unfold maxLen; omega) (poke_no zS ha hu hc)
  have z80 : (S.size : Int) = 80 := by rw [zS]; rfl
  have u32 : ((u.toNat : Int) == 32) = false := beq_eq_false_iff_ne.2 fun e => hu (UInt8.toNat_inj.1 (Int.ofNat.inj e))
  have a80 : (a : Int) < 80 := by omega
  have ub := byte_bd u
  obtain ⟨V, hV⟩ : ∃ V, S.extract 0 a = V := ⟨_, rfl⟩
  obtain ⟨V1, hV1⟩ : ∃ V, S.extract 0 1 = V := ⟨_, rfl⟩
  obtain ⟨V2, hV2⟩ : ∃ V, S.extract (a + 1) 80 = V := ⟨_, rfl⟩
  rw [hV] at P1 P3 zP
  rw [hV1] at P2 zQ
  rw [hV2] at P3 zR
  clear hT hE hb ok nl p1 zS hu
  obtain ⟨nm, st, tt, ra, dec, sg, mg, bd⟩ := o
  go_enter Tryz.func5, Tryz.ntmps5
  go_wp2_with fail
  refine (AL.out _ HT.out HE.out).mono ?_
  rintro e w1 ⟨rfl, hb⟩
  have X1 := Lib.hid (X0.out.call hb)
  clear hb AL HT HE X0
  go_wp2_with (refine wpList_load_mid rfl _ (.tmp 3) rfl w.heap.size 0 rfl (obsC ⟨nm, st, tt, ra, dec, sg, mg, bd⟩) _ X1.out.row Tryz.underlying23 rfl info8 ?_)
  refine (GR.out _).mono ?_
  rintro e w2 ⟨rfl, rfl⟩
  have X2 := Lib.hid (X1.out.call ((Below.refl w1.heap.size w1).alloc (Nat.le_refl _) (.cells (obsC ⟨nm, st, tt, ra, dec, sg, mg, bd⟩).toArray 23)))
  clear GR
  have q0 := X1.out.row 0 _ rfl
  have q1 := X1.out.row 1 _ rfl
  have q2 := X1.out.row 2 _ rfl
  have q3 := X1.out.row 3 _ rfl
  have q4 := X1.out.row 4 _ rfl
  have q5 := X1.out.row 5 _ rfl
  have q6 := X1.out.row 6 _ rfl
  have q7 := X1.out.row 7 _ rfl
  simp only [Nat.zero_add] at q0 q1 q2 q3 q4 q5 q6 q7
  have lt1 := X1.out.lt
  go_wp2_with fail
  refine (RC.out _).mono ?_
  rintro e w3 ⟨rfl, hb⟩
  have X3 := Lib.hid (X2.out.call hb)
  clear hb X2 X1 q0 q1 q2 q3 q4 q5 q6 q7 lt1 RC
  go_wp2_with (refine wpList_load_mid rfl _ (.tmp 3) rfl w.heap.size 0 rfl (obsC ⟨nm, st, tt, ra, dec, sg, mg, bd⟩) _ X3.out.row Tryz.underlying23 rfl info8 ?_)
  refine (PO.out _ (HTw.out.below X3.out.below) (HEw.out.below X3.out.below)).mono ?_
  rintro e w4 ⟨S', d, rfl, hP, hb⟩
  obtain ⟨rfl, rfl⟩ := hP.uniq Q1.out
  have X4 := Lib.hid (X3.out.call hb)
  clear hb hP X3 PO Q1
  go_wp2_with fail
  refine (P1.out _ (HEw.out.below X4.out.below)).mono ?_
  rintro e w5 ⟨rfl, hb⟩
  have X5 := Lib.hid ((X4.out.call hb).call ((Below.refl w5.heap.size w5).alloc (Nat.le_refl _) (.cells (obsC ⟨⟨#[]⟩, ⟨#[]⟩, 0, 0, 0, 0, 0, 0⟩).toArray 23)))
  clear hb X4 P1
  go_wp2_with (refine wpList_store_new rfl _ (.tmp 10) (.tmp 59) rfl _ _ rfl rfl info8 rfl ?_ ?_; simp [Value.oneCell'])
  refine (P2.out _ (HEw.out.below X5.out.below)).mono ?_
  rintro e w6 ⟨rfl, hb⟩
  have X6 := Lib.hid ((X5.out.call hb).call ((Below.refl w6.heap.size w6).alloc (Nat.le_refl _) (.cells (obsC ⟨⟨#[]⟩, ⟨#[]⟩, 0, 0, 0, 0, 0, 0⟩).toArray 23)))
  clear hb X5 P2
  have a0 : ¬ (a : Int) < 0 := by omega
  go_upto_region 11 with (refine wpList_store_new rfl _ (.tmp 12) (.tmp 67) rfl _ _ rfl rfl info8 rfl ?_ ?_; simp [Value.oneCell'])
  obtain ⟨wF, hwF⟩ : ∃ wF, (w6.alloc (.cells (obsC ⟨⟨#[]⟩, ⟨#[]⟩, 0, 0, 0, 0, 0, 0⟩).toArray 23)) = wF := ⟨_, rfl⟩
  change Code.wp _ _ _ _ (w6.alloc (.cells (obsC ⟨⟨#[]⟩, ⟨#[]⟩, 0, 0, 0, 0, 0, 0⟩).toArray 23))
  rw [hwF] at X6 ⊢
  clear hwF
  obtain ⟨nb, hnb⟩ : ∃ nb : Bool, nb = decide (¬ colP a) := ⟨_, rfl⟩
  have NB := Lib.hid hnb
  clear hnb
  go_cut [100] (fun q wx => q = .bool nb ∧ wF = wx)
  case first =>
    have yes : (¬ colP a) → nb = true := fun h => NB.out.trans (decide_eq_true h)
    have not : colP a → nb = false := fun h => NB.out.trans (decide_eq_false fun g => g h)
    have YES := Lib.hid yes
    have NOT := Lib.hid not
    unfold colP at YES NOT
    clear yes not P3 NB
    rcases (show (a < 12) ∨ (a = 12) ∨ (a = 13) ∨ (a = 14) ∨ (14 < a ∧ a < 56) ∨ (56 ≤ a ∧ a < 65) ∨ (64 < a ∧ a < 71) ∨ (71 ≤ a ∧ a < 77) ∨ (76 < a) by omega) with h | h | h | h | h | h | h | h | h
    · have e := Lib.hid (YES.out (by omega))
      have h1 : (a : Int) < 12 := by omega
      clear YES NOT h
      go_wp2_with fail
      go_meet
      exact ⟨by first | (rw [e.out]; rfl) | (rw [e.out]; congr 1; simp; omega) | rw [e.out], by first | rfl | trivial⟩
    · have e := Lib.hid (NOT.out (by omega))
      subst h
      clear YES NOT
      go_wp2_with fail
      go_meet
      exact ⟨by first | (rw [e.out]; rfl) | (rw [e.out]; congr 1; simp; omega) | rw [e.out], by first | rfl | trivial⟩
    · have e := Lib.hid (NOT.out (by omega))
      subst h
      clear YES NOT
      go_wp2_with fail
      go_meet
      exact ⟨by first | (rw [e.out]; rfl) | (rw [e.out]; congr 1; simp; omega) | rw [e.out], by first | rfl | trivial⟩
    · have e := Lib.hid (YES.out (by omega))
      subst h
      clear YES NOT
      go_wp2_with fail
      go_meet
      exact ⟨by first | (rw [e.out]; rfl) | (rw [e.out]; congr 1; simp; omega) | rw [e.out], by first | rfl | trivial⟩
    · have e := Lib.hid (YES.out (by omega))
      have h1 : ¬ (a : Int) < 12 := by omega
      have h2 : ((a : Int) == 14) = false := beq_eq_false_iff_ne.2 (by omega)
      have h3 : (14 : Int) < a := by omega
      have h4 : (a : Int) < 56 := by omega
      clear YES NOT h
      go_wp2_with fail
      go_meet
      exact ⟨by first | (rw [e.out]; rfl) | (rw [e.out]; congr 1; simp; omega) | rw [e.out], by first | rfl | trivial⟩
    · have e := Lib.hid (NOT.out (by omega))
      have h1 : ¬ (a : Int) < 12 := by omega
      have h2 : ((a : Int) == 14) = false := beq_eq_false_iff_ne.2 (by omega)
      have h3 : (14 : Int) < a := by omega
      have h4 : ¬ (a : Int) < 56 := by omega
      have h5 : ¬ (64 : Int) < a := by omega
      have h6 : ¬ (76 : Int) < a := by omega
      clear YES NOT h
      go_wp2_with fail
      go_meet
      exact ⟨by first | (rw [e.out]; rfl) | (rw [e.out]; congr 1; simp; omega) | rw [e.out], by first | rfl | trivial⟩
    · have e := Lib.hid (YES.out (by omega))
      have h1 : ¬ (a : Int) < 12 := by omega
      have h2 : ((a : Int) == 14) = false := beq_eq_false_iff_ne.2 (by omega)
      have h3 : (14 : Int) < a := by omega
      have h4 : ¬ (a : Int) < 56 := by omega
      have h5 : (64 : Int) < a := by omega
      have h6 : (a : Int) < 71 := by omega
      clear YES NOT h
      go_wp2_with fail
      go_meet
      exact ⟨by first | (rw [e.out]; rfl) | (rw [e.out]; congr 1; simp; omega) | rw [e.out], by first | rfl | trivial⟩
    · have e := Lib.hid (NOT.out (by omega))
      have h1 : ¬ (a : Int) < 12 := by omega
      have h2 : ((a : Int) == 14) = false := beq_eq_false_iff_ne.2 (by omega)
      have h3 : (14 : Int) < a := by omega
      have h4 : ¬ (a : Int) < 56 := by omega
      have h5 : (64 : Int) < a := by omega
      have h6 : ¬ (a : Int) < 71 := by omega
      have h7 : ¬ (76 : Int) < a := by omega
      clear YES NOT h
      go_wp2_with fail
      go_meet
      exact ⟨by first | (rw [e.out]; rfl) | (rw [e.out]; congr 1; simp; omega) | rw [e.out], by first | rfl | trivial⟩
    · have e := Lib.hid (YES.out (by omega))
      have h1 : ¬ (a : Int) < 12 := by omega
      have h2 : ((a : Int) == 14) = false := beq_eq_false_iff_ne.2 (by omega)
      have h3 : (14 : Int) < a := by omega
      have h4 : ¬ (a : Int) < 56 := by omega
      have h5 : (64 : Int) < a := by omega
      have h6 : ¬ (a : Int) < 71 := by omega
      have h7 : (76 : Int) < a := by omega
      clear YES NOT h
      go_wp2_with fail
      go_meet
      exact ⟨by first | (rw [e.out]; rfl) | (rw [e.out]; congr 1; simp; omega) | rw [e.out], by first | rfl | trivial⟩
  case rest =>
    obtain ⟨rfl, rfl⟩ := hcut
    cases nb
    · have hc : colP a := by
        have := of_decide_eq_false NB.out.symm
        exact Decidable.not_not.1 this
      have PX := Lib.hid (P3.out hc)
      have HEF := Lib.hid (HEw.out.below X6.out.below)
      have BF := Lib.hid X6.out.below
      clear NB hc P3 HTw HEw X6 hV1
      have z0 : (V ++ (⟨#[u]⟩ : ByteArray)).size = a + 1 := by rw [ByteArray.size_append, zP, zu]
      obtain ⟨G1, hG1⟩ : ∃ G, V ++ (⟨#[u]⟩ : ByteArray) = G := ⟨_, rfl⟩
      rw [hG1] at z0 PX
      obtain ⟨G2, hG2⟩ : ∃ G, G1 ++ V2 = G := ⟨_, rfl⟩
      rw [hG2] at PX
      have E0 := HEF.out
      have hcv := one_byte u
      go_wp2_with fail
      have s1 : ∀ w', (Instr.slice 9 (.string S') none (some (.int .i64 (a : Int))) none).run Tryz.prog w' = .ok (.string V) w' := fun w' => by
        have := run_slice_string_h (P := Tryz.prog) (w := w') (t := 9) (s := S') Tryz.underlying9 .i64 (a : Int) (by omega) (by omega)
        rw [Int.toNat_natCast, hV] at this
        exact this
      have s2 : ∀ w', (Instr.slice 9 (.string S') (some (.int .i64 ((a : Int) + 1))) none none).run Tryz.prog w' = .ok (.string V2) w' := fun w' => by
        have := run_slice_string_l (P := Tryz.prog) (w := w') (t := 9) (s := S') Tryz.underlying9 .i64 ((a : Int) + 1) (by omega) (by omega)
        rw [show ((a : Int) + 1).toNat = a + 1 by omega, show S'.size = 80 by omega, hV2] at this
        exact this
      have wa : IntKind.i64.wrap ((a : Int) + 1) = (a : Int) + 1 := wrap_small _ (by omega) (by omega)
      have t1 : ∀ w', (Go.Op.stringOp .add V ⟨#[u]⟩).run Tryz.prog w' = .ok (.string G1) w' := fun w' => by rw [run_string_add_sum (P := Tryz.prog) (w := w') _ _ (by rw [zP, zu]; omega), hG1]
      have t2 : ∀ w', (Go.Op.stringOp .add G1 V2).run Tryz.prog w' = .ok (.string G2) w' := fun w' => by rw [run_string_add_sum (P := Tryz.prog) (w := w') _ _ (by rw [z0, zR]; omega), hG2]
      clear hV hV2 hG1 hG2 zu zP zQ zR z0 z80 ub
      refine wp_region_held_drew (S := ES) (by kernel_rfl) (es_dr E0) (fun hHeld => ?_)
      refine wpAnyH_take (i := 0) (oi := ?oi0x1) (v := ?v0x1) ?hi0x1 (by kernel_rfl) (by kernel_rfl) (by kernel_rfl) ?hq0x1 ?hy0x1 hHeld ?rest0x1
      case hi0x1 => ((try simp only [List.getElem?_toArray, List.getElem?_cons_succ, List.getElem?_cons_zero]); (try rfl))
      case hq0x1 => exact fun _ _ _ h => h
      case hy0x1 => exact Or.inl ⟨by rfl, by intro w hSw; clear hSw; go_simp; try with_reducible rfl⟩
      try simp only [Act.put, List.setIfInBounds_toArray, List.set_cons_zero, List.set_cons_succ]
      refine wpAnyH_take (i := 1) (oi := ?oi1x2) (v := ?v1x2) ?hi1x2 (by kernel_rfl) (by kernel_rfl) (by kernel_rfl) ?hq1x2 ?hy1x2 hHeld ?rest1x2
      case hi1x2 => ((try simp only [List.getElem?_toArray, List.getElem?_cons_succ, List.getElem?_cons_zero]); (try rfl))
      case hq1x2 => exact fun _ _ _ h => h
      case hy1x2 => exact Or.inl ⟨by rfl, by intro w hSw; clear hSw; go_simp; try with_reducible rfl⟩
      try simp only [Act.put, List.setIfInBounds_toArray, List.set_cons_zero, List.set_cons_succ]
      refine wpAnyH_take (i := 2) (oi := ?oi2x3) (v := ?v2x3) ?hi2x3 (by kernel_rfl) (by kernel_rfl) (by kernel_rfl) ?hq2x3 ?hy2x3 hHeld ?rest2x3
      case hi2x3 => ((try simp only [List.getElem?_toArray, List.getElem?_cons_succ, List.getElem?_cons_zero]); (try rfl))
      case hq2x3 => exact fun _ _ _ h => h
      case hy2x3 => exact Or.inl ⟨by rfl, by intro w hSw; clear hSw; go_simp; try with_reducible rfl⟩
      try simp only [Act.put, List.setIfInBounds_toArray, List.set_cons_zero, List.set_cons_succ]
      refine wpAnyH_take (i := 3) (oi := ?oi3x4) (v := ?v3x4) ?hi3x4 (by kernel_rfl) (by kernel_rfl) (by kernel_rfl) ?hq3x4 ?hy3x4 hHeld ?rest3x4
      case hi3x4 => ((try simp only [List.getElem?_toArray, List.getElem?_cons_succ, List.getElem?_cons_zero]); (try rfl))
      case hq3x4 => exact fun _ _ _ h => h
      case hy3x4 => exact Or.inl ⟨by rfl, by intro w hSw; clear hSw; go_simp; try with_reducible rfl⟩
      try simp only [Act.put, List.setIfInBounds_toArray, List.set_cons_zero, List.set_cons_succ]
      refine wpAnyH_take (i := 7) (oi := ?oi7x5) (v := ?v7x5) ?hi7x5 (by kernel_rfl) (by kernel_rfl) (by kernel_rfl) ?hq7x5 ?hy7x5 hHeld ?rest7x5
      case hi7x5 => ((try simp only [List.getElem?_toArray, List.getElem?_cons_succ, List.getElem?_cons_zero]); (try rfl))
      case hq7x5 => exact fun _ _ _ h => h
      case hy7x5 => exact Or.inl ⟨by rfl, by intro w hSw; clear hSw; go_simp; try with_reducible rfl⟩
      try simp only [Act.put, List.setIfInBounds_toArray, List.set_cons_zero, List.set_cons_succ]
      refine wpAnyH_take (i := 8) (oi := ?oi8x6) (v := ?v8x6) ?hi8x6 (by kernel_rfl) (by kernel_rfl) (by kernel_rfl) ?hq8x6 ?hy8x6 hHeld ?rest8x6
      case hi8x6 => ((try simp only [List.getElem?_toArray, List.getElem?_cons_succ, List.getElem?_cons_zero]); (try rfl))
      case hq8x6 => exact fun _ _ _ h => h
      case hy8x6 => exact Or.inl ⟨by rfl, by intro w hSw; clear hSw; go_simp; try with_reducible rfl⟩
      try simp only [Act.put, List.setIfInBounds_toArray, List.set_cons_zero, List.set_cons_succ]
      refine wpAnyH_take (i := 9) (oi := ?oi9x7) (v := ?v9x7) ?hi9x7 (by kernel_rfl) (by kernel_rfl) (by kernel_rfl) ?hq9x7 ?hy9x7 hHeld ?rest9x7
      case hi9x7 => ((try simp only [List.getElem?_toArray, List.getElem?_cons_succ, List.getElem?_cons_zero]); (try rfl))
      case hq9x7 => exact fun _ _ _ h => h
      case hy9x7 => exact Or.inl ⟨by rfl, by intro w hSw; clear hSw; go_simp; try with_reducible rfl⟩
      try simp only [Act.put, List.setIfInBounds_toArray, List.set_cons_zero, List.set_cons_succ]
      refine wpAnyH_take (i := 10) (oi := ?oi10x8) (v := ?v10x8) ?hi10x8 (by kernel_rfl) (by kernel_rfl) (by kernel_rfl) ?hq10x8 ?hy10x8 hHeld ?rest10x8
      case hi10x8 => ((try simp only [List.getElem?_toArray, List.getElem?_cons_succ, List.getElem?_cons_zero]); (try rfl))
      case hq10x8 => exact fun _ _ _ h => h
      case hy10x8 => exact Or.inl ⟨by rfl, by intro w hSw; clear hSw; go_simp; try with_reducible rfl⟩
      try simp only [Act.put, List.setIfInBounds_toArray, List.set_cons_zero, List.set_cons_succ]
      refine wpAnyH_ready (rs := [4, 16]) (by kernel_rfl) (by simp) ?_
      refine AllReadyH.cons rfl (fun K' hK => ?_) (AllReadyH.cons rfl (fun K' hK => ?_) AllReadyH.nil)
      ·
        have e0 := hHeld
        clear hHeld
        go_simp
        refine hK.out _ _ (by first | ((repeat (first | with_reducible assumption | with_reducible exact E0 | with_reducible apply es_dr | with_reducible apply es_al)); done) | exact es_sets8 E0 hbw (Nat.le_succ _) _ _ _ _ _ _ _ _) (fun hHeld => ?_)
        clear hK e0
        try simp only [Act.put, List.setIfInBounds_toArray, List.set_cons_zero, List.set_cons_succ]
        refine wpAnyH_ready (rs := [5, 16]) (by kernel_rfl) (by simp) ?_
        refine AllReadyH.cons rfl (fun K' hK => ?_) (AllReadyH.cons rfl (fun K' hK => ?_) AllReadyH.nil)
        ·
          have e0 := hHeld
          clear hHeld
          go_simp
          refine hK.out _ _ (by first | ((repeat (first | with_reducible assumption | with_reducible exact E0 | with_reducible apply es_dr | with_reducible apply es_al)); done) | exact es_sets8 E0 hbw (Nat.le_succ _) _ _ _ _ _ _ _ _) (fun hHeld => ?_)
          clear hK e0
          try simp only [Act.put, List.setIfInBounds_toArray, List.set_cons_zero, List.set_cons_succ]
          refine wpAnyH_take (i := 6) (oi := ?oi6x9) (v := ?v6x9) ?hi6x9 (by kernel_rfl) (by kernel_rfl) (by kernel_rfl) ?hq6x9 ?hy6x9 hHeld ?rest6x9
          case hi6x9 => ((try simp only [List.getElem?_toArray, List.getElem?_cons_succ, List.getElem?_cons_zero]); (try rfl))
          case hq6x9 => exact fun _ _ _ h => h
          case hy6x9 => exact Or.inl ⟨by rfl, by intro w hSw; clear hSw; go_simp; try with_reducible rfl⟩
          try simp only [Act.put, List.setIfInBounds_toArray, List.set_cons_zero, List.set_cons_succ]
          refine wpAnyH_take (i := 11) (oi := ?oi11x10) (v := ?v11x10) ?hi11x10 (by kernel_rfl) (by kernel_rfl) (by kernel_rfl) ?hq11x10 ?hy11x10 hHeld ?rest11x10
          case hi11x10 => ((try simp only [List.getElem?_toArray, List.getElem?_cons_succ, List.getElem?_cons_zero]); (try rfl))
          case hq11x10 => exact fun _ _ _ h => h
          case hy11x10 => exact Or.inl ⟨by rfl, by intro w hSw; clear hSw; go_simp; try with_reducible rfl⟩
          try simp only [Act.put, List.setIfInBounds_toArray, List.set_cons_zero, List.set_cons_succ]
          refine wpAnyH_ready (rs := [12, 16]) (by kernel_rfl) (by simp) ?_
          refine AllReadyH.cons rfl (fun K' hK => ?_) (AllReadyH.cons rfl (fun K' hK => ?_) AllReadyH.nil)
          ·
            have H1 := Lib.hid hHeld
            have e0 := hHeld
            clear hHeld
            go_simp
            refine (PX.out _ e0).mono ?_
            rintro e w7 ⟨rfl, hb7⟩
            obtain ⟨hc7, hf7⟩ := bcell hb7
            have hbw : Below wF.heap.size wF w7 := below_then (by (repeat (first | with_reducible exact Below.refl _ _ | with_reducible apply bel_al | with_reducible apply bel_dr))) hb7
            refine hK.out _ _ (H1.out.below hb7) (fun hHeld => ?_)
            clear hK H1 e0
            try simp only [Act.put, List.setIfInBounds_toArray, List.set_cons_zero, List.set_cons_succ]
            refine wpAnyH_take (i := 13) (oi := ?oi13x11) (v := ?v13x11) ?hi13x11 (by kernel_rfl) (by kernel_rfl) (by kernel_rfl) ?hq13x11 ?hy13x11 hHeld ?rest13x11
            case hi13x11 => ((try simp only [List.getElem?_toArray, List.getElem?_cons_succ, List.getElem?_cons_zero]); (try rfl))
            case hq13x11 => exact fun _ _ _ h => h
            case hy13x11 => exact Or.inl ⟨by rfl, by intro w hSw; clear hSw; go_simp; try with_reducible rfl⟩
            try simp only [Act.put, List.setIfInBounds_toArray, List.set_cons_zero, List.set_cons_succ]
            refine wpAnyH_take (i := 14) (oi := ?oi14x12) (v := ?v14x12) ?hi14x12 (by kernel_rfl) (by kernel_rfl) (by kernel_rfl) ?hq14x12 ?hy14x12 hHeld ?rest14x12
            case hi14x12 => ((try simp only [List.getElem?_toArray, List.getElem?_cons_succ, List.getElem?_cons_zero]); (try rfl))
            case hq14x12 => exact fun _ _ _ h => h
            case hy14x12 => exact Or.inl ⟨by rfl, by intro w hSw; clear hSw; go_simp; try with_reducible rfl⟩
            try simp only [Act.put, List.setIfInBounds_toArray, List.set_cons_zero, List.set_cons_succ]
            refine wpAnyH_take (i := 15) (oi := ?oi15x13) (v := ?v15x13) ?hi15x13 (by kernel_rfl) (by kernel_rfl) (by kernel_rfl) ?hq15x13 ?hy15x13 hHeld ?rest15x13
            case hi15x13 => ((try simp only [List.getElem?_toArray, List.getElem?_cons_succ, List.getElem?_cons_zero]); (try rfl))
            case hq15x13 => exact fun _ _ _ h => h
            case hy15x13 => exact Or.inl ⟨by rfl, by intro w hSw; clear hSw; go_simp; try with_reducible rfl⟩
            try simp only [Act.put, List.setIfInBounds_toArray, List.set_cons_zero, List.set_cons_succ]
            refine wpAnyH_ready (rs := [16]) (by kernel_rfl) (by simp) ?_
            refine AllReadyH.cons rfl (fun K' hK => ?_) AllReadyH.nil
            have e0 := hHeld
            clear hHeld
            go_simp
            refine hK.out _ _ (by first | ((repeat (first | with_reducible assumption | with_reducible exact E0 | with_reducible apply es_dr | with_reducible apply es_al)); done) | exact es_sets8 E0 hbw (Nat.le_succ _) _ _ _ _ _ _ _ _) (fun hHeld => ?_)
            clear hK e0
            try simp only [Act.put, List.setIfInBounds_toArray, List.set_cons_zero, List.set_cons_succ]
            refine wpAnyH_ready (rs := [17]) (by kernel_rfl) (by simp) ?_
            refine AllReadyH.cons rfl (fun K' hK => ?_) AllReadyH.nil
            have e0 := hHeld
            clear hHeld
            go_simp
            refine hK.out _ _ (by first | ((repeat (first | with_reducible assumption | with_reducible exact E0 | with_reducible apply es_dr | with_reducible apply es_al)); done) | exact es_sets8 E0 hbw (Nat.le_succ _) _ _ _ _ _ _ _ _) (fun hHeld => ?_)
            clear hK e0
            try simp only [Act.put, List.setIfInBounds_toArray, List.set_cons_zero, List.set_cons_succ]
            refine wpAnyH_take (i := 18) (oi := ?oi18x14) (v := ?v18x14) ?hi18x14 (by kernel_rfl) (by kernel_rfl) (by kernel_rfl) ?hq18x14 ?hy18x14 hHeld ?rest18x14
            case hi18x14 => ((try simp only [List.getElem?_toArray, List.getElem?_cons_succ, List.getElem?_cons_zero]); (try rfl))
            case hq18x14 => exact fun _ _ _ h => h
            case hy18x14 => exact Or.inl ⟨by rfl, by intro w hSw; clear hSw; go_simp; try with_reducible rfl⟩
            try simp only [Act.put, List.setIfInBounds_toArray, List.set_cons_zero, List.set_cons_succ]
            refine wpAnyH_done (by kernel_rfl) ?_ _
            clear hHeld s1 s2 t1 t2 PX E0 hcv hc7 hf7
            go_wp2_with fail
            go_ret
            exact ⟨by first | rfl | simp, by first | exact bel_al (below_then BF.out hbw) _ | exact bel_sets8 (below_then BF.out hbw) (Nat.le_succ_of_le BF.out.size) _ _ _ _ _ _ _ _ | exact bel_sets8 (below_then BF.out hbw) BF.out.size _ _ _ _ _ _ _ _⟩
          ·
            have e0 := hHeld
            clear hHeld
            go_simp
            refine hK.out _ _ (by first | ((repeat (first | with_reducible assumption | with_reducible exact E0 | with_reducible apply es_dr | with_reducible apply es_al)); done) | exact es_sets8 E0 hbw (Nat.le_succ _) _ _ _ _ _ _ _ _) (fun hHeld => ?_)
            clear hK e0
            try simp only [Act.put, List.setIfInBounds_toArray, List.set_cons_zero, List.set_cons_succ]
            refine wpAnyH_ready (rs := [12]) (by kernel_rfl) (by simp) ?_
            refine AllReadyH.cons rfl (fun K' hK => ?_) AllReadyH.nil
            have H1 := Lib.hid hHeld
            have e0 := hHeld
            clear hHeld
            go_simp
            refine (PX.out _ e0).mono ?_
            rintro e w7 ⟨rfl, hb7⟩
            obtain ⟨hc7, hf7⟩ := bcell hb7
            have hbw : Below wF.heap.size wF w7 := below_then (by (repeat (first | with_reducible exact Below.refl _ _ | with_reducible apply bel_al | with_reducible apply bel_dr))) hb7
            refine hK.out _ _ (H1.out.below hb7) (fun hHeld => ?_)
            clear hK H1 e0
            try simp only [Act.put, List.setIfInBounds_toArray, List.set_cons_zero, List.set_cons_succ]
            refine wpAnyH_take (i := 13) (oi := ?oi13x15) (v := ?v13x15) ?hi13x15 (by kernel_rfl) (by kernel_rfl) (by kernel_rfl) ?hq13x15 ?hy13x15 hHeld ?rest13x15
            case hi13x15 => ((try simp only [List.getElem?_toArray, List.getElem?_cons_succ, List.getElem?_cons_zero]); (try rfl))
            case hq13x15 => exact fun _ _ _ h => h
            case hy13x15 => exact Or.inl ⟨by rfl, by intro w hSw; clear hSw; go_simp; try with_reducible rfl⟩
            try simp only [Act.put, List.setIfInBounds_toArray, List.set_cons_zero, List.set_cons_succ]
            refine wpAnyH_take (i := 14) (oi := ?oi14x16) (v := ?v14x16) ?hi14x16 (by kernel_rfl) (by kernel_rfl) (by kernel_rfl) ?hq14x16 ?hy14x16 hHeld ?rest14x16
            case hi14x16 => ((try simp only [List.getElem?_toArray, List.getElem?_cons_succ, List.getElem?_cons_zero]); (try rfl))
            case hq14x16 => exact fun _ _ _ h => h
            case hy14x16 => exact Or.inl ⟨by rfl, by intro w hSw; clear hSw; go_simp; try with_reducible rfl⟩
            try simp only [Act.put, List.setIfInBounds_toArray, List.set_cons_zero, List.set_cons_succ]
            refine wpAnyH_take (i := 15) (oi := ?oi15x17) (v := ?v15x17) ?hi15x17 (by kernel_rfl) (by kernel_rfl) (by kernel_rfl) ?hq15x17 ?hy15x17 hHeld ?rest15x17
            case hi15x17 => ((try simp only [List.getElem?_toArray, List.getElem?_cons_succ, List.getElem?_cons_zero]); (try rfl))
            case hq15x17 => exact fun _ _ _ h => h
            case hy15x17 => exact Or.inl ⟨by rfl, by intro w hSw; clear hSw; go_simp; try with_reducible rfl⟩
            try simp only [Act.put, List.setIfInBounds_toArray, List.set_cons_zero, List.set_cons_succ]
            refine wpAnyH_ready (rs := [17]) (by kernel_rfl) (by simp) ?_
            refine AllReadyH.cons rfl (fun K' hK => ?_) AllReadyH.nil
            have e0 := hHeld
            clear hHeld
            go_simp
            refine hK.out _ _ (by first | ((repeat (first | with_reducible assumption | with_reducible exact E0 | with_reducible apply es_dr | with_reducible apply es_al)); done) | exact es_sets8 E0 hbw (Nat.le_succ _) _ _ _ _ _ _ _ _) (fun hHeld => ?_)
            clear hK e0
            try simp only [Act.put, List.setIfInBounds_toArray, List.set_cons_zero, List.set_cons_succ]
            refine wpAnyH_take (i := 18) (oi := ?oi18x18) (v := ?v18x18) ?hi18x18 (by kernel_rfl) (by kernel_rfl) (by kernel_rfl) ?hq18x18 ?hy18x18 hHeld ?rest18x18
            case hi18x18 => ((try simp only [List.getElem?_toArray, List.getElem?_cons_succ, List.getElem?_cons_zero]); (try rfl))
            case hq18x18 => exact fun _ _ _ h => h
            case hy18x18 => exact Or.inl ⟨by rfl, by intro w hSw; clear hSw; go_simp; try with_reducible rfl⟩
            try simp only [Act.put, List.setIfInBounds_toArray, List.set_cons_zero, List.set_cons_succ]
            refine wpAnyH_done (by kernel_rfl) ?_ _
            clear hHeld s1 s2 t1 t2 PX E0 hcv hc7 hf7
            obtain ⟨W, hW, BW, bW⟩ := sets8_box (box_a hb7) hbw (by omega)
            rw [hW]
            have q0 := BW.row 0 _ rfl
            have q1 := BW.row 1 _ rfl
            have q2 := BW.row 2 _ rfl
            have q3 := BW.row 3 _ rfl
            have q4 := BW.row 4 _ rfl
            have q5 := BW.row 5 _ rfl
            have q6 := BW.row 6 _ rfl
            have q7 := BW.row 7 _ rfl
            simp only [Nat.zero_add] at q0 q1 q2 q3 q4 q5 q6 q7
            have lt1 := BW.lt
            have BB := Lib.hid (below_then BF.out bW)
            clear hW bW BW hb7 hbw
            go_wp2_with fail
            go_ret
            exact ⟨rfl, BB.out⟩
        ·
          have e0 := hHeld
          clear hHeld
          go_simp
          refine hK.out _ _ (by first | ((repeat (first | with_reducible assumption | with_reducible exact E0 | with_reducible apply es_dr | with_reducible apply es_al)); done) | exact es_sets8 E0 hbw (Nat.le_succ _) _ _ _ _ _ _ _ _) (fun hHeld => ?_)
          clear hK e0
          try simp only [Act.put, List.setIfInBounds_toArray, List.set_cons_zero, List.set_cons_succ]
          refine wpAnyH_ready (rs := [5]) (by kernel_rfl) (by simp) ?_
          refine AllReadyH.cons rfl (fun K' hK => ?_) AllReadyH.nil
          have e0 := hHeld
          clear hHeld
          go_simp
          refine hK.out _ _ (by first | ((repeat (first | with_reducible assumption | with_reducible exact E0 | with_reducible apply es_dr | with_reducible apply es_al)); done) | exact es_sets8 E0 hbw (Nat.le_succ _) _ _ _ _ _ _ _ _) (fun hHeld => ?_)
          clear hK e0
          try simp only [Act.put, List.setIfInBounds_toArray, List.set_cons_zero, List.set_cons_succ]
          refine wpAnyH_take (i := 6) (oi := ?oi6x19) (v := ?v6x19) ?hi6x19 (by kernel_rfl) (by kernel_rfl) (by kernel_rfl) ?hq6x19 ?hy6x19 hHeld ?rest6x19
          case hi6x19 => ((try simp only [List.getElem?_toArray, List.getElem?_cons_succ, List.getElem?_cons_zero]); (try rfl))
          case hq6x19 => exact fun _ _ _ h => h
          case hy6x19 => exact Or.inl ⟨by rfl, by intro w hSw; clear hSw; go_simp; try with_reducible rfl⟩
          try simp only [Act.put, List.setIfInBounds_toArray, List.set_cons_zero, List.set_cons_succ]
          refine wpAnyH_take (i := 11) (oi := ?oi11x20) (v := ?v11x20) ?hi11x20 (by kernel_rfl) (by kernel_rfl) (by kernel_rfl) ?hq11x20 ?hy11x20 hHeld ?rest11x20
          case hi11x20 => ((try simp only [List.getElem?_toArray, List.getElem?_cons_succ, List.getElem?_cons_zero]); (try rfl))
          case hq11x20 => exact fun _ _ _ h => h
          case hy11x20 => exact Or.inl ⟨by rfl, by intro w hSw; clear hSw; go_simp; try with_reducible rfl⟩
          try simp only [Act.put, List.setIfInBounds_toArray, List.set_cons_zero, List.set_cons_succ]
          refine wpAnyH_ready (rs := [12]) (by kernel_rfl) (by simp) ?_
          refine AllReadyH.cons rfl (fun K' hK => ?_) AllReadyH.nil
          have H1 := Lib.hid hHeld
          have e0 := hHeld
          clear hHeld
          go_simp
          refine (PX.out _ e0).mono ?_
          rintro e w7 ⟨rfl, hb7⟩
          obtain ⟨hc7, hf7⟩ := bcell hb7
          have hbw : Below wF.heap.size wF w7 := below_then (by (repeat (first | with_reducible exact Below.refl _ _ | with_reducible apply bel_al | with_reducible apply bel_dr))) hb7
          refine hK.out _ _ (H1.out.below hb7) (fun hHeld => ?_)
          clear hK H1 e0
          try simp only [Act.put, List.setIfInBounds_toArray, List.set_cons_zero, List.set_cons_succ]
          refine wpAnyH_take (i := 13) (oi := ?oi13x21) (v := ?v13x21) ?hi13x21 (by kernel_rfl) (by kernel_rfl) (by kernel_rfl) ?hq13x21 ?hy13x21 hHeld ?rest13x21
          case hi13x21 => ((try simp only [List.getElem?_toArray, List.getElem?_cons_succ, List.getElem?_cons_zero]); (try rfl))
          case hq13x21 => exact fun _ _ _ h => h
          case hy13x21 => exact Or.inl ⟨by rfl, by intro w hSw; clear hSw; go_simp; try with_reducible rfl⟩
          try simp only [Act.put, List.setIfInBounds_toArray, List.set_cons_zero, List.set_cons_succ]
          refine wpAnyH_take (i := 14) (oi := ?oi14x22) (v := ?v14x22) ?hi14x22 (by kernel_rfl) (by kernel_rfl) (by kernel_rfl) ?hq14x22 ?hy14x22 hHeld ?rest14x22
          case hi14x22 => ((try simp only [List.getElem?_toArray, List.getElem?_cons_succ, List.getElem?_cons_zero]); (try rfl))
          case hq14x22 => exact fun _ _ _ h => h
          case hy14x22 => exact Or.inl ⟨by rfl, by intro w hSw; clear hSw; go_simp; try with_reducible rfl⟩
          try simp only [Act.put, List.setIfInBounds_toArray, List.set_cons_zero, List.set_cons_succ]
          refine wpAnyH_take (i := 15) (oi := ?oi15x23) (v := ?v15x23) ?hi15x23 (by kernel_rfl) (by kernel_rfl) (by kernel_rfl) ?hq15x23 ?hy15x23 hHeld ?rest15x23
          case hi15x23 => ((try simp only [List.getElem?_toArray, List.getElem?_cons_succ, List.getElem?_cons_zero]); (try rfl))
          case hq15x23 => exact fun _ _ _ h => h
          case hy15x23 => exact Or.inl ⟨by rfl, by intro w hSw; clear hSw; go_simp; try with_reducible rfl⟩
          try simp only [Act.put, List.setIfInBounds_toArray, List.set_cons_zero, List.set_cons_succ]
          refine wpAnyH_ready (rs := [17]) (by kernel_rfl) (by simp) ?_
          refine AllReadyH.cons rfl (fun K' hK => ?_) AllReadyH.nil
          have e0 := hHeld
          clear hHeld
          go_simp
          refine hK.out _ _ (by first | ((repeat (first | with_reducible assumption | with_reducible exact E0 | with_reducible apply es_dr | with_reducible apply es_al)); done) | exact es_sets8 E0 hbw (Nat.le_succ _) _ _ _ _ _ _ _ _) (fun hHeld => ?_)
          clear hK e0
          try simp only [Act.put, List.setIfInBounds_toArray, List.set_cons_zero, List.set_cons_succ]
          refine wpAnyH_take (i := 18) (oi := ?oi18x24) (v := ?v18x24) ?hi18x24 (by kernel_rfl) (by kernel_rfl) (by kernel_rfl) ?hq18x24 ?hy18x24 hHeld ?rest18x24
          case hi18x24 => ((try simp only [List.getElem?_toArray, List.getElem?_cons_succ, List.getElem?_cons_zero]); (try rfl))
          case hq18x24 => exact fun _ _ _ h => h
          case hy18x24 => exact Or.inl ⟨by rfl, by intro w hSw; clear hSw; go_simp; try with_reducible rfl⟩
          try simp only [Act.put, List.setIfInBounds_toArray, List.set_cons_zero, List.set_cons_succ]
          refine wpAnyH_done (by kernel_rfl) ?_ _
          clear hHeld s1 s2 t1 t2 PX E0 hcv hc7 hf7
          obtain ⟨W, hW, BW, bW⟩ := sets8_box (box_a hb7) hbw (by omega)
          rw [hW]
          have q0 := BW.row 0 _ rfl
          have q1 := BW.row 1 _ rfl
          have q2 := BW.row 2 _ rfl
          have q3 := BW.row 3 _ rfl
          have q4 := BW.row 4 _ rfl
          have q5 := BW.row 5 _ rfl
          have q6 := BW.row 6 _ rfl
          have q7 := BW.row 7 _ rfl
          simp only [Nat.zero_add] at q0 q1 q2 q3 q4 q5 q6 q7
          have lt1 := BW.lt
          have BB := Lib.hid (below_then BF.out bW)
          clear hW bW BW hb7 hbw
          go_wp2_with fail
          go_ret
          exact ⟨rfl, BB.out⟩
      ·
        have e0 := hHeld
        clear hHeld
        go_simp
        refine hK.out _ _ (by first | ((repeat (first | with_reducible assumption | with_reducible exact E0 | with_reducible apply es_dr | with_reducible apply es_al)); done) | exact es_sets8 E0 hbw (Nat.le_succ _) _ _ _ _ _ _ _ _) (fun hHeld => ?_)
        clear hK e0
        try simp only [Act.put, List.setIfInBounds_toArray, List.set_cons_zero, List.set_cons_succ]
        refine wpAnyH_ready (rs := [4]) (by kernel_rfl) (by simp) ?_
        refine AllReadyH.cons rfl (fun K' hK => ?_) AllReadyH.nil
        have e0 := hHeld
        clear hHeld
        go_simp
        refine hK.out _ _ (by first | ((repeat (first | with_reducible assumption | with_reducible exact E0 | with_reducible apply es_dr | with_reducible apply es_al)); done) | exact es_sets8 E0 hbw (Nat.le_refl _) _ _ _ _ _ _ _ _) (fun hHeld => ?_)
        clear hK e0
        try simp only [Act.put, List.setIfInBounds_toArray, List.set_cons_zero, List.set_cons_succ]
        refine wpAnyH_ready (rs := [5]) (by kernel_rfl) (by simp) ?_
        refine AllReadyH.cons rfl (fun K' hK => ?_) AllReadyH.nil
        have e0 := hHeld
        clear hHeld
        go_simp
        refine hK.out _ _ (by first | ((repeat (first | with_reducible assumption | with_reducible exact E0 | with_reducible apply es_dr | with_reducible apply es_al)); done) | exact es_sets8 E0 hbw (Nat.le_refl _) _ _ _ _ _ _ _ _) (fun hHeld => ?_)
        clear hK e0
        try simp only [Act.put, List.setIfInBounds_toArray, List.set_cons_zero, List.set_cons_succ]
        refine wpAnyH_take (i := 6) (oi := ?oi6x25) (v := ?v6x25) ?hi6x25 (by kernel_rfl) (by kernel_rfl) (by kernel_rfl) ?hq6x25 ?hy6x25 hHeld ?rest6x25
        case hi6x25 => ((try simp only [List.getElem?_toArray, List.getElem?_cons_succ, List.getElem?_cons_zero]); (try rfl))
        case hq6x25 => exact fun _ _ _ h => h
        case hy6x25 => exact Or.inl ⟨by rfl, by intro w hSw; clear hSw; go_simp; try with_reducible rfl⟩
        try simp only [Act.put, List.setIfInBounds_toArray, List.set_cons_zero, List.set_cons_succ]
        refine wpAnyH_take (i := 11) (oi := ?oi11x26) (v := ?v11x26) ?hi11x26 (by kernel_rfl) (by kernel_rfl) (by kernel_rfl) ?hq11x26 ?hy11x26 hHeld ?rest11x26
        case hi11x26 => ((try simp only [List.getElem?_toArray, List.getElem?_cons_succ, List.getElem?_cons_zero]); (try rfl))
        case hq11x26 => exact fun _ _ _ h => h
        case hy11x26 => exact Or.inl ⟨by rfl, by intro w hSw; clear hSw; go_simp; try with_reducible rfl⟩
        try simp only [Act.put, List.setIfInBounds_toArray, List.set_cons_zero, List.set_cons_succ]
        refine wpAnyH_ready (rs := [12]) (by kernel_rfl) (by simp) ?_
        refine AllReadyH.cons rfl (fun K' hK => ?_) AllReadyH.nil
        have H1 := Lib.hid hHeld
        have e0 := hHeld
        clear hHeld
        go_simp
        refine (PX.out _ e0).mono ?_
        rintro e w7 ⟨rfl, hb7⟩
        obtain ⟨hc7, hf7⟩ := bcell hb7
        have hbw : Below wF.heap.size wF w7 := below_then (by (repeat (first | with_reducible exact Below.refl _ _ | with_reducible apply bel_al | with_reducible apply bel_dr))) hb7
        refine hK.out _ _ (H1.out.below hb7) (fun hHeld => ?_)
        clear hK H1 e0
        try simp only [Act.put, List.setIfInBounds_toArray, List.set_cons_zero, List.set_cons_succ]
        refine wpAnyH_take (i := 13) (oi := ?oi13x27) (v := ?v13x27) ?hi13x27 (by kernel_rfl) (by kernel_rfl) (by kernel_rfl) ?hq13x27 ?hy13x27 hHeld ?rest13x27
        case hi13x27 => ((try simp only [List.getElem?_toArray, List.getElem?_cons_succ, List.getElem?_cons_zero]); (try rfl))
        case hq13x27 => exact fun _ _ _ h => h
        case hy13x27 => exact Or.inl ⟨by rfl, by intro w hSw; clear hSw; go_simp; try with_reducible rfl⟩
        try simp only [Act.put, List.setIfInBounds_toArray, List.set_cons_zero, List.set_cons_succ]
        refine wpAnyH_take (i := 14) (oi := ?oi14x28) (v := ?v14x28) ?hi14x28 (by kernel_rfl) (by kernel_rfl) (by kernel_rfl) ?hq14x28 ?hy14x28 hHeld ?rest14x28
        case hi14x28 => ((try simp only [List.getElem?_toArray, List.getElem?_cons_succ, List.getElem?_cons_zero]); (try rfl))
        case hq14x28 => exact fun _ _ _ h => h
        case hy14x28 => exact Or.inl ⟨by rfl, by intro w hSw; clear hSw; go_simp; try with_reducible rfl⟩
        try simp only [Act.put, List.setIfInBounds_toArray, List.set_cons_zero, List.set_cons_succ]
        refine wpAnyH_take (i := 15) (oi := ?oi15x29) (v := ?v15x29) ?hi15x29 (by kernel_rfl) (by kernel_rfl) (by kernel_rfl) ?hq15x29 ?hy15x29 hHeld ?rest15x29
        case hi15x29 => ((try simp only [List.getElem?_toArray, List.getElem?_cons_succ, List.getElem?_cons_zero]); (try rfl))
        case hq15x29 => exact fun _ _ _ h => h
        case hy15x29 => exact Or.inl ⟨by rfl, by intro w hSw; clear hSw; go_simp; try with_reducible rfl⟩
        try simp only [Act.put, List.setIfInBounds_toArray, List.set_cons_zero, List.set_cons_succ]
        refine wpAnyH_ready (rs := [17]) (by kernel_rfl) (by simp) ?_
        refine AllReadyH.cons rfl (fun K' hK => ?_) AllReadyH.nil
        have e0 := hHeld
        clear hHeld
        go_simp
        refine hK.out _ _ (by first | ((repeat (first | with_reducible assumption | with_reducible exact E0 | with_reducible apply es_dr | with_reducible apply es_al)); done) | exact es_sets8 E0 hbw (Nat.le_refl _) _ _ _ _ _ _ _ _) (fun hHeld => ?_)
        clear hK e0
        try simp only [Act.put, List.setIfInBounds_toArray, List.set_cons_zero, List.set_cons_succ]
        refine wpAnyH_take (i := 18) (oi := ?oi18x30) (v := ?v18x30) ?hi18x30 (by kernel_rfl) (by kernel_rfl) (by kernel_rfl) ?hq18x30 ?hy18x30 hHeld ?rest18x30
        case hi18x30 => ((try simp only [List.getElem?_toArray, List.getElem?_cons_succ, List.getElem?_cons_zero]); (try rfl))
        case hq18x30 => exact fun _ _ _ h => h
        case hy18x30 => exact Or.inl ⟨by rfl, by intro w hSw; clear hSw; go_simp; try with_reducible rfl⟩
        try simp only [Act.put, List.setIfInBounds_toArray, List.set_cons_zero, List.set_cons_succ]
        refine wpAnyH_done (by kernel_rfl) ?_ _
        clear hHeld s1 s2 t1 t2 PX E0 hcv hc7 hf7
        obtain ⟨W, hW, BW, bW⟩ := sets8_box (box_b hb7) hbw (by omega)
        rw [hW]
        have q0 := BW.row 0 _ rfl
        have q1 := BW.row 1 _ rfl
        have q2 := BW.row 2 _ rfl
        have q3 := BW.row 3 _ rfl
        have q4 := BW.row 4 _ rfl
        have q5 := BW.row 5 _ rfl
        have q6 := BW.row 6 _ rfl
        have q7 := BW.row 7 _ rfl
        simp only [Nat.zero_add] at q0 q1 q2 q3 q4 q5 q6 q7
        have lt1 := BW.lt
        have BB := Lib.hid (below_then BF.out bW)
        clear hW bW BW hb7 hbw
        go_wp2_with fail
        go_ret
        exact ⟨rfl, BB.out⟩
    · go_wp2_with fail
      go_ret
      exact ⟨rfl, X6.out.below⟩
theorem obsblank_any (o : Ob) (at_ c : Int) (w : World) (hT : Gt.Tab w) (hE : ES w) (hb : OB o) (c0 : 0 ≤ c) (c1 : c ≤ 255) : Calls Tryz.prog 5 #[obsV o, .int .i64 at_, .int .u8 c] w fun e w' => e = .returned (.bool true) ∧ Below w.heap.size w w' := by
  by_cases h : longP o ∨ ¬ okO o
  · exact blank_bad o at_ c w hT hE hb h
  · by_cases ok : okO o
    · have nl : ¬ longP o := fun g => h (Or.inl g)
      by_cases no : at_ < 0 ∨ 80 ≤ at_ ∨ c = 32
      · exact blank_arg o at_ c w hT hE hb ok nl no
      · obtain ⟨a, rfl⟩ : ∃ a : Nat, at_ = a := ⟨at_.toNat, by omega⟩
        obtain ⟨u, hu⟩ : ∃ u : UInt8, (u.toNat : Int) = c := ⟨UInt8.ofNat c.toNat, by rw [UInt8.toNat_ofNat', Nat.mod_eq_of_lt (show c.toNat < 2 ^ 8 by omega)]; omega⟩
        rw [← hu]
        exact blank_main o a u w hT hE hb ok nl (by omega) (fun e => no (Or.inr (Or.inr (by rw [← hu, e]; rfl))))
    · exact absurd (Or.inr ok) h
end Ow
end Go.Proofs.YtgodhaphbgllhaaGreatDoor
