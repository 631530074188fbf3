/-
  Lemmas and walks, texts joined: DText, DDig, DDig2, DRef1, DRText, KPl, KRot, KRow, KChk, KWr.
-/
import Derived.Deep.RegionHeld3
import Derived.WalkKit
import Derived.Lib.Hide
import Derived.Laws.BitsAllLaws
import Derived.Deep.MidRow
import Derived.Laws.IdiomCopy
import Derived.Below
import Derived.Test.YtafeigpmldgifaaDoorKt02
import Derived.Test.YtafeigpmldgifaaDoorKt01
import Derived.Test.YtafeigpmldgifaaDoorRows
set_option linter.unusedSimpArgs false
set_option linter.unusedVariables false
/-
  Text of package desig.
-/
namespace Go.Proofs.YtafeigpmldgifaaDoor
namespace Dw
open Go.RowKit Dp Lw

/-- What a drawn region of calls that make texts needs of memory. -/
structure TS (w w' : World) : Prop where
  tab : Tb w'
  below : Below w.heap.size w w'
  lt : w.heap.size < w'.heap.size
theorem TS.call {w a b : World} (h : TS w a) (hb : Below a.heap.size a b) : TS w b := ⟨h.tab.below hb, below_then h.below hb, Nat.lt_of_lt_of_le h.lt hb.size⟩
theorem TS.drew {w a : World} (h : TS w a) : TS w a.drew := h.call ((Below.refl _ a).drew)
theorem TS.drewN {w a : World} (h : TS w a) (n : Nat) : TS w (a.drewN n) := h.call (drewN_below2 (Below.refl _ a) n)
theorem TS.alloc {w a : World} (h : TS w a) (o : Obj) : TS w (a.alloc o) := h.call ((Below.refl _ a).alloc (Nat.le_refl _) _)
theorem TS.box {w : World} (h : Tb w) (o : Obj) : TS w (w.alloc o) := ⟨h.below ((Below.refl _ w).alloc (Nat.le_refl _) _), (Below.refl _ w).alloc (Nat.le_refl _) _, by simp⟩
theorem wpAnyH_mono {P : Program} {md : Region.Mode} {ops : Array Oper} {Q : Exit → Act → World → Prop} {S S' : World → Prop} (hs : ∀ w, S' w → S w) :
    ∀ (fuel : Nat) (listed : Array Bool) (a : Act) (w : World), wpAnyH P md ops Q S' fuel listed a w → wpAnyH P md ops Q S fuel listed a w
  | 0, _, _, _, h => h
  | fuel + 1, _, _, _, h => ⟨h.1, fun i hi => wpOp_mono (fun a' w' h' => ⟨hs _ h'.1, wpAnyH_mono hs fuel _ a' w' h'.2⟩) (h.2 i hi)⟩
def TextOk (n y h s c : Int) (w : World) (e : Ending) (w' : World) : Prop := e = .returned (.tuple #[.string ⟨(textG ⟨n, y, h, s, c⟩).toArray⟩, .int .i64 0]) ∧ Below w.heap.size w w'
def TextNo (w : World) (e : Ending) (w' : World) : Prop := e = .returned (.tuple #[.string ⟨#[]⟩, .int .i64 8]) ∧ Below w.heap.size w w'
set_option maxRecDepth 100000 in
set_option maxHeartbeats 4000000 in
theorem text_no (n y h s c : Int) (w : World) (hT : Tb w) (h0 : 0 ≤ h) (h1 : h < 256) (s0 : 0 ≤ s) (s1 : s < 256) (g : ¬ okD n y h s c) :
    Calls Tryd.prog 35 #[desigV n y h s c] w (TextNo w) := by
  have C := Lib.hid (check_any n y h s c (w.alloc (.cells (desigC n y h s c).toArray 50)) (hT.ord.alloc _) h0 h1 s0 s1)
  rw [errC_no g] at C
  have r1 := rangeAt_new w (desigC n y h s c) 50
  have hb0 : Below w.heap.size w (w.alloc (.cells (desigC n y h s c).toArray 50)) := (Below.refl w.heap.size w).alloc (Nat.le_refl _) _
  clear g hT
  go_enter Tryd.func35, Tryd.ntmps35
  go_wp2_with (refine wpList_load_mid rfl _ (.tmp 1) rfl w.heap.size 0 rfl (desigC n y h s c) _ r1 Tryd.underlying50 rfl info5d ?_)
  go_at_call 50
  refine C.out.mono ?_
  rintro e w1 ⟨rfl, hb1⟩
  have hB := below_then hb0 hb1
  clear C r1 hb0 hb1
  go_wp2_with fail
  go_ret2
  exact ⟨rfl, hB⟩
set_option maxRecDepth 100000 in
set_option maxHeartbeats 4000000 in
theorem text_num (n y h s c : Int) (w : World) (hT : Tb w) (h0 : 0 ≤ h) (h1 : h < 256) (s0 : 0 ≤ s) (s1 : s < 256) (g : okD n y h s c) (hn : 0 < n) :
    Calls Tryd.prog 35 #[desigV n y h s c] w (TextOk n y h s c w) := by
  have C := Lib.hid (check_any n y h s c (w.alloc (.cells (desigC n y h s c).toArray 50)) (hT.ord.alloc _) h0 h1 s0 s1)
  rw [errC_ok g] at C
  have hbd := okD_bd g
  have I := Lib.hid (fun w' (hw : Tb w') => itoa_any n w' hw (by omega) (by omega))
  have F := Lib.hid (show textG ⟨n, y, h, s, c⟩ = Lib.itoa n from if_pos hn)
  have r1 := rangeAt_new w (desigC n y h s c) 50
  have hts := TS.box hT (.cells (desigC n y h s c).toArray 50)
  clear g hT hbd
  go_enter Tryd.func35, Tryd.ntmps35
  go_wp2_with (refine wpList_load_mid rfl _ (.tmp 1) rfl w.heap.size 0 rfl (desigC n y h s c) _ r1 Tryd.underlying50 rfl info5d ?_)
  go_at_call 50
  refine C.out.mono ?_
  rintro e w1 ⟨rfl, hb1⟩
  have ht1 := hts.call hb1
  have k0 : w1.cell? ⟨w.heap.size, 0, none⟩ = some (.int .i64 n) := rangeAt_below r1 hb1 (by simp) 0 _ rfl
  clear C r1 hts hb1
  go_wp2_with fail
  go_at_call 36
  refine (I.out _ ht1.tab).mono ?_
  rintro e w2 ⟨rfl, hb2⟩
  have ht2 := ht1.call hb2
  clear I hb2 ht1
  go_wp2_with fail
  go_ret2
  exact ⟨by rw [F.out]; rfl, ht2.below⟩
set_option maxRecDepth 100000 in
set_option maxHeartbeats 4000000 in
theorem text_prov (n y h s c : Int) (w : World) (hT : Tb w) (h0 : 0 ≤ h) (h1 : h < 256) (s0 : 0 ≤ s) (s1 : s < 256) (g : okD n y h s c) (hn : n = 0) :
    Calls Tryd.prog 35 #[desigV n y h s c] w (TextOk n y h s c w) := by
  subst hn
  have C := Lib.hid (check_any 0 y h s c (w.alloc (.cells (desigC 0 y h s c).toArray 50)) (hT.ord.alloc _) h0 h1 s0 s1)
  rw [errC_ok g] at C
  have hy : 1800 ≤ y ∧ y ≤ 2099 ∧ 0 ≤ c ∧ c ≤ 619 := by unfold okD at g; omega
  obtain ⟨y0, y1, c0, c1⟩ := hy
  have I := Lib.hid (fun w' (hw : TS w w') => itoa_any y w' hw.tab (by omega) (by omega))
  have IC := Lib.hid (fun w' (hw : TS w w') => itoa_any c w' hw.tab (by omega) (by omega))
  have F : textG ⟨0, y, h, s, c⟩ = Lib.itoa y ++ [32] ++ [b8 h, b8 s] ++ (if 0 < c then Lib.itoa c else []) := by
    rw [List.append_assoc (Lib.itoa y)]
    exact if_neg (by simp)
  have ly := Lib.itoa_length_le y (by omega) (by omega)
  have lc := Lib.itoa_length_le c (by omega) (by omega)
  generalize Lib.itoa y = Y at *
  generalize Lib.itoa c = K at *
  have F1 := Lib.hid (fun hc : 0 < c => show textG ⟨0, y, h, s, c⟩ = Y ++ 32 :: b8 h :: b8 s :: K by rw [F, if_pos hc]; simp)
  have F2 := Lib.hid (fun hc : c ≤ 0 => show textG ⟨0, y, h, s, c⟩ = Y ++ [32, b8 h, b8 s] by rw [F, if_neg (by omega)]; simp)
  clear F
  have z4 : (⟨(Y ++ [32, b8 h, b8 s]).toArray⟩ : ByteArray).size + (⟨K.toArray⟩ : ByteArray).size ≤ 9223372036854775807 := by rw [size_mk, size_mk, List.length_append]; simp only [List.length_cons, List.length_nil]; omega
  have a4 : ∀ w' : World, (Op.stringOp .add (⟨(Y ++ [32, b8 h, b8 s]).toArray⟩ : ByteArray) ⟨K.toArray⟩).run Tryd.prog w' = .ok (.string ⟨(Y ++ [32, b8 h, b8 s] ++ K).toArray⟩) w' := fun w' => by rw [run_string_add_sum (P := Tryd.prog) (w := w') _ _ z4, str_app]
  clear z4
  have r1 := rangeAt_new w (desigC 0 y h s c) 50
  have hts := TS.box hT (.cells (desigC 0 y h s c).toArray 50)
  have sa := str_app Y [32]
  have sb := str_app (Y ++ [32]) [b8 h, b8 s]
  have z1 : (⟨Y.toArray⟩ : ByteArray).size + (⟨#[32]⟩ : ByteArray).size ≤ 9223372036854775807 := by rw [size_mk Y]; show Y.length + 1 ≤ _; omega
  have z2 : (⟨(Y ++ [32]).toArray⟩ : ByteArray).size + (⟨[b8 h, b8 s].toArray⟩ : ByteArray).size ≤ 9223372036854775807 := by rw [size_mk, size_mk, List.length_append]; simp only [List.length_cons, List.length_nil]; omega
  have a2 : ∀ w' : World, (Op.stringOp .add (⟨Y.toArray⟩ : ByteArray) ⟨#[32]⟩).run Tryd.prog w' = .ok (.string ⟨(Y ++ [32]).toArray⟩) w' := fun w' => by rw [run_string_add_sum (P := Tryd.prog) (w := w') _ _ z1]; exact congrArg (fun x => Result.ok (Value.string x) w') sa
  have a3 : ∀ w' : World, (Op.stringOp .add (⟨(Y ++ [32]).toArray⟩ : ByteArray) ⟨[b8 h, b8 s].toArray⟩).run Tryd.prog w' = .ok (.string ⟨(Y ++ [32] ++ [b8 h, b8 s]).toArray⟩) w' := fun w' => by rw [run_string_add_sum (P := Tryd.prog) (w := w') _ _ z2, sb]
  have cvg := fun (W : World) (b : Nat) (g0 : W.cell? ⟨b, 0, none⟩ = some (.int .u8 h)) (g1 : W.cell? ⟨b, 1, none⟩ = some (.int .u8 s)) => conv2 W h s 2 h0 h1 s0 s1 b g0 g1
  have cv := fun (W : World) => conv2 (W.alloc (.cells #[.int .u8 h, .int .u8 s] 5)) h s 2 h0 h1 s0 s1 W.heap.size (World.cell?_alloc_mark W _ _ _ 0) (World.cell?_alloc_mark W _ _ _ 1)
  have cvd := fun (W : World) => conv2 (W.alloc (.cells #[.int .u8 h, .int .u8 s] 5)).drew h s 2 h0 h1 s0 s1 W.heap.size (World.cell?_alloc_mark W _ _ _ 0) (World.cell?_alloc_mark W _ _ _ 1)
  clear g hT z1 z2 sa sb
  go_enter Tryd.func35, Tryd.ntmps35
  go_wp2_with (refine wpList_load_mid rfl _ (.tmp 1) rfl w.heap.size 0 rfl (desigC 0 y h s c) _ r1 Tryd.underlying50 rfl info5d ?_)
  go_at_call 50
  refine C.out.mono ?_
  rintro e w1 ⟨rfl, hb1⟩
  have ht1 := hts.call hb1
  have k0 : w1.cell? ⟨w.heap.size, 0, none⟩ = some (.int .i64 0) := rangeAt_below r1 hb1 (by simp) 0 _ rfl
  have k1 : w1.cell? ⟨w.heap.size, 1, none⟩ = some (.int .i64 y) := rangeAt_below r1 hb1 (by simp) 1 _ rfl
  have k2 : w1.cell? ⟨w.heap.size, 2, none⟩ = some (.int .u8 h) := rangeAt_below r1 hb1 (by simp) 2 _ rfl
  have k3 : w1.cell? ⟨w.heap.size, 3, none⟩ = some (.int .u8 s) := rangeAt_below r1 hb1 (by simp) 3 _ rfl
  have k4 : w1.cell? ⟨w.heap.size, 4, none⟩ = some (.int .i64 c) := rangeAt_below r1 hb1 (by simp) 4 _ rfl
  have ht1d := ht1.drew
  have lt1 := ht1.lt
  have I0 := I.out w1.drew ht1.drew
  have I0 : Calls Tryd.prog 36 #[.int .i64 y] w1.drew fun e w2 => e = .returned (.string ⟨Y.toArray⟩) ∧ TS w w2 ∧ w2.cell? ⟨w.heap.size, 1, none⟩ = some (.int .i64 y) ∧ w2.cell? ⟨w.heap.size, 2, none⟩ = some (.int .u8 h) ∧ w2.cell? ⟨w.heap.size, 3, none⟩ = some (.int .u8 s) ∧ w2.cell? ⟨w.heap.size, 4, none⟩ = some (.int .i64 c) :=
    I0.mono fun e w2 ⟨he, hb⟩ => ⟨he, ht1.drew.call hb, (hb.cell (p := ⟨w.heap.size, 1, none⟩) lt1).trans k1, (hb.cell (p := ⟨w.heap.size, 2, none⟩) lt1).trans k2, (hb.cell (p := ⟨w.heap.size, 3, none⟩) lt1).trans k3, (hb.cell (p := ⟨w.heap.size, 4, none⟩) lt1).trans k4⟩
  have I1 := I.out (w1.alloc (.cells #[.int .u8 h, .int .u8 s] 5)).drew (ht1.alloc _).drew
  have lt2 : w.heap.size < (w1.alloc (.cells #[.int .u8 h, .int .u8 s] 5)).drew.heap.size := (ht1.alloc _).drew.lt
  have lt3 : w1.heap.size < (w1.alloc (.cells #[.int .u8 h, .int .u8 s] 5)).drew.heap.size := by show _ < (w1.alloc _).heap.size; simp
  have qa : ∀ j o, j < 5 → (w1.alloc o).drew.cell? ⟨w.heap.size, j, none⟩ = w1.cell? ⟨w.heap.size, j, none⟩ := fun j o _ => World.cell?_alloc_past o _ _ lt1
  have I1 : Calls Tryd.prog 36 #[.int .i64 y] (w1.alloc (.cells #[.int .u8 h, .int .u8 s] 5)).drew fun e w' => e = .returned (.string ⟨Y.toArray⟩) ∧ TS w w' ∧ w'.cell? ⟨w.heap.size, 1, none⟩ = some (.int .i64 y) ∧ w'.cell? ⟨w.heap.size, 2, none⟩ = some (.int .u8 h) ∧ w'.cell? ⟨w.heap.size, 3, none⟩ = some (.int .u8 s) ∧ w'.cell? ⟨w.heap.size, 4, none⟩ = some (.int .i64 c) ∧ w'.cell? ⟨w1.heap.size, 0, none⟩ = some (.int .u8 h) ∧ w'.cell? ⟨w1.heap.size, 1, none⟩ = some (.int .u8 s) :=
    I1.mono fun e w2 ⟨he, hb⟩ => ⟨he, (ht1.alloc _).drew.call hb, (hb.cell (p := ⟨w.heap.size, 1, none⟩) lt2).trans ((qa 1 _ (by omega)).trans k1), (hb.cell (p := ⟨w.heap.size, 2, none⟩) lt2).trans ((qa 2 _ (by omega)).trans k2), (hb.cell (p := ⟨w.heap.size, 3, none⟩) lt2).trans ((qa 3 _ (by omega)).trans k3), (hb.cell (p := ⟨w.heap.size, 4, none⟩) lt2).trans ((qa 4 _ (by omega)).trans k4), (hb.cell (p := ⟨w1.heap.size, 0, none⟩) lt3).trans (World.cell?_alloc_mark w1 _ _ _ 0), (hb.cell (p := ⟨w1.heap.size, 1, none⟩) lt3).trans (World.cell?_alloc_mark w1 _ _ _ 1)⟩
  clear qa
  clear C r1 hts hb1 I
  go_wp2_with fail
  refine wp_region_held_drew (S := fun w' => TS w w' ∧ w'.cell? ⟨w.heap.size, 1, none⟩ = some (.int .i64 y) ∧ w'.cell? ⟨w.heap.size, 2, none⟩ = some (.int .u8 h) ∧ w'.cell? ⟨w.heap.size, 3, none⟩ = some (.int .u8 s) ∧ w'.cell? ⟨w.heap.size, 4, none⟩ = some (.int .i64 c)) (by kernel_rfl) ⟨ht1d, k1, k2, k3, k4⟩ (fun hHeld => ?_)
  refine wpAnyH_take (i := 0) (v := ?_) rfl (by kernel_rfl) (by kernel_rfl) (by kernel_rfl) (fun _ _ _ h => h) (Or.inl ⟨by rfl, ?_⟩) (by assumption) ?_
  rotate_left
  · (intro w hSw; (try dsimp only at hSw); go_simp; try with_reducible rfl)
  try simp only [Act.put, List.setIfInBounds_toArray, List.set_cons_zero, List.set_cons_succ]
  refine wpAnyH_take (i := 1) (v := ?_) rfl (by kernel_rfl) (by kernel_rfl) (by kernel_rfl) (fun _ _ _ h => h) (Or.inl ⟨by rfl, ?_⟩) (by assumption) ?_
  rotate_left
  · (intro w hSw; (try dsimp only at hSw); go_simp; try with_reducible rfl)
  try simp only [Act.put, List.setIfInBounds_toArray, List.set_cons_zero, List.set_cons_succ]
  refine wpAnyH_take (i := 4) (v := ?_) rfl (by kernel_rfl) (by kernel_rfl) (by kernel_rfl) (fun _ _ _ h => h) (Or.inl ⟨by rfl, ?_⟩) (by assumption) ?_
  rotate_left
  · (intro w hSw; (try dsimp only at hSw); go_simp; try with_reducible rfl)
  try simp only [Act.put, List.setIfInBounds_toArray, List.set_cons_zero, List.set_cons_succ]
  refine wpAnyH_take (i := 5) (v := ?_) rfl (by kernel_rfl) (by kernel_rfl) (by kernel_rfl) (fun _ _ _ h => h) (Or.inl ⟨by rfl, ?_⟩) (by assumption) ?_
  rotate_left
  · (intro w hSw; (try dsimp only at hSw); go_simp; try with_reducible rfl)
  try simp only [Act.put, List.setIfInBounds_toArray, List.set_cons_zero, List.set_cons_succ]
  refine wpAnyH_take (i := 6) (v := ?_) rfl (by kernel_rfl) (by kernel_rfl) (by kernel_rfl) (fun _ _ _ h => h) (Or.inl ⟨by rfl, ?_⟩) (by assumption) ?_
  rotate_left
  · (intro w hSw; (try dsimp only at hSw); go_simp; try with_reducible rfl)
  try simp only [Act.put, List.setIfInBounds_toArray, List.set_cons_zero, List.set_cons_succ]
  refine wpAnyH_take (i := 7) (v := ?_) rfl (by kernel_rfl) (by kernel_rfl) (by kernel_rfl) (fun _ _ _ h => h) (Or.inl ⟨by rfl, ?_⟩) (by assumption) ?_
  rotate_left
  · (intro w hSw; (try dsimp only at hSw); go_simp; try with_reducible rfl)
  try simp only [Act.put, List.setIfInBounds_toArray, List.set_cons_zero, List.set_cons_succ]
  refine wpAnyH_ready (rs := [2, 8]) (by kernel_rfl) (by simp) ?_
  refine AllReadyH.cons rfl (fun K' hK => ?_) (AllReadyH.cons rfl (fun K' hK => ?_) AllReadyH.nil)
  · go_simp
    refine I0.mono ?_
    rintro e w2 ⟨rfl, ht2, q1, q2, q3, q4⟩
    refine hK.out _ _ ⟨ht2, q1, q2, q3, q4⟩ (fun hHeld => ?_)
    clear hK
    try simp only [Act.put, List.setIfInBounds_toArray, List.set_cons_zero, List.set_cons_succ]
    refine wpAnyH_take (i := 3) (v := ?_) rfl (by kernel_rfl) (by kernel_rfl) (by kernel_rfl) (fun _ _ _ h => h) (Or.inl ⟨by rfl, ?_⟩) (by assumption) ?_
    rotate_left
    · (intro w hSw; (try dsimp only at hSw); go_simp; try with_reducible rfl)
    try simp only [Act.put, List.setIfInBounds_toArray, List.set_cons_zero, List.set_cons_succ]
    refine wpAnyH_ready (rs := [8]) (by kernel_rfl) (by simp) ?_
    refine AllReadyH.cons rfl (fun K' hK => ?_) AllReadyH.nil
    go_simp
    have qa : ∀ j o, j < 5 → (w2.alloc o).cell? ⟨w.heap.size, j, none⟩ = w2.cell? ⟨w.heap.size, j, none⟩ := fun j o _ => World.cell?_alloc_past o _ _ ht2.lt
    refine hK.out _ _ ⟨ht2.alloc _, (qa 1 _ (by omega)).trans q1, (qa 2 _ (by omega)).trans q2, (qa 3 _ (by omega)).trans q3, (qa 4 _ (by omega)).trans q4⟩ (fun hHeld => ?_)
    clear hK qa
    refine wpAnyH_mono (S' := fun w' => (TS w w' ∧ w'.cell? ⟨w.heap.size, 1, none⟩ = some (.int .i64 y) ∧ w'.cell? ⟨w.heap.size, 2, none⟩ = some (.int .u8 h) ∧ w'.cell? ⟨w.heap.size, 3, none⟩ = some (.int .u8 s) ∧ w'.cell? ⟨w.heap.size, 4, none⟩ = some (.int .i64 c)) ∧ w'.cell? ⟨w2.heap.size, 0, none⟩ = some (.int .u8 h) ∧ w'.cell? ⟨w2.heap.size, 1, none⟩ = some (.int .u8 s)) (fun _ h => h.1) _ _ _ _ ?_
    have hHeld2 := And.intro hHeld (And.intro (World.cell?_alloc_mark w2 #[.int .u8 h, .int .u8 s] 5 (0, 0) 0) (World.cell?_alloc_mark w2 #[.int .u8 h, .int .u8 s] 5 (0, 0) 1))
    try simp only [Act.put, List.setIfInBounds_toArray, List.set_cons_zero, List.set_cons_succ]
    refine wpAnyH_take (i := 9) (v := ?_) rfl (by kernel_rfl) (by kernel_rfl) (by kernel_rfl) (fun _ _ _ h => h) (Or.inl ⟨by rfl, ?_⟩) hHeld2 ?_
    rotate_left
    · (intro w hSw; (try dsimp only at hSw); obtain ⟨_, g0, g1⟩ := hSw; have cc := cvg _ _ g0 g1; go_simp; try with_reducible rfl)
    try simp only [Act.put, List.setIfInBounds_toArray, List.set_cons_zero, List.set_cons_succ]
    refine wpAnyH_take (i := 10) (v := ?_) rfl (by kernel_rfl) (by kernel_rfl) (by kernel_rfl) (fun _ _ _ h => h) (Or.inl ⟨by rfl, ?_⟩) hHeld2 ?_
    rotate_left
    · (intro w hSw; (try dsimp only at hSw); go_simp; try with_reducible rfl)
    try simp only [Act.put, List.setIfInBounds_toArray, List.set_cons_zero, List.set_cons_succ]
    refine wpAnyH_take (i := 11) (v := ?_) rfl (by kernel_rfl) (by kernel_rfl) (by kernel_rfl) (fun _ _ _ h => h) (Or.inl ⟨by rfl, ?_⟩) hHeld2 ?_
    rotate_left
    · (intro w hSw; (try dsimp only at hSw); go_simp; try with_reducible rfl)
    try simp only [Act.put, List.setIfInBounds_toArray, List.set_cons_zero, List.set_cons_succ]
    refine wpAnyH_done (by kernel_rfl) ?_ _
    have TT := hHeld.1
    have k4 := hHeld.2.2.2.2
    clear hHeld hHeld2
    by_cases hc : 0 < c
    · have FF := Lib.hid (F1.out hc)
      go_wp2_with (go_at_call 36; refine (IC.out _ TT).mono ?_; rintro e w3 ⟨rfl, hb3⟩)
      have hB := (TT.call hb3).below
      go_ret2
      exact ⟨by rw [FF.out]; rfl, hB⟩
    · have FF := Lib.hid (F2.out (by omega))
      have hB := TT.below
      go_wp2_with fail
      go_ret2
      exact ⟨by rw [FF.out]; rfl, hB⟩
  · go_simp
    have qa : ∀ j o, j < 5 → (w1.alloc o).cell? ⟨w.heap.size, j, none⟩ = w1.cell? ⟨w.heap.size, j, none⟩ := fun j o _ => World.cell?_alloc_past o _ _ lt1
    refine hK.out _ _ ⟨(ht1.alloc _).drew, (qa 1 _ (by omega)).trans k1, (qa 2 _ (by omega)).trans k2, (qa 3 _ (by omega)).trans k3, (qa 4 _ (by omega)).trans k4⟩ (fun hHeld => ?_)
    clear hK qa
    refine wpAnyH_mono (S' := fun w' => (TS w w' ∧ w'.cell? ⟨w.heap.size, 1, none⟩ = some (.int .i64 y) ∧ w'.cell? ⟨w.heap.size, 2, none⟩ = some (.int .u8 h) ∧ w'.cell? ⟨w.heap.size, 3, none⟩ = some (.int .u8 s) ∧ w'.cell? ⟨w.heap.size, 4, none⟩ = some (.int .i64 c)) ∧ w'.cell? ⟨w1.heap.size, 0, none⟩ = some (.int .u8 h) ∧ w'.cell? ⟨w1.heap.size, 1, none⟩ = some (.int .u8 s)) (fun _ h => h.1) _ _ _ _ ?_
    have hHeld2 := And.intro hHeld (And.intro (World.cell?_alloc_mark w1 #[.int .u8 h, .int .u8 s] 5 (0, 0) 0) (World.cell?_alloc_mark w1 #[.int .u8 h, .int .u8 s] 5 (0, 0) 1))
    try simp only [Act.put, List.setIfInBounds_toArray, List.set_cons_zero, List.set_cons_succ]
    refine wpAnyH_take (i := 9) (v := ?_) rfl (by kernel_rfl) (by kernel_rfl) (by kernel_rfl) (fun _ _ _ h => h) (Or.inl ⟨by rfl, ?_⟩) hHeld2 ?_
    rotate_left
    · (intro w hSw; (try dsimp only at hSw); obtain ⟨_, g0, g1⟩ := hSw; have cc := cvg _ _ g0 g1; go_simp; try with_reducible rfl)
    try simp only [Act.put, List.setIfInBounds_toArray, List.set_cons_zero, List.set_cons_succ]
    refine wpAnyH_ready (rs := [2]) (by kernel_rfl) (by simp) ?_
    refine AllReadyH.cons rfl (fun K' hK => ?_) AllReadyH.nil
    clear hHeld hHeld2
    go_simp
    refine I1.mono ?_
    rintro e w2 ⟨rfl, ht2, q1, q2, q3, q4, g0, g1⟩
    refine hK.out _ _ ⟨⟨ht2, q1, q2, q3, q4⟩, g0, g1⟩ (fun hHeld2 => ?_)
    clear hK
    have hHeld := hHeld2.1
    try simp only [Act.put, List.setIfInBounds_toArray, List.set_cons_zero, List.set_cons_succ]
    refine wpAnyH_take (i := 3) (v := ?_) rfl (by kernel_rfl) (by kernel_rfl) (by kernel_rfl) (fun _ _ _ h => h) (Or.inl ⟨by rfl, ?_⟩) hHeld2 ?_
    rotate_left
    · (intro w hSw; (try dsimp only at hSw); go_simp; try with_reducible rfl)
    try simp only [Act.put, List.setIfInBounds_toArray, List.set_cons_zero, List.set_cons_succ]
    refine wpAnyH_take (i := 10) (v := ?_) rfl (by kernel_rfl) (by kernel_rfl) (by kernel_rfl) (fun _ _ _ h => h) (Or.inl ⟨by rfl, ?_⟩) hHeld2 ?_
    rotate_left
    · (intro w hSw; (try dsimp only at hSw); go_simp; try with_reducible rfl)
    try simp only [Act.put, List.setIfInBounds_toArray, List.set_cons_zero, List.set_cons_succ]
    refine wpAnyH_take (i := 11) (v := ?_) rfl (by kernel_rfl) (by kernel_rfl) (by kernel_rfl) (fun _ _ _ h => h) (Or.inl ⟨by rfl, ?_⟩) hHeld2 ?_
    rotate_left
    · (intro w hSw; (try dsimp only at hSw); go_simp; try with_reducible rfl)
    try simp only [Act.put, List.setIfInBounds_toArray, List.set_cons_zero, List.set_cons_succ]
    refine wpAnyH_done (by kernel_rfl) ?_ _
    have TT := hHeld.1
    have k4 := hHeld.2.2.2.2
    clear hHeld hHeld2
    by_cases hc : 0 < c
    · have FF := Lib.hid (F1.out hc)
      go_wp2_with (go_at_call 36; refine (IC.out _ TT).mono ?_; rintro e w3 ⟨rfl, hb3⟩)
      have hB := (TT.call hb3).below
      go_ret2
      exact ⟨by rw [FF.out]; rfl, hB⟩
    · have FF := Lib.hid (F2.out (by omega))
      have hB := TT.below
      go_wp2_with fail
      go_ret2
      exact ⟨by rw [FF.out]; rfl, hB⟩
end Dw
end Go.Proofs.YtafeigpmldgifaaDoor
/-
  Digits of the reference: decimal, value, digit, worth.
-/
namespace Go.Proofs.YtafeigpmldgifaaDoor
namespace Dw
open Go.RowKit Dp Lw

theorem worth_inj {c d : UInt8} (h : worthN c = worthN d) (hc : worthN c < 10) : c = d := by
  have key : ∀ x : UInt8, worthN x < 10 → x.toNat = 48 + worthN x := fun x hx => by
    unfold worthN at hx ⊢
    split
    · omega
    · next g =>
      rw [if_neg g] at hx
      split at hx
      · omega
      · split at hx <;> omega
  apply UInt8.toNat_inj.1
  rw [key c hc, key d (by omega), h]
theorem dig_uniq : ∀ (k : Nat) (l m : List UInt8), l.length = k → m.length = k → allW 10 l → allW 10 m → valN 10 l = valN 10 m → l = m
  | 0, l, m, hl, hm, _, _, _ => by rw [List.eq_nil_of_length_eq_zero hl, List.eq_nil_of_length_eq_zero hm]
  | k + 1, l, m, hl, hm, al, am, hv => by
    obtain ⟨l', c, rfl⟩ : ∃ l' c, l = l' ++ [c] := ⟨l.dropLast, l.getLast (by intro e; rw [e] at hl; simp at hl), (List.dropLast_concat_getLast _).symm⟩
    obtain ⟨m', d, rfl⟩ : ∃ l' c, m = l' ++ [c] := ⟨m.dropLast, m.getLast (by intro e; rw [e] at hm; simp at hm), (List.dropLast_concat_getLast _).symm⟩
    rw [valN_snoc, valN_snoc] at hv
    have hc := al c (List.mem_append_right _ (List.mem_singleton.2 rfl))
    have hd := am d (List.mem_append_right _ (List.mem_singleton.2 rfl))
    rw [List.length_append] at hl hm
    simp only [List.length_cons, List.length_nil] at hl hm
    rw [dig_uniq k l' m' (by omega) (by omega) (fun x hx => al x (List.mem_append_left _ hx)) (fun x hx => am x (List.mem_append_left _ hx)) (by omega), worth_inj (c := c) (d := d) (by omega) hc]
/-- The last digits of a number. -/
def lastD (n : Nat) : Nat → List UInt8
  | 0 => []
  | j + 1 => dig62 (n / 10 ^ j % 10) :: lastD n j
theorem lastD_len (n : Nat) : ∀ j, (lastD n j).length = j
  | 0 => rfl
  | j + 1 => by rw [lastD, List.length_cons, lastD_len n j]
theorem foldl_from (l : List UInt8) : ∀ a : Nat, l.foldl (fun n c => n * 10 + worthN c) a = a * 10 ^ l.length + valN 10 l := by
  induction l with
  | nil => intro a; simp [valN]
  | cons c l ih =>
    intro a
    rw [List.foldl_cons, ih]
    have h : valN 10 (c :: l) = worthN c * 10 ^ l.length + valN 10 l := by
      unfold valN
      rw [List.foldl_cons, ih, Nat.zero_mul, Nat.zero_add]
      rfl
    rw [h, List.length_cons, Nat.pow_succ, Nat.add_mul, Nat.mul_assoc, Nat.mul_comm 10]
    omega
theorem lastD_val (n : Nat) : ∀ j, valN 10 (lastD n j) = n % 10 ^ j ∧ allW 10 (lastD n j)
  | 0 => ⟨by simp [lastD, valN, Nat.mod_one], allW_nil 10⟩
  | j + 1 => by
    obtain ⟨h1, h2⟩ := lastD_val n j
    have e := worth_dig (n / 10 ^ j % 10) (by omega)
    refine ⟨?_, allW_cons (by omega) h2⟩
    have h : valN 10 (lastD n (j + 1)) = worthN (dig62 (n / 10 ^ j % 10)) * 10 ^ (lastD n j).length + valN 10 (lastD n j) := by
      rw [lastD]
      unfold valN
      rw [List.foldl_cons, foldl_from, Nat.zero_mul, Nat.zero_add]
      rfl
    rw [h, e, h1, lastD_len, Nat.pow_succ]
    have := Nat.div_add_mod n (10 ^ j)
    have := Nat.mod_mul (x := n) (a := 10 ^ j) (b := 10)
    rw [this, Nat.mul_comm, Nat.add_comm]
theorem lastD_pad (n d J : Nat) (hd : 1 ≤ d) (h0 : n / 10 ^ J = 0) (h1 : d ≤ J) (h2 : J = 0 ∨ 0 < n / 10 ^ (J - 1) ∨ J - 1 < d) : lastD n J = padL (n : Int) d := by
  have hlt : n < 10 ^ J := by
    have hp : 0 < 10 ^ J := Nat.pow_pos (by omega)
    exact (Nat.div_eq_zero_iff_lt hp).1 h0
  obtain ⟨v1, v2⟩ := lastD_val n J
  obtain ⟨p1, p2⟩ := pad_val n d
  obtain ⟨K, rfl⟩ : ∃ K, J = K + 1 := ⟨J - 1, by omega⟩
  have len : (padL (n : Int) d).length = K + 1 := by
    have hl : (Lib.itoa (n : Int)).length = Lib.nDigits n := by rw [itoa_nat, Lib.decDigits_length]
    have hle := nd_le K n hlt
    have hpos := Lib.nDigits_pos n
    unfold padL
    rw [List.length_append, rep_len, hl]
    rcases h2 with h | h | h
    · omega
    · have hp : 0 < 10 ^ K := Nat.pow_pos (by omega)
      rw [Nat.add_sub_cancel] at h
      have : 10 ^ K ≤ n := by
        rcases Nat.lt_or_ge n (10 ^ K) with g | g
        · rw [Nat.div_eq_of_lt g] at h; omega
        · exact g
      have := Lib.nDigits_unique K n this hlt
      omega
    · omega
  exact dig_uniq (K + 1) _ _ (lastD_len n _) len v2 p2 (by rw [v1, p1, Nat.mod_eq_of_lt hlt])
def restN (n j : Nat) : Int := ((n / 10 ^ j : Nat) : Int)
def lastS (n j : Nat) : ByteArray := ⟨(lastD n j).toArray⟩
theorem lastS_size (n j : Nat) : (lastS n j).size = j := by unfold lastS; rw [size_mk, lastD_len]
theorem restN_bd (n j : Nat) : 0 ≤ restN n j ∧ restN n j ≤ n := by
  unfold restN
  exact ⟨Int.natCast_nonneg _, Int.ofNat_le.2 (Nat.div_le_self n (10 ^ j))⟩
theorem restN_s (n j : Nat) : restN n (j + 1) = restN n j / 10 := by
  unfold restN
  rw [Nat.pow_succ, ← Nat.div_div_eq_div_mul]
  rfl
theorem digS_ext (k : Nat) (hk : k < 62) : (digS 62).extract k (k + 1) = ⟨#[dig62 k]⟩ := by
  have key : ∀ k, k < 62 → ((digS 62).extract k (k + 1)).data.toList = [dig62 k] := by decide +kernel
  apply ByteArray.ext
  apply Array.toList_inj.1
  exact key k hk
theorem lastS_s (n j : Nat) : (digS 62).extract (restN n j % 10).toNat ((restN n j % 10).toNat + 1) ++ lastS n j = lastS n (j + 1) := by
  have e : (restN n j % 10).toNat = n / 10 ^ j % 10 := by unfold restN; omega
  rw [e, digS_ext _ (by omega)]
  exact str_app [dig62 (n / 10 ^ j % 10)] (lastD n j)
theorem dig_lit : (⟨#[48, 49, 50, 51, 52, 53, 54, 55, 56, 57, 65, 66, 67, 68, 69, 70, 71, 72, 73, 74, 75, 76, 77, 78, 79, 80, 81, 82, 83, 84, 85, 86, 87, 88, 89, 90, 97, 98, 99, 100, 101, 102, 103, 104, 105, 106, 107, 108, 109, 110, 111, 112, 113, 114, 115, 116, 117, 118, 119, 120, 121, 122]⟩ : ByteArray) = digS 62 := by decide +kernel
theorem lastS_lit (n j : Nat) (r : Int) (h : restN n j = r) (s : ByteArray) (hs : lastS n j = s) : (⟨#[48, 49, 50, 51, 52, 53, 54, 55, 56, 57, 65, 66, 67, 68, 69, 70, 71, 72, 73, 74, 75, 76, 77, 78, 79, 80, 81, 82, 83, 84, 85, 86, 87, 88, 89, 90, 97, 98, 99, 100, 101, 102, 103, 104, 105, 106, 107, 108, 109, 110, 111, 112, 113, 114, 115, 116, 117, 118, 119, 120, 121, 122]⟩ : ByteArray).extract (r % 10).toNat (r % 10 + 1).toNat ++ s = lastS n (j + 1) := by
  subst h hs
  have := lastS_s n j
  have h0 := (restN_bd n j).1
  rw [dig_lit, show (restN n j % 10 + 1).toNat = (restN n j % 10).toNat + 1 by omega]
  exact this
theorem restN_zero {n : Nat} (h : n < 10 ^ 18) {j : Nat} (hj : 18 ≤ j) : restN n j = 0 := by
  unfold restN
  have : 10 ^ 18 ≤ 10 ^ j := Nat.pow_le_pow_right (by omega) hj
  rw [Nat.div_eq_of_lt (by omega)]
  rfl
set_option maxRecDepth 100000 in
set_option maxHeartbeats 2000000 in
theorem decimal_any (n d : Nat) (w : World) (hn : n < 10 ^ 18) (hd : 1 ≤ d) (hd1 : d ≤ 18) :
    Calls Tryd.prog 72 #[.int .i64 n, .int .i64 d] w fun e w' => e = .returned (.string ⟨(padL (n : Int) d).toArray⟩) ∧ w = w' := by
  have HN := Lib.hid hn
  have e0 : restN n 0 = n := by unfold restN; simp
  rw [← e0]
  have e0 := Lib.hid e0
  clear hn
  go_enter Tryd.func72, Tryd.ntmps72
  go_wp2
  go_loop [0, 5] (fun r s => ∃ j : Nat, j ≤ 18 ∧ r = .int .i64 (restN n j) ∧ s = .string (lastS n j) ∧ Hid (j = 0 ∨ 0 < n / 10 ^ (j - 1) ∨ j - 1 < d)) (fun _ s => 18 - (match s with | .string b => b.size | _ => 0))
  case atStart => exact ⟨0, by omega, rfl, rfl, Lib.hid (Or.inl rfl)⟩
  case round =>
    obtain ⟨j, hj, rfl, rfl, D⟩ := hrel
    have sz := lastS_size n j
    have bd := restN_bd n j
    have B := HN.out
    have NX := Lib.hid (show Value.int .i64 (restN n j / 10) = .int .i64 (restN n (j + 1)) by rw [restN_s])
    have r1 : restN n j ≤ 1000000000000000000 := by
      have : (n : Int) ≤ 1000000000000000000 := by omega
      omega
    obtain ⟨r, er⟩ : ∃ r, restN n j = r := ⟨_, rfl⟩
    obtain ⟨s, es⟩ : ∃ s, lastS n j = s := ⟨_, rfl⟩
    have SX := Lib.hid (lastS_lit n j r er s es)
    have ER := Lib.hid er
    have ES := Lib.hid es
    rw [er] at bd r1 NX
    rw [es] at sz
    rw [er, es]
    clear er es
    obtain ⟨r0, _⟩ := bd
    have m0 : 0 ≤ r % 10 := by omega
    have m1 : r % 10 < 10 := by omega
    by_cases hr : 0 < r
    · have j18 : j < 18 := by
        rcases Nat.lt_or_ge j 18 with g | g
        · exact g
        · have := restN_zero B g; rw [ER.out] at this; omega
      have D2 : Hid (j + 1 = 0 ∨ 0 < n / 10 ^ (j + 1 - 1) ∨ j + 1 - 1 < d) := Lib.hid (Or.inr (Or.inl (by
        have := ER.out
        unfold restN at this
        rw [Nat.add_sub_cancel]
        exact Int.ofNat_lt.1 (by rw [this]; exact hr))))
      clear B D
      go_wp2_with fail
      go_round
      case rel => exact ⟨j + 1, by omega, NX.out, congrArg Value.string SX.out, D2⟩
      case measure =>
        show 18 - (_ : ByteArray).size < 18 - s.size
        rw [SX.out, lastS_size]
        omega
    · by_cases hjd : j < d
      · have hjd' : (j : Int) < d := by omega
        have D2 : Hid (j + 1 = 0 ∨ 0 < n / 10 ^ (j + 1 - 1) ∨ j + 1 - 1 < d) := Lib.hid (Or.inr (Or.inr (by omega)))
        clear B D
        go_wp2_with fail
        go_round
        case rel => exact ⟨j + 1, by omega, NX.out, congrArg Value.string SX.out, D2⟩
        case measure =>
          show 18 - (_ : ByteArray).size < 18 - s.size
          rw [SX.out, lastS_size]
          omega
      · have hjd' : ¬ (j : Int) < d := by omega
        have FN := Lib.hid (show s = ⟨(padL (n : Int) d).toArray⟩ by
          rw [← ES.out]
          unfold lastS
          rw [lastD_pad n d j hd (by have := ER.out; unfold restN at this; omega) (by omega) D.out])
        clear B D
        go_wp2_with fail
        go_ret
        exact ⟨by rw [FN.out]; rfl, rfl⟩
end Dw
end Go.Proofs.YtafeigpmldgifaaDoor
/-
  Digits of the reference: value, digit, worth.
-/
namespace Go.Proofs.YtafeigpmldgifaaDoor
namespace Dw
open Go.RowKit Dp Lw

theorem worth_dec {c : UInt8} : worthN c < 10 ↔ 48 ≤ (c.toNat : Int) ∧ (c.toNat : Int) ≤ 57 := by
  unfold worthN
  split
  · omega
  · split
    · omega
    · split <;> omega
theorem worth_val {c : UInt8} (h : 48 ≤ (c.toNat : Int) ∧ (c.toNat : Int) ≤ 57) : (worthN c : Int) = (c.toNat : Int) - 48 := by
  unfold worthN
  rw [if_pos (by omega)]
  omega
/-- What the loop of value keeps. -/
structure VInv (s : ByteArray) (k : Nat) : Prop where
  all : allW 10 (s.data.toList.take k)
theorem VInv.start (s : ByteArray) : VInv s 0 := ⟨allW_nil 10⟩
theorem val_pow (l : List UInt8) (h : allW 10 l) : valN 10 l < 10 ^ l.length := by
  obtain ⟨k, hk⟩ : ∃ k, l.length = k := ⟨_, rfl⟩
  induction k generalizing l with
  | zero => rw [List.eq_nil_of_length_eq_zero hk]; simp [valN]
  | succ k ih =>
    obtain ⟨l', c, rfl⟩ : ∃ l' c, l = l' ++ [c] := ⟨l.dropLast, l.getLast (by intro e; rw [e] at hk; simp at hk), (List.dropLast_concat_getLast _).symm⟩
    have hc := h c (List.mem_append_right _ (List.mem_singleton.2 rfl))
    rw [List.length_append] at hk ⊢
    simp only [List.length_cons, List.length_nil] at hk ⊢
    have := ih l' (fun x hx => h x (List.mem_append_left _ hx)) (by omega)
    rw [valN_snoc, show l'.length + 0 + 1 = l'.length + 1 by omega, Nat.pow_succ]
    omega
theorem VInv.bd {s : ByteArray} {k : Nat} (h : VInv s k) (h8 : k ≤ 8) : 0 ≤ valI 10 s k ∧ valI 10 s k ≤ 100000000 := by
  have h1 := val_pow _ h.all
  have h2 : (s.data.toList.take k).length ≤ 8 := Nat.le_trans (List.length_take_le _ _) h8
  have h3 : 10 ^ (s.data.toList.take k).length ≤ 10 ^ 8 := Nat.pow_le_pow_right (by omega) h2
  unfold valI
  omega
theorem VInv.next {s : ByteArray} {k : Nat} (h : VInv s k) (hk : k < s.size) (hw : 48 ≤ (s[k].toNat : Int) ∧ (s[k].toNat : Int) ≤ 57) : VInv s (k + 1) ∧ valI 10 s (k + 1) = 10 * valI 10 s k + ((s[k].toNat : Int) - 48) := by
  have e := take_snoc s k hk
  refine ⟨⟨by rw [e]; exact allW_snoc h.all (worth_dec.2 hw)⟩, ?_⟩
  unfold valI
  rw [e, valN_snoc, ← worth_val hw]
  simp
  omega
theorem valR_fin {s : ByteArray} {k : Nat} (h : VInv s k) (hk : ¬ k < s.size) (h1 : 1 ≤ s.size) (h8 : s.size ≤ 8) : valI 10 s k = valR s.data.toList := by
  have ha := h.all
  unfold valI
  rw [take_all s k hk] at ha ⊢
  have hl := size_data s
  rw [valR_yes (by omega) (by omega) ha]
theorem valR_not {s : ByteArray} {k : Nat} (hk : k < s.size) (h : ¬ (48 ≤ (s[k].toNat : Int) ∧ (s[k].toNat : Int) ≤ 57)) : valR s.data.toList = -1 :=
  valR_no (not_all (get_mem s k hk) (fun g => h (worth_dec.1 g)))
theorem valR_len {s : ByteArray} (h : ¬ (1 ≤ s.size ∧ s.size ≤ 8)) : valR s.data.toList = -1 := by
  have hl := size_data s
  exact if_neg (fun g => h (by omega))
theorem valR_bd (l : List UInt8) : -1 ≤ valR l ∧ valR l ≤ 100000000 := by
  unfold valR
  split
  · next g =>
    have h1 := val_pow l g.2.2
    have h3 : 10 ^ l.length ≤ 10 ^ 8 := Nat.pow_le_pow_right (by omega) g.2.1
    omega
  · omega
theorem byte_bd (b : UInt8) : 0 ≤ (b.toNat : Int) ∧ (b.toNat : Int) < 256 := by have := b.toNat_lt; omega
set_option maxRecDepth 100000 in
set_option maxHeartbeats 2000000 in
theorem value_any (s : ByteArray) (w : World) (hs : s.size ≤ 1000) :
    Calls Tryd.prog 49 #[.string s] w fun e w' => e = .returned (.int .i64 (valR s.data.toList)) ∧ w = w' := by
  by_cases hl : 1 ≤ s.size ∧ s.size ≤ 8
  · obtain ⟨l1, l2⟩ := hl
    have l1' : ¬ (s.size : Int) < 1 := by omega
    have l2' : ¬ 8 < (s.size : Int) := by omega
    have L1 := Lib.hid l1
    clear l1
    go_enter Tryd.func49, Tryd.ntmps49
    go_wp2
    go_loop [3, 4] (fun n i => ∃ k : Nat, k ≤ s.size ∧ i = .int .i64 k ∧ n = .int .i64 (valI 10 s k) ∧ Hid (VInv s k)) (fun _ i => s.size - (intOf i).toNat)
    case atStart => exact ⟨0, Nat.zero_le _, rfl, rfl, Lib.hid (VInv.start s)⟩
    case round =>
      obtain ⟨k, hk, rfl, rfl, D⟩ := hrel
      by_cases hlt : k < s.size
      · obtain ⟨n0, n1⟩ := D.out.bd (by omega)
        obtain ⟨b0, b1⟩ := byte_bd s[k]
        by_cases d : 48 ≤ (s[k].toNat : Int) ∧ (s[k].toNat : Int) ≤ 57
        · have NX := Lib.hid (D.out.next hlt d)
          obtain ⟨d1, d2⟩ := d
          go_wp2
          go_round
          case rel => exact ⟨k + 1, by omega, by go_num, by rw [NX.out.2], Lib.hid NX.out.1⟩
          case measure => simp [intOf]; omega
        · have N := Lib.hid (valR_not hlt d)
          have d' : (s[k].toNat : Int) < 48 ∨ 57 < (s[k].toNat : Int) := by omega
          clear d
          go_wp2
          all_goals first | (exfalso; omega) | (go_ret; exact ⟨ret_int N.out.symm, rfl⟩)
      · have N := Lib.hid (valR_fin D.out hlt L1.out l2)
        go_wp2
        go_ret
        exact ⟨ret_int N.out, rfl⟩
  · have N := Lib.hid (valR_len hl)
    have hl' : (s.size : Int) < 1 ∨ 8 < (s.size : Int) := by omega
    clear hl
    rcases hl' with g | g
    · go_enter Tryd.func49, Tryd.ntmps49
      go_wp2
      all_goals first | (exfalso; omega) | (go_ret; exact ⟨ret_int N.out.symm, rfl⟩)
    · have g' : ¬ (s.size : Int) < 1 := by omega
      go_enter Tryd.func49, Tryd.ntmps49
      go_wp2
      all_goals first | (exfalso; omega) | (go_ret; exact ⟨ret_int N.out.symm, rfl⟩)
theorem dig_ext_lit (n : Nat) (h : n < 62) : (⟨#[48, 49, 50, 51, 52, 53, 54, 55, 56, 57, 65, 66, 67, 68, 69, 70, 71, 72, 73, 74, 75, 76, 77, 78, 79, 80, 81, 82, 83, 84, 85, 86, 87, 88, 89, 90, 97, 98, 99, 100, 101, 102, 103, 104, 105, 106, 107, 108, 109, 110, 111, 112, 113, 114, 115, 116, 117, 118, 119, 120, 121, 122]⟩ : ByteArray).extract n (n + 1) = ⟨[dig62 n].toArray⟩ := by
  rw [dig_lit]
  exact digS_ext n h
theorem lit_at : ∀ k, k < 62 → ∀ h : k < (⟨#[48, 49, 50, 51, 52, 53, 54, 55, 56, 57, 65, 66, 67, 68, 69, 70, 71, 72, 73, 74, 75, 76, 77, 78, 79, 80, 81, 82, 83, 84, 85, 86, 87, 88, 89, 90, 97, 98, 99, 100, 101, 102, 103, 104, 105, 106, 107, 108, 109, 110, 111, 112, 113, 114, 115, 116, 117, 118, 119, 120, 121, 122]⟩ : ByteArray).size, ((⟨#[48, 49, 50, 51, 52, 53, 54, 55, 56, 57, 65, 66, 67, 68, 69, 70, 71, 72, 73, 74, 75, 76, 77, 78, 79, 80, 81, 82, 83, 84, 85, 86, 87, 88, 89, 90, 97, 98, 99, 100, 101, 102, 103, 104, 105, 106, 107, 108, 109, 110, 111, 112, 113, 114, 115, 116, 117, 118, 119, 120, 121, 122]⟩ : ByteArray)[k]'h) = dig62 k := by decide +kernel
theorem worth_eq (k : Nat) (hk : k < 62) (c : UInt8) : dig62 k = c ↔ worthN c = k := by
  constructor
  · rintro rfl
    exact worth_dig k hk
  · intro h
    have key : ∀ c : UInt8, worthN c < 62 → dig62 (worthN c) = c := by
      intro c
      have : ∀ n : Nat, n < 256 → worthN (UInt8.ofNat n) < 62 → dig62 (worthN (UInt8.ofNat n)) = UInt8.ofNat n := by decide +kernel
      have h := this c.toNat c.toNat_lt
      rwa [UInt8.ofNat_toNat] at h
    rw [← h]
    exact key c (by omega)
theorem idx_lit (k : Nat) (hk : k < 62) (w : World) : (Instr.index 9 (.string ⟨#[48, 49, 50, 51, 52, 53, 54, 55, 56, 57, 65, 66, 67, 68, 69, 70, 71, 72, 73, 74, 75, 76, 77, 78, 79, 80, 81, 82, 83, 84, 85, 86, 87, 88, 89, 90, 97, 98, 99, 100, 101, 102, 103, 104, 105, 106, 107, 108, 109, 110, 111, 112, 113, 114, 115, 116, 117, 118, 119, 120, 121, 122]⟩) (.int .i64 (k : Int))).run Tryd.prog w = .ok (.int .u8 ((dig62 k).toNat : Int)) w := by
  have hs : (⟨#[48, 49, 50, 51, 52, 53, 54, 55, 56, 57, 65, 66, 67, 68, 69, 70, 71, 72, 73, 74, 75, 76, 77, 78, 79, 80, 81, 82, 83, 84, 85, 86, 87, 88, 89, 90, 97, 98, 99, 100, 101, 102, 103, 104, 105, 106, 107, 108, 109, 110, 111, 112, 113, 114, 115, 116, 117, 118, 119, 120, 121, 122]⟩ : ByteArray).size = 62 := rfl
  rw [run_index_string (P := Tryd.prog) w 9 _ .i64 (k : Int) Tryd.underlying9, dif_pos ⟨by omega, by rw [hs]; omega⟩]
  simp only [Int.toNat_natCast]
  rw [lit_at k hk]
theorem worthI_yes {c : UInt8} {k : Nat} (hk : k < 62) (h : worthN c = k) : worthI c = k := by unfold worthI; rw [if_pos (by omega), h]
theorem worthI_no {c : UInt8} (h : 62 ≤ worthN c) : worthI c = -1 := if_neg (by omega)
end Dw
end Go.Proofs.YtafeigpmldgifaaDoor
/-
  The walks of HalfLetter, orderLetter and Check of the reference.
-/
namespace Go.Proofs.YtafeigpmldgifaaDoor
namespace Dw
open Go.RowKit Dp Lw

set_option maxHeartbeats 400000 in
theorem halfLetter_any (c : Int) (w : World) : Calls Tryd.prog 53 #[.int .u8 c] w fun e w' => e = .returned (.bool (halfB c)) ∧ w = w' := by
  by_cases h3 : c = 73
  · subst h3
    go_enter Tryd.func53, Tryd.ntmps53
    go_wp2
    go_ret
    exact ⟨ret_bool (halfB_false (by unfold halfP; omega)), rfl⟩
  · have e1 : (c != 73) = true := bne_iff_ne.2 h3
    by_cases h1 : 65 ≤ c
    · by_cases h2 : c ≤ 89
      · go_enter Tryd.func53, Tryd.ntmps53
        go_wp2
        go_ret
        exact ⟨ret_bool (halfB_true ⟨h1, h2, h3⟩), rfl⟩
      · go_enter Tryd.func53, Tryd.ntmps53
        go_wp2
        go_ret
        exact ⟨ret_bool (halfB_false (by unfold halfP; omega)), rfl⟩
    · go_enter Tryd.func53, Tryd.ntmps53
      go_wp2
      go_ret
      exact ⟨ret_bool (halfB_false (by unfold halfP; omega)), rfl⟩
set_option maxHeartbeats 400000 in
theorem orderLetter_any (c : Int) (w : World) : Calls Tryd.prog 54 #[.int .u8 c] w fun e w' => e = .returned (.bool (secB c)) ∧ w = w' := by
  by_cases h3 : c = 73
  · subst h3
    go_enter Tryd.func54, Tryd.ntmps54
    go_wp2
    go_ret
    exact ⟨ret_bool (secB_false (by unfold secP; omega)), rfl⟩
  · have e1 : (c != 73) = true := bne_iff_ne.2 h3
    by_cases h1 : 65 ≤ c
    · by_cases h2 : c ≤ 90
      · go_enter Tryd.func54, Tryd.ntmps54
        go_wp2
        go_ret
        exact ⟨ret_bool (secB_true ⟨h1, h2, h3⟩), rfl⟩
      · go_enter Tryd.func54, Tryd.ntmps54
        go_wp2
        go_ret
        exact ⟨ret_bool (secB_false (by unfold secP; omega)), rfl⟩
    · go_enter Tryd.func54, Tryd.ntmps54
      go_wp2
      go_ret
      exact ⟨ret_bool (secB_false (by unfold secP; omega)), rfl⟩

set_option maxHeartbeats 2000000 in
theorem rcheck_any (n y h s c : Int) (w : World) :
    Calls Tryd.prog 38 #[desigV n y h s c] w fun e w' => e = .returned (.int .i64 (errC n y h s c)) ∧ Below w.heap.size w w' := by
  by_cases hn : n = 0
  · subst hn
    by_cases hh : halfP h
    · have b1 := (halfB_true hh).symm
      by_cases hs : secP s
      · have b2 := (secB_true hs).symm
        go_enter Tryd.func38, Tryd.ntmps38
        go_wp2_with (first | (go_at_call 53; refine (halfLetter_any _ _).mono ?_; rintro e w' ⟨rfl, rfl⟩) | (go_at_call 54; refine (orderLetter_any _ _).mono ?_; rintro e w' ⟨rfl, rfl⟩))
        all_goals go_ret
        all_goals
          refine ⟨ret_int ?_, (Below.refl _ _).alloc (Nat.le_refl _) _⟩
          try unfold halfP at hh
          try unfold secP at hs
          unfold errC okD halfP secP
          first | exact (if_pos (by omega)).symm | exact (if_neg (by omega)).symm
      · have b2 := (secB_false hs).symm
        go_enter Tryd.func38, Tryd.ntmps38
        go_wp2_with (first | (go_at_call 53; refine (halfLetter_any _ _).mono ?_; rintro e w' ⟨rfl, rfl⟩) | (go_at_call 54; refine (orderLetter_any _ _).mono ?_; rintro e w' ⟨rfl, rfl⟩))
        all_goals go_ret
        all_goals
          refine ⟨ret_int ?_, (Below.refl _ _).alloc (Nat.le_refl _) _⟩
          try unfold halfP at hh
          try unfold secP at hs
          unfold errC okD halfP secP
          first | exact (if_pos (by omega)).symm | exact (if_neg (by omega)).symm
    · have b1 := (halfB_false hh).symm
      go_enter Tryd.func38, Tryd.ntmps38
      go_wp2_with (first | (go_at_call 53; refine (halfLetter_any _ _).mono ?_; rintro e w' ⟨rfl, rfl⟩) | (go_at_call 54; refine (orderLetter_any _ _).mono ?_; rintro e w' ⟨rfl, rfl⟩))
      all_goals go_ret
      all_goals
        refine ⟨ret_int ?_, (Below.refl _ _).alloc (Nat.le_refl _) _⟩
        try unfold halfP at hh
        try unfold secP at hs
        unfold errC okD halfP secP
        first | exact (if_pos (by omega)).symm | exact (if_neg (by omega)).symm
  · have e1 : (n != 0) = true := bne_iff_ne.2 hn
    go_enter Tryd.func38, Tryd.ntmps38
    go_wp2_with (first | (go_at_call 53; refine (halfLetter_any _ _).mono ?_; rintro e w' ⟨rfl, rfl⟩) | (go_at_call 54; refine (orderLetter_any _ _).mono ?_; rintro e w' ⟨rfl, rfl⟩))
    all_goals go_ret
    all_goals
      refine ⟨ret_int ?_, (Below.refl _ _).alloc (Nat.le_refl _) _⟩
      try unfold halfP at hh
      try unfold secP at hs
      unfold errC okD halfP secP
      first | exact (if_pos (by omega)).symm | exact (if_neg (by omega)).symm
end Dw
end Go.Proofs.YtafeigpmldgifaaDoor
/-
  Text of the reference.
-/
namespace Go.Proofs.YtafeigpmldgifaaDoor
namespace Dw
open Go.RowKit Dp Lw

theorem pad_itoa (v d : Nat) (h : d ≤ Lib.nDigits v) : padL (v : Int) d = Lib.itoa (v : Int) := by
  unfold padL
  rw [show d - (Lib.itoa (v : Int)).length = 0 by rw [itoa_nat, Lib.decDigits_length]; omega]
  rfl
theorem dec_itoa (v d : Nat) (hv : v < 10 ^ 18) (hd : 1 ≤ d) (hd1 : d ≤ 18) (h : d ≤ Lib.nDigits v) (w : World) :
    Calls Tryd.prog 72 #[.int .i64 (v : Int), .int .i64 (d : Int)] w fun e w' => e = .returned (.string ⟨(Lib.itoa (v : Int)).toArray⟩) ∧ w = w' := by
  have := decimal_any v d w hv hd hd1
  rwa [pad_itoa v d h] at this
/-- What a drawn region over a boxed designation needs of memory, without tables. -/
structure RS (w w' : World) : Prop where
  below : Below w.heap.size w w'
  lt : w.heap.size < w'.heap.size
theorem RS.call {w a b : World} (h : RS w a) (hb : Below a.heap.size a b) : RS w b := ⟨below_then h.below hb, Nat.lt_of_lt_of_le h.lt hb.size⟩
theorem RS.drew {w a : World} (h : RS w a) : RS w a.drew := h.call ((Below.refl _ a).drew)
theorem RS.box (w : World) (o : Obj) : RS w (w.alloc o) := ⟨(Below.refl _ w).alloc (Nat.le_refl _) _, by simp⟩
def RTextOk (n y h s c : Int) (w : World) (e : Ending) (w' : World) : Prop := e = .returned (.string ⟨(textG ⟨n, y, h, s, c⟩).toArray⟩) ∧ Below w.heap.size w w'
set_option maxRecDepth 100000 in
set_option maxHeartbeats 4000000 in
theorem rtext_num (n y h s c : Int) (w : World) (g : okD n y h s c) (hn : 0 < n) :
    Calls Tryd.prog 55 #[desigV n y h s c] w (RTextOk n y h s c w) := by
  have hbd := okD_bd g
  obtain ⟨v, rfl⟩ := Int.eq_ofNat_of_zero_le (show 0 ≤ n by omega)
  have I := Lib.hid (dec_itoa v 1 (by omega) (by omega) (by omega) (Lib.nDigits_pos v))
  have F := Lib.hid (show textG ⟨v, y, h, s, c⟩ = Lib.itoa v from if_pos hn)
  have hB := Lib.hid (RS.box w (.cells (desigC v y h s c).toArray 50)).below
  clear g hbd
  go_enter Tryd.func55, Tryd.ntmps55
  go_wp2_with fail
  go_at_call 72
  refine (I.out _).mono ?_
  rintro e w' ⟨rfl, rfl⟩
  go_wp2_with fail
  go_ret
  exact ⟨by rw [F.out]; rfl, hB⟩
set_option maxRecDepth 100000 in
set_option maxHeartbeats 4000000 in
theorem rtext_prov (y h s c : Int) (w : World) (h0 : 0 ≤ h) (h1 : h < 256) (s0 : 0 ≤ s) (s1 : s < 256) (g : okD 0 y h s c) :
    Calls Tryd.prog 55 #[desigV 0 y h s c] w (RTextOk 0 y h s c w) := by
  have hy : 1800 ≤ y ∧ y ≤ 2099 ∧ 0 ≤ c ∧ c ≤ 619 := by unfold okD at g; omega
  obtain ⟨y0, y1, c0, c1⟩ := hy
  obtain ⟨v, rfl⟩ := Int.eq_ofNat_of_zero_le (show 0 ≤ y by omega)
  obtain ⟨k, rfl⟩ := Int.eq_ofNat_of_zero_le c0
  have I := Lib.hid (dec_itoa v 4 (by omega) (by omega) (by omega) (Nat.le_of_eq (Lib.nDigits_unique 3 v (by omega) (by omega)).symm))
  have IC := Lib.hid (dec_itoa k 1 (by omega) (by omega) (by omega) (Lib.nDigits_pos k))
  have LH := Lib.hid (fun w => letter_any h w h0 h1)
  have LS := Lib.hid (fun w => letter_any s w s0 s1)
  have F : textG ⟨0, v, h, s, k⟩ = Lib.itoa v ++ [32] ++ [b8 h, b8 s] ++ (if 0 < (k : Int) then Lib.itoa k else []) := by
    rw [List.append_assoc (Lib.itoa v)]
    exact if_neg (by simp)
  have ly := Lib.itoa_length_le v (by omega) (by omega)
  have lc := Lib.itoa_length_le k (by omega) (by omega)
  generalize Lib.itoa (v : Int) = Y at *
  generalize Lib.itoa (k : Int) = K at *
  have F1 := Lib.hid (fun hc : 0 < k => show textG ⟨0, v, h, s, k⟩ = Y ++ 32 :: b8 h :: b8 s :: K by rw [F, if_pos (by omega)]; simp)
  have F2 := Lib.hid (fun hc : k = 0 => show textG ⟨0, v, h, s, k⟩ = Y ++ [32, b8 h, b8 s] by rw [F, if_neg (by omega)]; simp)
  clear F
  have r0 := RS.box w (.cells (desigC 0 v h s k).toArray 50)
  have z1 : (⟨Y.toArray⟩ : ByteArray).size + (⟨#[32]⟩ : ByteArray).size ≤ 9223372036854775807 := by rw [size_mk Y]; show Y.length + 1 ≤ _; omega
  have z2 : (⟨(Y ++ [32]).toArray⟩ : ByteArray).size + (⟨[b8 h].toArray⟩ : ByteArray).size ≤ 9223372036854775807 := by rw [size_mk, size_mk, List.length_append]; simp only [List.length_cons, List.length_nil]; omega
  have z3 : (⟨(Y ++ [32, b8 h]).toArray⟩ : ByteArray).size + (⟨[b8 s].toArray⟩ : ByteArray).size ≤ 9223372036854775807 := by rw [size_mk, size_mk, List.length_append]; simp only [List.length_cons, List.length_nil]; omega
  have z4 : (⟨(Y ++ [32, b8 h, b8 s]).toArray⟩ : ByteArray).size + (⟨K.toArray⟩ : ByteArray).size ≤ 9223372036854775807 := by rw [size_mk, size_mk, List.length_append]; simp only [List.length_cons, List.length_nil]; omega
  have a1 : ∀ w' : World, (Op.stringOp .add (⟨Y.toArray⟩ : ByteArray) ⟨#[32]⟩).run Tryd.prog w' = .ok (.string ⟨(Y ++ [32]).toArray⟩) w' := fun w' => by rw [run_string_add_sum (P := Tryd.prog) (w := w') _ _ z1]; exact congrArg (fun x => Result.ok (Value.string x) w') (str_app Y [32])
  have a2 : ∀ w' : World, (Op.stringOp .add (⟨(Y ++ [32]).toArray⟩ : ByteArray) ⟨[b8 h].toArray⟩).run Tryd.prog w' = .ok (.string ⟨(Y ++ [32, b8 h]).toArray⟩) w' := fun w' => by rw [run_string_add_sum (P := Tryd.prog) (w := w') _ _ z2, str_app, List.append_assoc]; rfl
  have a3 : ∀ w' : World, (Op.stringOp .add (⟨(Y ++ [32, b8 h]).toArray⟩ : ByteArray) ⟨[b8 s].toArray⟩).run Tryd.prog w' = .ok (.string ⟨(Y ++ [32, b8 h, b8 s]).toArray⟩) w' := fun w' => by rw [run_string_add_sum (P := Tryd.prog) (w := w') _ _ z3, str_app, List.append_assoc]; rfl
  have a4 : ∀ w' : World, (Op.stringOp .add (⟨(Y ++ [32, b8 h, b8 s]).toArray⟩ : ByteArray) ⟨K.toArray⟩).run Tryd.prog w' = .ok (.string ⟨(Y ++ [32, b8 h, b8 s] ++ K).toArray⟩) w' := fun w' => by rw [run_string_add_sum (P := Tryd.prog) (w := w') _ _ z4, str_app]
  clear z1 z2 z3 z4 g y0 y1 ly lc
  have r0d := r0.drew
  go_enter Tryd.func55, Tryd.ntmps55
  go_wp2_with fail
  go_region_held3 (fun w' => RS w w' ∧ w'.cell? ⟨w.heap.size, 1, none⟩ = some (.int .i64 v) ∧ w'.cell? ⟨w.heap.size, 2, none⟩ = some (.int .u8 h) ∧ w'.cell? ⟨w.heap.size, 3, none⟩ = some (.int .u8 s) ∧ w'.cell? ⟨w.heap.size, 4, none⟩ = some (.int .i64 k)) (first | go_keep | assumption)
    (first | (go_at_call 72; refine (I.out _).mono ?_; rintro e w2 ⟨rfl, rfl⟩) | (go_at_call 73; (first | (with_reducible refine (LH.out _).mono ?_) | (with_reducible refine (LS.out _).mono ?_)); rintro e w2 ⟨rfl, hb⟩; go_split_ands; have hk := RS.call (by assumption) hb; have q1 := (hb.cell (p := ⟨w.heap.size, 1, none⟩) (RS.lt (by assumption))).trans (by assumption); have q2 := (hb.cell (p := ⟨w.heap.size, 2, none⟩) (RS.lt (by assumption))).trans (by assumption); have q3 := (hb.cell (p := ⟨w.heap.size, 3, none⟩) (RS.lt (by assumption))).trans (by assumption); have q4 := (hb.cell (p := ⟨w.heap.size, 4, none⟩) (RS.lt (by assumption))).trans (by assumption); clear hb))
  go_split_ands
  by_cases hc : 0 < k
  · have hc' : (0 : Int) < k := by omega
    have FF := Lib.hid (F1.out hc)
    go_wp2_with (go_at_call 72; refine (IC.out _).mono ?_; rintro e w3 ⟨rfl, rfl⟩)
    go_ret
    exact ⟨by rw [FF.out]; rfl, RS.below (by assumption)⟩
  · have hc' : ¬ (0 : Int) < k := by omega
    have FF := Lib.hid (F2.out (by omega))
    go_wp2_with fail
    go_ret
    exact ⟨by rw [FF.out]; rfl, RS.below (by assumption)⟩
theorem rtext_any (n y h s c : Int) (w : World) (h0 : 0 ≤ h) (h1 : h < 256) (s0 : 0 ≤ s) (s1 : s < 256) (g : okD n y h s c) :
    Calls Tryd.prog 55 #[desigV n y h s c] w (RTextOk n y h s c w) := by
  by_cases hn : 0 < n
  · exact rtext_num n y h s c w g hn
  · have : n = 0 := by have := okD_bd g; omega
    subst this
    exact rtext_prov y h s c w h0 h1 s0 s1 g
set_option maxRecDepth 100000 in
set_option maxHeartbeats 4000000 in
theorem rText_ok (n y h s c : Int) (w : World) (h0 : 0 ≤ h) (h1 : h < 256) (s0 : 0 ≤ s) (s1 : s < 256) (g : okD n y h s c) :
    Calls Tryd.prog 39 #[desigV n y h s c] w (TextOk n y h s c w) := by
  have C := Lib.hid (rcheck_any n y h s c (w.alloc (.cells (desigC n y h s c).toArray 50)))
  rw [errC_ok g] at C
  have T := Lib.hid (fun w => rtext_any n y h s c w h0 h1 s0 s1 g)
  have r1 := rangeAt_new w (desigC n y h s c) 50
  have rs := RS.box w (.cells (desigC n y h s c).toArray 50)
  clear g
  go_enter Tryd.func39, Tryd.ntmps39
  go_wp2_with (refine wpList_load_mid rfl _ (.tmp 1) rfl w.heap.size 0 rfl (desigC n y h s c) _ r1 Tryd.underlying50 rfl info5d ?_)
  go_at_call 38
  refine C.out.mono ?_
  rintro e w1 ⟨rfl, hb1⟩
  have r2 := rangeAt_below r1 hb1 (by simp)
  have rs1 := rs.call hb1
  clear C r1 rs hb1
  go_wp2_with (refine wpList_load_mid rfl _ (.tmp 1) rfl w.heap.size 0 rfl (desigC n y h s c) _ r2 Tryd.underlying50 rfl info5d ?_)
  go_at_call 55
  refine (T.out _).mono ?_
  rintro e w2 ⟨rfl, hb2⟩
  have rs2 := rs1.call hb2
  clear T r2 rs1 hb2
  go_wp2_with fail
  go_ret2
  exact ⟨rfl, rs2.below⟩
set_option maxRecDepth 100000 in
set_option maxHeartbeats 4000000 in
theorem rText_no (n y h s c : Int) (w : World) (g : ¬ okD n y h s c) :
    Calls Tryd.prog 39 #[desigV n y h s c] w (TextNo w) := by
  have C := Lib.hid (rcheck_any n y h s c (w.alloc (.cells (desigC n y h s c).toArray 50)))
  rw [errC_no g] at C
  have r1 := rangeAt_new w (desigC n y h s c) 50
  have rs := RS.box w (.cells (desigC n y h s c).toArray 50)
  clear g
  go_enter Tryd.func39, Tryd.ntmps39
  go_wp2_with (refine wpList_load_mid rfl _ (.tmp 1) rfl w.heap.size 0 rfl (desigC n y h s c) _ r1 Tryd.underlying50 rfl info5d ?_)
  go_at_call 38
  refine C.out.mono ?_
  rintro e w1 ⟨rfl, hb1⟩
  have rs1 := rs.call hb1
  clear C r1 rs hb1
  go_wp2_with fail
  go_ret2
  exact ⟨rfl, rs1.below⟩
theorem Text_ok (n y h s c : Int) (w : World) (hT : Tb w) (h0 : 0 ≤ h) (h1 : h < 256) (s0 : 0 ≤ s) (s1 : s < 256) (g : okD n y h s c) :
    Calls Tryd.prog 35 #[desigV n y h s c] w (TextOk n y h s c w) := by
  by_cases hn : 0 < n
  · exact text_num n y h s c w hT h0 h1 s0 s1 g hn
  · exact text_prov n y h s c w hT h0 h1 s0 s1 g (by have := okD_bd g; omega)
end Dw
end Go.Proofs.YtafeigpmldgifaaDoor
/-
  Plain law of digests: the digest of bytes, word by word; no walk here.
-/
namespace Go.Proofs.YtafeigpmldgifaaDoor
namespace Arp
open Go.RowKit Lw

def w32 : Nat := 4294967296
def add32 (a b : Nat) : Nat := (a + b) % 4294967296
theorem add32_comm (a b : Nat) : add32 a b = add32 b a := by unfold add32; rw [Nat.add_comm]
theorem add32_lt (a b : Nat) : add32 a b < 4294967296 := Nat.mod_lt _ (by decide)
/-- A word turned to the right. -/
def rotr (x k : Nat) : Nat := (x <<< (32 - k)) % 4294967296 ||| x >>> k
def sm0 (x : Nat) : Nat := (rotr x 7 ^^^ rotr x 18) ^^^ x >>> 3
def sm1 (x : Nat) : Nat := (rotr x 17 ^^^ rotr x 19) ^^^ x >>> 10
def bg0 (x : Nat) : Nat := (rotr x 2 ^^^ rotr x 13) ^^^ rotr x 22
def bg1 (x : Nat) : Nat := (rotr x 6 ^^^ rotr x 11) ^^^ rotr x 25
def chs (e f g : Nat) : Nat := (e &&& f) ^^^ (g &&& (4294967295 - e))
def major (a b c : Nat) : Nat := ((a &&& b) ^^^ (a &&& c)) ^^^ (b &&& c)
def keyL : List Nat := [
  1116352408, 1899447441, 3049323471, 3921009573, 961987163, 1508970993, 2453635748, 2870763221,
  3624381080, 310598401, 607225278, 1426881987, 1925078388, 2162078206, 2614888103, 3248222580,
  3835390401, 4022224774, 264347078, 604807628, 770255983, 1249150122, 1555081692, 1996064986,
  2554220882, 2821834349, 2952996808, 3210313671, 3336571891, 3584528711, 113926993, 338241895,
  666307205, 773529912, 1294757372, 1396182291, 1695183700, 1986661051, 2177026350, 2456956037,
  2730485921, 2820302411, 3259730800, 3345764771, 3516065817, 3600352804, 4094571909, 275423344,
  430227734, 506948616, 659060556, 883997877, 958139571, 1322822218, 1537002063, 1747873779,
  1955562222, 2024104815, 2227730452, 2361852424, 2428436474, 2756734187, 3204031479, 3329325298]
def firstL : List Nat := [1779033703, 3144134277, 1013904242, 2773480762, 1359893119, 2600822924, 528734635, 1541459225]
/-- The words of a block. -/
def word4 (b : List UInt8) (i : Nat) : Nat := (b.getD (4 * i) 0).toNat * 16777216 + (b.getD (4 * i + 1) 0).toNat * 65536 + (b.getD (4 * i + 2) 0).toNat * 256 + (b.getD (4 * i + 3) 0).toNat
def nextW (b : List UInt8) (l : List Nat) (i : Nat) : Nat := if i < 16 then word4 b i else add32 (add32 (add32 (l.getD (i - 16) 0) (sm0 (l.getD (i - 15) 0))) (l.getD (i - 7) 0)) (sm1 (l.getD (i - 2) 0))
def schedL (b : List UInt8) : Nat → List Nat
  | 0 => []
  | k + 1 => schedL b k ++ [nextW b (schedL b k) k]
theorem schedL_len (b : List UInt8) : ∀ k, (schedL b k).length = k
  | 0 => rfl
  | k + 1 => by rw [schedL, List.length_append, schedL_len b k]; rfl
/-- A state. -/
structure St where
  a : Nat
  b : Nat
  c : Nat
  d : Nat
  e : Nat
  f : Nat
  g : Nat
  h : Nat
def St.l (s : St) : List Nat := [s.a, s.b, s.c, s.d, s.e, s.f, s.g, s.h]
def firstS : St := ⟨1779033703, 3144134277, 1013904242, 2773480762, 1359893119, 2600822924, 528734635, 1541459225⟩
def St.x (s : St) (k w : Nat) : Nat := add32 (add32 (add32 (add32 s.h (bg1 s.e)) (chs s.e s.f s.g)) k) w
def St.y (s : St) : Nat := add32 (bg0 s.a) (major s.a s.b s.c)
def St.next (s : St) (k w : Nat) : St := ⟨add32 (s.x k w) s.y, s.a, s.b, s.c, add32 s.d (s.x k w), s.e, s.f, s.g⟩
def St.run (ws : List Nat) (s : St) : Nat → St
  | 0 => s
  | k + 1 => (St.run ws s k).next (keyL.getD k 0) (ws.getD k 0)
def St.sum (s t : St) : St := ⟨add32 s.a t.a, add32 s.b t.b, add32 s.c t.c, add32 s.d t.d, add32 s.e t.e, add32 s.f t.f, add32 s.g t.g, add32 s.h t.h⟩
def St.block (s : St) (b : List UInt8) : St := s.sum (St.run (schedL b 64) s 64)
/-- What follows a message. -/
def zerosN (n : Nat) : Nat := (119 - n % 64) % 64
def tailL (n : Nat) : List UInt8 := 128 :: (List.replicate (zerosN n) 0 ++ (List.range 8).map fun i => UInt8.ofNat (n * 8 / 256 ^ (7 - i) % 256))
def padL (b : List UInt8) : List UInt8 := b ++ tailL b.length
def blocksS (m : List UInt8) : Nat → St
  | 0 => firstS
  | k + 1 => (blocksS m k).block ((m.drop (64 * k)).take 64)
def digB (s : St) (i : Nat) : Nat := s.l.getD (i / 4) 0 >>> (24 - i % 4 * 8) % 256
def digestL (b : List UInt8) : List Nat := (List.range 32).map fun i => digB (blocksS (padL b) ((padL b).length / 64)) i
theorem tail_len (n : Nat) : (tailL n).length = 9 + zerosN n := by
  unfold tailL
  simp only [List.length_cons, List.length_append, List.length_replicate, List.length_map, List.length_range]
  omega
theorem pad_len (b : List UInt8) : (padL b).length = b.length + 9 + zerosN b.length := by
  unfold padL
  rw [List.length_append, tail_len]
  omega
theorem pad_64 (b : List UInt8) : (padL b).length % 64 = 0 := by
  rw [pad_len]
  unfold zerosN
  omega
/-- Bounds. -/
theorem xor_lt {a b : Nat} (ha : a < 4294967296) (hb : b < 4294967296) : a ^^^ b < 4294967296 := Nat.xor_lt_two_pow (n := 32) ha hb
theorem or_lt {a b : Nat} (ha : a < 4294967296) (hb : b < 4294967296) : a ||| b < 4294967296 := Nat.or_lt_two_pow (n := 32) ha hb
theorem and_lt {a b : Nat} (ha : a < 4294967296) : a &&& b < 4294967296 := Nat.lt_of_le_of_lt Nat.and_le_left ha
theorem shr_lt {a : Nat} (k : Nat) (ha : a < 4294967296) : a >>> k < 4294967296 := Nat.lt_of_le_of_lt (Nat.shiftRight_le a k) ha
theorem rotr_lt {x : Nat} (k : Nat) (h : x < 4294967296) : rotr x k < 4294967296 := or_lt (Nat.mod_lt _ (by decide)) (shr_lt k h)
theorem sm0_lt {x : Nat} (h : x < 4294967296) : sm0 x < 4294967296 := xor_lt (xor_lt (rotr_lt 7 h) (rotr_lt 18 h)) (shr_lt 3 h)
theorem sm1_lt {x : Nat} (h : x < 4294967296) : sm1 x < 4294967296 := xor_lt (xor_lt (rotr_lt 17 h) (rotr_lt 19 h)) (shr_lt 10 h)
theorem bg0_lt {x : Nat} (h : x < 4294967296) : bg0 x < 4294967296 := xor_lt (xor_lt (rotr_lt 2 h) (rotr_lt 13 h)) (rotr_lt 22 h)
theorem bg1_lt {x : Nat} (h : x < 4294967296) : bg1 x < 4294967296 := xor_lt (xor_lt (rotr_lt 6 h) (rotr_lt 11 h)) (rotr_lt 25 h)
theorem chs_lt {e f g : Nat} (he : e < 4294967296) (hg : g < 4294967296) : chs e f g < 4294967296 := xor_lt (and_lt he) (and_lt hg)
theorem major_lt {a b c : Nat} (ha : a < 4294967296) (hb : b < 4294967296) : major a b c < 4294967296 := xor_lt (xor_lt (and_lt ha) (and_lt ha)) (and_lt hb)
structure St.Ok (s : St) : Prop where
  a : s.a < 4294967296
  b : s.b < 4294967296
  c : s.c < 4294967296
  d : s.d < 4294967296
  e : s.e < 4294967296
  f : s.f < 4294967296
  g : s.g < 4294967296
  h : s.h < 4294967296
theorem St.Ok.next {s : St} (h : s.Ok) (k w : Nat) : (s.next k w).Ok := ⟨add32_lt _ _, h.a, h.b, h.c, add32_lt _ _, h.e, h.f, h.g⟩
theorem St.Ok.run {s : St} (h : s.Ok) (ws : List Nat) : ∀ k, (St.run ws s k).Ok
  | 0 => h
  | k + 1 => (St.Ok.run h ws k).next _ _
theorem St.Ok.sum (s t : St) : (s.sum t).Ok := ⟨add32_lt _ _, add32_lt _ _, add32_lt _ _, add32_lt _ _, add32_lt _ _, add32_lt _ _, add32_lt _ _, add32_lt _ _⟩
theorem firstS_ok : firstS.Ok := ⟨by decide, by decide, by decide, by decide, by decide, by decide, by decide, by decide⟩
theorem blocks_ok (m : List UInt8) : ∀ k, (blocksS m k).Ok
  | 0 => firstS_ok
  | _ + 1 => St.Ok.sum _ _
theorem byte_lt (u : UInt8) : u.toNat < 256 := u.toNat_lt
theorem word4_lt (b : List UInt8) (i : Nat) : word4 b i < 4294967296 := by
  have h0 := byte_lt (b.getD (4 * i) 0)
  have h1 := byte_lt (b.getD (4 * i + 1) 0)
  have h2 := byte_lt (b.getD (4 * i + 2) 0)
  have h3 := byte_lt (b.getD (4 * i + 3) 0)
  unfold word4
  omega
theorem nextW_lt (b : List UInt8) (l : List Nat) (i : Nat) : nextW b l i < 4294967296 := by
  unfold nextW
  split
  · exact word4_lt b i
  · exact add32_lt _ _
theorem key_lt (k : Nat) : keyL.getD k 0 < 4294967296 := by
  by_cases h : k < 64
  · have : ∀ k, k < 64 → keyL.getD k 0 < 4294967296 := by decide
    exact this k h
  · rw [List.getD_eq_getElem?_getD, List.getElem?_eq_none (by show 64 ≤ k; omega)]
    decide
theorem sched_lt (b : List UInt8) : ∀ k, ∀ x ∈ schedL b k, x < 4294967296
  | 0 => fun x h => by cases h
  | k + 1 => fun x h => by
    rw [schedL, List.mem_append, List.mem_singleton] at h
    rcases h with h | rfl
    · exact sched_lt b k x h
    · exact nextW_lt b _ k
theorem schedL_prefix (b : List UInt8) {j k : Nat} (h : j ≤ k) : (schedL b k).take j = schedL b j := by
  induction k with
  | zero => obtain rfl : j = 0 := by omega
            rfl
  | succ k ih =>
    by_cases e : j = k + 1
    · subst e
      exact List.take_of_length_le (by rw [schedL_len]; exact Nat.le_refl _)
    · rw [schedL, List.take_append_of_le_length (by rw [schedL_len]; omega)]
      exact ih (by omega)
end Arp
end Go.Proofs.YtafeigpmldgifaaDoor
/-
  Words turned to the right.
-/
namespace Go.Proofs.YtafeigpmldgifaaDoor
namespace Arw
open Go.RowKit Lw Go.Proofs.YtafeigpmldgifaaDoor.Arp

theorem low5 (j k : Nat) (h : j + k = 32) (h0 : 1 ≤ k) : bits .and .u64 (IntKind.u64.wrap (-(k : Int))) 31 = (j : Int) := by
  have e : IntKind.u64.wrap (-(k : Int)) = ((18446744073709551616 - k : Nat) : Int) := by
    rw [IntKind.wrap_u64]
    omega
  rw [e, show (31 : Int) = ((31 : Nat) : Int) from rfl, u64_and_nat _ _ (by omega) (by omega), nat_mask5]
  congr 1
  omega
theorem rot_eq (x j k : Nat) (hx : x < 4294967296) (h : j + k = 32) : bits .or .u32 ((x : Int) * 2 ^ j % 4294967296) ((x : Int) / 2 ^ k) = (rotr x k : Int) := by
  have e1 : (x : Int) * 2 ^ j % 4294967296 = ((x * 2 ^ j % 4294967296 : Nat) : Int) := by
    rw [Int.natCast_emod, Int.natCast_mul, Int.natCast_pow]
    rfl
  have e2 : (x : Int) / 2 ^ k = ((x / 2 ^ k : Nat) : Int) := by rw [Int.natCast_ediv, Int.natCast_pow]; rfl
  rw [e1, e2, u32_or_nat _ _ (Nat.mod_lt _ (by decide)) (Nat.lt_of_le_of_lt (Nat.div_le_self _ _) hx)]
  unfold rotr
  rw [show 32 - k = j by omega, Nat.shiftLeft_eq, Nat.shiftRight_eq_div_pow]
theorem or_comm (a b : Int) : bits .or .u32 a b = bits .or .u32 b a := by
  unfold bits
  simp [BitVec.or_comm]
set_option maxRecDepth 100000 in
theorem rotl_any (x k : Nat) (w : World) (hx : x < 4294967296) (h0 : 1 ≤ k) (h1 : k ≤ 31) :
    Calls Tryd.prog 86 #[.int .u32 (x : Int), .int .i64 (-(k : Int))] w fun e w' => e = .returned (.int .u32 (rotr x k : Int)) ∧ w = w' := by
  obtain ⟨j, hj⟩ : ∃ j, j + k = 32 := ⟨32 - k, by omega⟩
  have L5 := low5 j k hj h0
  have S1 : IntKind.u64.wrap (32 - (j : Int)) = (k : Int) := by rw [IntKind.wrap_u64]; omega
  have R := rot_eq x j k hx hj
  go_enter Tryd.func86, Tryd.ntmps86
  go_wp2_with fail
  go_ret
  exact ⟨rfl, rfl⟩
set_option maxRecDepth 100000 in
theorem right_any (x k : Nat) (w : World) (hx : x < 4294967296) (h0 : 1 ≤ k) (h1 : k ≤ 31) :
    Calls Tryd.prog 74 #[.int .u32 (x : Int), .int .i64 (k : Int)] w fun e w' => e = .returned (.int .u32 (rotr x k : Int)) ∧ w = w' := by
  have R := Lib.hid (fun w => rotl_any x k w hx h0 h1)
  go_enter Tryd.func74, Tryd.ntmps74
  go_wp2_with fail
  refine (R.out _).mono ?_
  rintro e w' ⟨rfl, rfl⟩
  go_wp2_with fail
  go_ret
  exact ⟨rfl, rfl⟩
set_option maxRecDepth 100000 in
theorem turn_q (x k : Nat) (w : World) (hx : x < 4294967296) (h0 : 1 ≤ k) (h1 : k ≤ 31) :
    Calls Tryd.prog 57 #[.int .u32 (x : Int), .int .i64 (k : Int)] w fun e w' => e = .returned (.int .u32 (rotr x k : Int)) ∧ ∃ m, w' = w.drewN m := by
  obtain ⟨j, hj⟩ : ∃ j, j + k = 32 := ⟨32 - k, by omega⟩
  have S1 : IntKind.i64.wrap (32 - (k : Int)) = (j : Int) := by rw [IntKind.wrap_i64]; omega
  have R := rot_eq x j k hx hj
  have R2 : bits .or .u32 ((x : Int) / 2 ^ k) (IntKind.u32.wrap ((x : Int) * 2 ^ j)) = (rotr x k : Int) := by rw [or_comm, IntKind.wrap_u32', R]
  have R3 : bits .or .u32 ((x : Int) / 2 ^ k) ((x : Int) * 2 ^ j % 4294967296) = (rotr x k : Int) := by rw [or_comm, R]
  have hk : (0 : Int) ≤ (k : Int) := by omega
  have hj0 : (0 : Int) ≤ (j : Int) := by omega
  go_enter Tryd.func57, Tryd.ntmps57
  go_wp2_with fail
  go_quiet (fail)
  go_wp2_with fail
  go_ret
  exact ⟨rfl, _, rfl⟩
theorem turn_any (x k : Nat) (w : World) (hx : x < 4294967296) (h0 : 1 ≤ k) (h1 : k ≤ 31) :
    Calls Tryd.prog 57 #[.int .u32 (x : Int), .int .i64 (k : Int)] w fun e w' => e = .returned (.int .u32 (rotr x k : Int)) ∧ Below w.heap.size w w' :=
  (turn_q x k w hx h0 h1).mono fun e w' ⟨he, m, hm⟩ => ⟨he, by rw [hm]; exact drewN_below2 (Below.refl _ _) _⟩
theorem xor_nat (a b : Nat) (ha : a < 4294967296) (hb : b < 4294967296) : bits .xor .u32 (a : Int) (b : Int) = ((a ^^^ b : Nat) : Int) := u32_xor_nat a b ha hb
set_option maxRecDepth 100000 in
set_option maxHeartbeats 4000000 in
theorem turned_no (x a b c : Nat) (w : World) (hx : x < 4294967296) (a0 : 1 ≤ a) (a1 : a ≤ 31) (b0 : 1 ≤ b) (b1 : b ≤ 31) (c0 : 1 ≤ c) (c1 : c ≤ 31) :
    Calls Tryd.prog 56 #[.int .u32 (x : Int), .int .i64 (a : Int), .int .i64 (b : Int), .int .i64 (c : Int), .bool false] w fun e w' => e = .returned (.int .u32 (((rotr x a ^^^ rotr x b) ^^^ rotr x c : Nat) : Int)) ∧ Below w.heap.size w w' := by
  have RA := Lib.hid (fun w => right_any x a w hx a0 a1)
  have RB := Lib.hid (fun w => right_any x b w hx b0 b1)
  have RC := Lib.hid (fun w => right_any x c w hx c0 c1)
  have ha := rotr_lt a hx
  have hb := rotr_lt b hx
  have hc := rotr_lt c hx
  have x1 := xor_nat _ _ ha hb
  have x2 := xor_nat _ _ (xor_lt ha hb) hc
  generalize rotr x a = A at *
  generalize rotr x b = B at *
  generalize rotr x c = C at *
  have hmf : ∀ (fn : Fn) (first cap : Array Value) (w : World), (Instr.makeFunc fn first cap).run Tryd.prog w = .ok (.func fn first cap) w := fun _ _ _ _ => rfl
  go_enter Tryd.func56, Tryd.ntmps56
  go_wp2_with fail
  refine (RC.out _).mono ?_
  rintro e w' ⟨rfl, rfl⟩
  go_wp2_with fail
  refine (RA.out _).mono ?_
  rintro e w' ⟨rfl, rfl⟩
  go_wp2_with fail
  refine (RB.out _).mono ?_
  rintro e w' ⟨rfl, rfl⟩
  go_wp2_with fail
  go_ret
  exact ⟨rfl, Below.refl _ _⟩
set_option maxRecDepth 100000 in
set_option maxHeartbeats 4000000 in
theorem turned_sh (x a b c : Nat) (w : World) (hx : x < 4294967296) (a0 : 1 ≤ a) (a1 : a ≤ 31) (b0 : 1 ≤ b) (b1 : b ≤ 31) (c0 : 1 ≤ c) (c1 : c ≤ 31) :
    Calls Tryd.prog 56 #[.int .u32 (x : Int), .int .i64 (a : Int), .int .i64 (b : Int), .int .i64 (c : Int), .bool true] w fun e w' => e = .returned (.int .u32 (((rotr x a ^^^ rotr x b) ^^^ x >>> c : Nat) : Int)) ∧ Below w.heap.size w w' := by
  have RA := Lib.hid (fun w => right_any x a w hx a0 a1)
  have RB := Lib.hid (fun w => right_any x b w hx b0 b1)
  have RC := Lib.hid (fun w => right_any x c w hx c0 c1)
  have hs : (x : Int) / 2 ^ c = ((x >>> c : Nat) : Int) := by rw [Nat.shiftRight_eq_div_pow, Int.natCast_ediv, Int.natCast_pow]; rfl
  have hc0 : (0 : Int) ≤ (c : Int) := by omega
  have ha := rotr_lt a hx
  have hb := rotr_lt b hx
  have hc := shr_lt c hx
  have x1 := xor_nat _ _ ha hb
  have x2 := xor_nat _ _ (xor_lt ha hb) hc
  generalize rotr x a = A at *
  generalize rotr x b = B at *
  generalize x >>> c = C at *
  have hmf : ∀ (fn : Fn) (first cap : Array Value) (w : World), (Instr.makeFunc fn first cap).run Tryd.prog w = .ok (.func fn first cap) w := fun _ _ _ _ => rfl
  go_enter Tryd.func56, Tryd.ntmps56
  go_wp2_with fail
  refine (RC.out _).mono ?_
  rintro e w' ⟨rfl, rfl⟩
  go_wp2_with fail
  refine (RA.out _).mono ?_
  rintro e w' ⟨rfl, rfl⟩
  go_wp2_with fail
  refine (RB.out _).mono ?_
  rintro e w' ⟨rfl, rfl⟩
  go_wp2_with fail
  go_ret
  exact ⟨rfl, Below.refl _ _⟩
end Arw
end Go.Proofs.YtafeigpmldgifaaDoor
/-
  Rows of cells that a walk writes; all but one block is as it was.
-/
namespace Go.Proofs.YtafeigpmldgifaaDoor
namespace Arw
open Go.RowKit Lw Go.Proofs.YtafeigpmldgifaaDoor.Arp

theorem set_size (b i : Nat) (v : Value) (w : World) : (w.setCell ⟨b, i, none⟩ v).heap.size = w.heap.size := by
  unfold World.setCell
  split <;> simp
/-- A row of cells that may be written. -/
structure Rw (w : World) (b : Nat) (vs : List Value) : Prop where
  row : w.rangeAt b 0 vs
  th : w.there b 0 vs.length
  lt : b < w.heap.size
theorem Rw.cell {w : World} {b : Nat} {vs : List Value} (h : Rw w b vs) {j : Nat} {v : Value} (hj : vs[j]? = some v) : w.cell? ⟨b, j, none⟩ = some v := by
  have := h.row j v hj
  rwa [Nat.zero_add] at this
theorem Rw.free {w : World} {b : Nat} {vs : List Value} (h : Rw w b vs) {j : Nat} (hj : j < vs.length) : w.frozen? ⟨b, j, none⟩ = false := by
  have := (h.th j hj).2
  rwa [Nat.zero_add] at this
theorem Rw.set {w : World} {b : Nat} {vs : List Value} (h : Rw w b vs) (i : Nat) (v : Value) (hi : i < vs.length) : Rw (w.setCell ⟨b, i, none⟩ v) b (vs.set i v) := by
  have out := World.cell?_setCells_out b [v] i w
  have inn := World.cell?_setCells_in b [v] i w (fun j hj => by
    have hj : j < 1 := hj
    have := (h.th (i + j) (by omega)).1
    rwa [Nat.zero_add] at this)
  have ew : w.setCells b i [v] = w.setCell ⟨b, i, none⟩ v := rfl
  have fz : ∀ p, (w.setCell ⟨b, i, none⟩ v).frozen? p = w.frozen? p := fun p => by rw [← ew, World.frozen?_setCells]
  rw [ew] at out inn
  refine ⟨?_, ?_, by rw [set_size]; exact h.lt⟩
  · intro j x hx
    rw [Nat.zero_add]
    by_cases hj : j = i
    · subst hj
      rw [List.getElem?_set_self hi] at hx
      have := inn 0 (by show 0 < 1; omega)
      rw [Nat.add_zero] at this
      rw [this]; exact hx
    · rw [List.getElem?_set_ne (fun h => hj h.symm)] at hx
      rw [out _ (fun _ _ => by show j < i ∨ i + 1 ≤ j; omega)]
      exact h.cell hx
  · intro j hj
    rw [List.length_set] at hj
    refine ⟨?_, by rw [fz]; exact (h.th j hj).2⟩
    rw [Nat.zero_add]
    by_cases hj2 : j = i
    · subst hj2
      have := inn 0 (by show 0 < 1; omega)
      rw [Nat.add_zero] at this
      rw [this]; rfl
    · rw [out _ (fun _ _ => by show j < i ∨ i + 1 ≤ j; omega)]
      have := (h.th j hj).1
      rwa [Nat.zero_add] at this
theorem Rw.apart {w : World} {b c : Nat} {vs : List Value} (h : Rw w b vs) (hc : b ≠ c) (i : Nat) (v : Value) : Rw (w.setCell ⟨c, i, none⟩ v) b vs := by
  have out := World.cell?_setCells_out c [v] i w
  have ew : w.setCells c i [v] = w.setCell ⟨c, i, none⟩ v := rfl
  have fz : ∀ p, (w.setCell ⟨c, i, none⟩ v).frozen? p = w.frozen? p := fun p => by rw [← ew, World.frozen?_setCells]
  rw [ew] at out
  refine ⟨fun j x hx => ?_, fun j hj => ?_, by rw [set_size]; exact h.lt⟩
  · rw [out _ (fun e => absurd e hc)]
    exact h.row j x hx
  · rw [fz, out _ (fun e => absurd e hc)]
    exact h.th j hj
theorem Rw.new (w : World) (vs : List Value) (t : TypeId) : Rw (w.alloc (.cells vs.toArray t)) w.heap.size vs :=
  ⟨rangeAt_new w vs t, there_new w vs.toArray t vs.length (by simp), by simp⟩
/-- All but one block is as it was. -/
structure Only (b : Nat) (w w' : World) : Prop where
  size : w.heap.size ≤ w'.heap.size
  block : ∀ k, k < w.heap.size → k ≠ b → w'.heap[k]? = w.heap[k]?
theorem Only.refl (b : Nat) (w : World) : Only b w w := ⟨Nat.le_refl _, fun _ _ _ => rfl⟩
theorem Only.trans {b : Nat} {u v w : World} (h : Only b u v) (g : Only b v w) : Only b u w := ⟨Nat.le_trans h.size g.size, fun k hk hb => (g.block k (Nat.lt_of_lt_of_le hk h.size) hb).trans (h.block k hk hb)⟩
theorem Only.of {b : Nat} {w w' : World} (h : Below w.heap.size w w') : Only b w w' := ⟨h.size, fun k hk _ => h.block k hk⟩
theorem Only.set (b i : Nat) (v : Value) (w : World) : Only b w (w.setCell ⟨b, i, none⟩ v) := ⟨by rw [set_size]; exact Nat.le_refl _, fun k _ hb => by
  show (w.heap.modify b _)[k]? = _
  rw [Array.getElem?_modify, if_neg (fun e => hb e.symm)]⟩
theorem Rw.only {w w' : World} {b c : Nat} {vs : List Value} (h : Rw w b vs) (o : Only c w w') (hb : b ≠ c) : Rw w' b vs := by
  have e : w'.heap[b]? = w.heap[b]? := o.block b h.lt hb
  refine ⟨fun j x hx => ?_, fun j hj => ?_, Nat.lt_of_lt_of_le h.lt o.size⟩
  · have := h.row j x hx
    unfold World.cell? at this ⊢
    rw [e]; exact this
  · have := h.th j hj
    refine ⟨?_, ?_⟩
    · have := this.1
      unfold World.cell? at this ⊢
      rw [e]; exact this
    · have := this.2
      unfold World.frozen? at this ⊢
      rw [e]; exact this
theorem Rw.call {w w' : World} {b : Nat} {vs : List Value} (h : Rw w b vs) (hb : Below w.heap.size w w') : Rw w' b vs := by
  have o : Only w.heap.size w w' := Only.of hb
  exact h.only o (Nat.ne_of_lt h.lt)
/-- Words as values. -/
def w32L (l : List Nat) : List Value := l.map fun (x : Nat) => Value.int .u32 (x : Int)
theorem w32L_get {l : List Nat} {j x : Nat} (h : l[j]? = some x) : (w32L l)[j]? = some (.int .u32 (x : Int)) := by unfold w32L; rw [List.getElem?_map, h]; rfl
theorem w32L_set (l : List Nat) (j x : Nat) : (w32L l).set j (.int .u32 (x : Int)) = w32L (l.set j x) := by unfold w32L; rw [List.map_set]
theorem w32L_len (l : List Nat) : (w32L l).length = l.length := by unfold w32L; rw [List.length_map]
/-- Bytes as values. -/
def by8L (l : List UInt8) : List Value := l.map fun x => .int .u8 (x.toNat : Int)
theorem by8L_get {l : List UInt8} {j : Nat} (h : j < l.length) : (by8L l)[j]? = some (.int .u8 ((l.getD j 0).toNat : Int)) := by
  unfold by8L
  rw [List.getElem?_map, List.getD_eq_getElem?_getD, List.getElem?_eq_getElem h]
  rfl
/-- A list, filled from the front. -/
def fillL (l : List Nat) (n : Nat) : List Nat := l ++ List.replicate (n - l.length) 0
theorem fillL_len {l : List Nat} {n : Nat} (h : l.length ≤ n) : (fillL l n).length = n := by unfold fillL; rw [List.length_append, List.length_replicate]; omega
theorem fillL_get {l : List Nat} {n j : Nat} (h : j < l.length) : (fillL l n)[j]? = some (l.getD j 0) := by
  unfold fillL
  rw [List.getElem?_append_left h, List.getD_eq_getElem?_getD, List.getElem?_eq_getElem h]
  rfl
theorem fillL_zero {l : List Nat} {n j : Nat} (h : l.length ≤ j) (hj : j < n) : (fillL l n)[j]? = some 0 := by
  unfold fillL
  rw [List.getElem?_append_right h, List.getElem?_replicate]
  rw [if_pos (by omega)]
theorem fillL_set {l : List Nat} {n : Nat} (x : Nat) (h : l.length < n) : (fillL l n).set l.length x = fillL (l ++ [x]) n := by
  unfold fillL
  rw [List.set_append_right _ _ (Nat.le_refl _), Nat.sub_self, List.length_append]
  obtain ⟨m, hm⟩ : ∃ m, n - l.length = m + 1 := ⟨n - l.length - 1, by omega⟩
  rw [hm, List.replicate_succ, List.set_cons_zero, show n - (l.length + [x].length) = m by simp only [List.length_cons, List.length_nil]; omega]
  simp
end Arw
end Go.Proofs.YtafeigpmldgifaaDoor
/-
  The walks of Check of merge and of Check of the reference.
-/
namespace Go.Proofs.YtafeigpmldgifaaDoor
namespace Cgw
open Go.RowKit Lw Go.Proofs.YtafeigpmldgifaaDoor.Dp Go.Proofs.YtafeigpmldgifaaDoor.Cgp Go.Proofs.YtafeigpmldgifaaDoor.Arw

/-- A change's cells. -/
abbrev cgC (c : Cg) : List Value := [.int .u8 c.k, .int .i64 c.a.n, .int .i64 c.a.y, .int .u8 c.a.h, .int .u8 c.a.s, .int .i64 c.a.c, .int .i64 c.b.n, .int .i64 c.b.y, .int .u8 c.b.h, .int .u8 c.b.s, .int .i64 c.b.c, .int .i64 c.n]
/-- Bounds of a change's numbers. -/
structure CB (c : Cg) : Prop where
  k0 : 0 ≤ c.k
  k1 : c.k < 256
  ah : 0 ≤ c.a.h ∧ c.a.h < 256
  aq : 0 ≤ c.a.s ∧ c.a.s < 256
  bh : 0 ≤ c.b.h ∧ c.b.h < 256
  bs : 0 ≤ c.b.s ∧ c.b.s < 256
  n0 : -9223372036854775808 ≤ c.n
  n1 : c.n ≤ 9223372036854775807
/-- A box that holds a change. -/
structure CX (w0 : World) (c : Cg) (w : World) : Prop where
  row : w.rangeAt w0.heap.size 0 (cgC c)
  lt : w0.heap.size < w.heap.size
  below : Below w0.heap.size w0 w
theorem CX.new (w : World) (c : Cg) : CX w c (w.alloc (.cells (cgC c).toArray 52)) := ⟨rangeAt_new w (cgC c) _, by simp, (Below.refl _ _).alloc (Nat.le_refl _) _⟩
theorem CX.call {w0 w w' : World} {c : Cg} (h : CX w0 c w) (hb : Below w.heap.size w w') : CX w0 c w' := ⟨rangeAt_below h.row hb h.lt, Nat.lt_of_lt_of_le h.lt hb.size, below_then h.below hb⟩
theorem CX.cell {w0 w : World} {c : Cg} (h : CX w0 c w) (j : Nat) (v : Value) (hj : (cgC c)[j]? = some v) : w.cell? ⟨w0.heap.size, j, none⟩ = some v := by
  have := h.row j v hj
  rwa [Nat.zero_add] at this
theorem errC_t {d : Dg} (g : okG d) : (errC d.n d.y d.h d.s d.c == 0) = true := by rw [errC_ok g]; rfl
theorem errC_f {d : Dg} (g : ¬ okG d) : (errC d.n d.y d.h d.s d.c == 0) = false := by rw [errC_no g]; rfl
theorem okC_1 {a b : Dg} {n : Int} : okC ⟨1, a, b, n⟩ ↔ okG a ∧ a.n = 0 ∧ b = zeroG ∧ n = 0 := by
  unfold okC
  constructor
  · rintro (⟨_, h⟩ | ⟨h, _⟩ | ⟨h, _⟩ | ⟨h, _⟩)
    · exact h
    all_goals (simp at h)
  · exact fun h => Or.inl ⟨rfl, h⟩
theorem okC_2 {a b : Dg} {n : Int} : okC ⟨2, a, b, n⟩ ↔ okG a ∧ okG b ∧ a ≠ b ∧ n = 0 := by
  unfold okC
  constructor
  · rintro (⟨h, _⟩ | ⟨_, h⟩ | ⟨h, _⟩ | ⟨h, _⟩)
    · simp at h
    · exact h
    all_goals (simp at h)
  · exact fun h => Or.inr (Or.inl ⟨rfl, h⟩)
theorem okC_3 {a b : Dg} {n : Int} : okC ⟨3, a, b, n⟩ ↔ okG a ∧ okG b ∧ 0 < b.n ∧ n = 0 := by
  unfold okC
  constructor
  · rintro (⟨h, _⟩ | ⟨h, _⟩ | ⟨_, h⟩ | ⟨h, _⟩)
    · simp at h
    · simp at h
    · exact h
    · simp at h
  · exact fun h => Or.inr (Or.inr (Or.inl ⟨rfl, h⟩))
theorem okC_4 {a b : Dg} {n : Int} : okC ⟨4, a, b, n⟩ ↔ a = zeroG ∧ b = zeroG ∧ 0 ≤ n ∧ n ≤ 9223372036854775807 := by
  unfold okC
  constructor
  · rintro (⟨h, _⟩ | ⟨h, _⟩ | ⟨h, _⟩ | ⟨_, h⟩)
    · simp at h
    · simp at h
    · simp at h
    · exact h
  · exact fun h => Or.inr (Or.inr (Or.inr ⟨rfl, h⟩))
theorem okC_o {k : Int} {a b : Dg} {n : Int} (h1 : k ≠ 1) (h2 : k ≠ 2) (h3 : k ≠ 3) (h4 : k ≠ 4) : ¬ okC ⟨k, a, b, n⟩ := fun h => by
  rcases okC_k h with e | e | e | e
  · exact h1 e
  · exact h2 e
  · exact h3 e
  · exact h4 e
theorem dg_ne {x y : Dg} (h : x ≠ y) : (¬ x.n = y.n) ∨ (x.n = y.n ∧ ¬ x.y = y.y) ∨ (x.n = y.n ∧ x.y = y.y ∧ ¬ x.h = y.h) ∨ (x.n = y.n ∧ x.y = y.y ∧ x.h = y.h ∧ ¬ x.s = y.s) ∨ (x.n = y.n ∧ x.y = y.y ∧ x.h = y.h ∧ x.s = y.s ∧ ¬ x.c = y.c) := by
  obtain ⟨a, b, c, d, e⟩ := x
  obtain ⟨a', b', c', d', e'⟩ := y
  simp only
  by_cases h1 : a = a'
  · by_cases h2 : b = b'
    · by_cases h3 : c = c'
      · by_cases h4 : d = d'
        · refine Or.inr (Or.inr (Or.inr (Or.inr ⟨h1, h2, h3, h4, fun h5 => h ?_⟩)))
          rw [h1, h2, h3, h4, h5]
        · exact Or.inr (Or.inr (Or.inr (Or.inl ⟨h1, h2, h3, h4⟩)))
      · exact Or.inr (Or.inr (Or.inl ⟨h1, h2, h3⟩))
    · exact Or.inr (Or.inl ⟨h1, h2⟩)
  · exact Or.inl h1
theorem zero_no : ¬ okG zeroG := by decide
set_option maxRecDepth 100000 in
set_option maxHeartbeats 16000000 in
theorem mcheck_any (c : Cg) (w : World) (hT : Dw.Tab w) (cb : CB c) :
    Calls Tryd.prog 34 #[.agg (cgC c).toArray] w fun e w' => (∃ r, e = .returned (.int .i64 r) ∧ ((okC c ∧ r = 0) ∨ (¬ okC c ∧ r = 8))) ∧ Below w.heap.size w w' := by
  have HT := Lib.hid (fun w' (h : Below w.heap.size w w') => hT.below h)
  have X0 := Lib.hid (CX.new w c)
  have CA := Lib.hid (fun w' h => Dw.check_any c.a.n c.a.y c.a.h c.a.s c.a.c w' h cb.ah.1 cb.ah.2 cb.aq.1 cb.aq.2)
  have CBb := Lib.hid (fun w' h => Dw.check_any c.b.n c.b.y c.b.h c.b.s c.b.c w' h cb.bh.1 cb.bh.2 cb.bs.1 cb.bs.2)
  have nb := cb.n1
  clear hT cb
  go_enter Tryd.func34, Tryd.ntmps34
  go_wp2_with fail
  generalize w.alloc (.cells (cgC c).toArray 52) = w1 at *
  refine (CA.out _ (HT.out _ X0.out.below)).mono ?_
  rintro e w2 ⟨rfl, hb⟩
  have X1 := Lib.hid (X0.out.call hb)
  clear hb X0 CA
  have GA := Lib.hid (fun (h : okG c.a) => errC_t h)
  have GA' := Lib.hid (fun (h : ¬ okG c.a) => errC_f h)
  obtain ⟨k, ⟨an, ay, ah, az, ac⟩, ⟨bn, by_, bh, bs, bc⟩, n⟩ := c
  simp only at nb
  have c0 := X1.out.cell 0 _ rfl
  have c1 := X1.out.cell 1 _ rfl
  have c2 := X1.out.cell 2 _ rfl
  have c3 := X1.out.cell 3 _ rfl
  have c4 := X1.out.cell 4 _ rfl
  have c5 := X1.out.cell 5 _ rfl
  have c6 := X1.out.cell 6 _ rfl
  have c7 := X1.out.cell 7 _ rfl
  have c8 := X1.out.cell 8 _ rfl
  have c9 := X1.out.cell 9 _ rfl
  have c10 := X1.out.cell 10 _ rfl
  have c11 := X1.out.cell 11 _ rfl
  simp only at GA GA'
  generalize errC an ay ah az ac = ea at *
  by_cases gA : okG ⟨an, ay, ah, az, ac⟩
  · have eA := GA.out gA
    clear GA GA'
    go_wp2_with fail
    refine (CBb.out _ (HT.out _ X1.out.below)).mono ?_
    rintro e w3 ⟨rfl, hb⟩
    have XN := Lib.hid (X1.out.call hb)
    clear hb c0 c1 c2 c3 c4 c5 c6 c7 c8 c9 c10 c11 X1 CBb HT
    have c0 := XN.out.cell 0 _ rfl
    have c1 := XN.out.cell 1 _ rfl
    have c2 := XN.out.cell 2 _ rfl
    have c3 := XN.out.cell 3 _ rfl
    have c4 := XN.out.cell 4 _ rfl
    have c5 := XN.out.cell 5 _ rfl
    have c6 := XN.out.cell 6 _ rfl
    have c7 := XN.out.cell 7 _ rfl
    have c8 := XN.out.cell 8 _ rfl
    have c9 := XN.out.cell 9 _ rfl
    have c10 := XN.out.cell 10 _ rfl
    have c11 := XN.out.cell 11 _ rfl
    have GB := Lib.hid (fun (h : okG ⟨bn, by_, bh, bs, bc⟩) => errC_t h)
    have GB' := Lib.hid (fun (h : ¬ okG ⟨bn, by_, bh, bs, bc⟩) => errC_f h)
    simp only at GB GB'
    generalize errC bn by_ bh bs bc = eb at *
    by_cases gB : okG ⟨bn, by_, bh, bs, bc⟩
    · have eB := GB.out gB
      clear GB GB'
      by_cases k1 : k = 1
      · subst k1
        by_cases e0 : an = 0
        · skip
          by_cases z0 : (⟨bn, by_, bh, bs, bc⟩ : Dg) = zeroG
          · skip
            have zb1 : bn = 0 := congrArg Dg.n z0
            have zb2 : by_ = 0 := congrArg Dg.y z0
            have zb3 : bh = 0 := congrArg Dg.h z0
            have zb4 : bs = 0 := congrArg Dg.s z0
            have zb5 : bc = 0 := congrArg Dg.c z0
            by_cases n0 : n = 0
            · skip
              have NO := Lib.hid (show okC ⟨1, ⟨an, ay, ah, az, ac⟩, ⟨bn, by_, bh, bs, bc⟩, n⟩ from okC_1.2 ⟨gA, e0, z0, n0⟩)
              clear gA gB z0
              go_wp2_with fail
              go_ret
              exact ⟨⟨0, rfl, Or.inl ⟨NO.out, rfl⟩⟩, XN.out.below⟩
            · have n1 : (n == 0) = false := beq_eq_false_iff_ne.2 n0
              have NO := Lib.hid (show ¬ okC ⟨1, ⟨an, ay, ah, az, ac⟩, ⟨bn, by_, bh, bs, bc⟩, n⟩ from fun h => n0 (okC_1.1 h).2.2.2)
              clear gA gB 
              go_wp2_with fail
              go_ret
              exact ⟨⟨8, rfl, Or.inr ⟨NO.out, rfl⟩⟩, XN.out.below⟩
          · skip
            rcases dg_ne z0 with g | ⟨e1, g⟩ | ⟨e1, e2, g⟩ | ⟨e1, e2, e3, g⟩ | ⟨e1, e2, e3, e4, g⟩
            · simp only [zeroG] at g
              have NO := Lib.hid (show ¬ okC ⟨1, ⟨an, ay, ah, az, ac⟩, ⟨bn, by_, bh, bs, bc⟩, n⟩ from fun h => z0 (okC_1.1 h).2.2.1)
              clear gA gB z0
              go_wp2_with fail
              go_ret
              exact ⟨⟨8, rfl, Or.inr ⟨NO.out, rfl⟩⟩, XN.out.below⟩
            · simp only [zeroG] at g e1
              have NO := Lib.hid (show ¬ okC ⟨1, ⟨an, ay, ah, az, ac⟩, ⟨bn, by_, bh, bs, bc⟩, n⟩ from fun h => z0 (okC_1.1 h).2.2.1)
              clear gA gB z0
              go_wp2_with fail
              go_ret
              exact ⟨⟨8, rfl, Or.inr ⟨NO.out, rfl⟩⟩, XN.out.below⟩
            · simp only [zeroG] at g e1 e2
              have NO := Lib.hid (show ¬ okC ⟨1, ⟨an, ay, ah, az, ac⟩, ⟨bn, by_, bh, bs, bc⟩, n⟩ from fun h => z0 (okC_1.1 h).2.2.1)
              clear gA gB z0
              go_wp2_with fail
              go_ret
              exact ⟨⟨8, rfl, Or.inr ⟨NO.out, rfl⟩⟩, XN.out.below⟩
            · simp only [zeroG] at g e1 e2 e3
              have NO := Lib.hid (show ¬ okC ⟨1, ⟨an, ay, ah, az, ac⟩, ⟨bn, by_, bh, bs, bc⟩, n⟩ from fun h => z0 (okC_1.1 h).2.2.1)
              clear gA gB z0
              go_wp2_with fail
              go_ret
              exact ⟨⟨8, rfl, Or.inr ⟨NO.out, rfl⟩⟩, XN.out.below⟩
            · simp only [zeroG] at g e1 e2 e3 e4
              have NO := Lib.hid (show ¬ okC ⟨1, ⟨an, ay, ah, az, ac⟩, ⟨bn, by_, bh, bs, bc⟩, n⟩ from fun h => z0 (okC_1.1 h).2.2.1)
              clear gA gB z0
              go_wp2_with fail
              go_ret
              exact ⟨⟨8, rfl, Or.inr ⟨NO.out, rfl⟩⟩, XN.out.below⟩
        · skip
          have NO := Lib.hid (show ¬ okC ⟨1, ⟨an, ay, ah, az, ac⟩, ⟨bn, by_, bh, bs, bc⟩, n⟩ from fun h => e0 (okC_1.1 h).2.1)
          clear gA gB 
          go_wp2_with fail
          go_ret
          exact ⟨⟨8, rfl, Or.inr ⟨NO.out, rfl⟩⟩, XN.out.below⟩
      by_cases k2 : k = 2
      · subst k2
        by_cases n0 : n = 0
        · skip
          by_cases z0 : (⟨an, ay, ah, az, ac⟩ : Dg) = ⟨bn, by_, bh, bs, bc⟩
          · skip
            have za1 : an = bn := congrArg Dg.n z0
            have za2 : ay = by_ := congrArg Dg.y z0
            have za3 : ah = bh := congrArg Dg.h z0
            have za4 : az = bs := congrArg Dg.s z0
            have za5 : ac = bc := congrArg Dg.c z0
            have NO := Lib.hid (show ¬ okC ⟨2, ⟨an, ay, ah, az, ac⟩, ⟨bn, by_, bh, bs, bc⟩, n⟩ from fun h => (okC_2.1 h).2.2.1 z0)
            clear gA gB z0
            go_wp2_with fail
            go_ret
            exact ⟨⟨8, rfl, Or.inr ⟨NO.out, rfl⟩⟩, XN.out.below⟩
          · skip
            rcases dg_ne z0 with g | ⟨e1, g⟩ | ⟨e1, e2, g⟩ | ⟨e1, e2, e3, g⟩ | ⟨e1, e2, e3, e4, g⟩
            · simp only at g
              have NO := Lib.hid (show okC ⟨2, ⟨an, ay, ah, az, ac⟩, ⟨bn, by_, bh, bs, bc⟩, n⟩ from okC_2.2 ⟨gA, gB, z0, n0⟩)
              clear gA gB z0
              go_wp2_with fail
              go_ret
              exact ⟨⟨0, rfl, Or.inl ⟨NO.out, rfl⟩⟩, XN.out.below⟩
            · simp only at g e1
              have NO := Lib.hid (show okC ⟨2, ⟨an, ay, ah, az, ac⟩, ⟨bn, by_, bh, bs, bc⟩, n⟩ from okC_2.2 ⟨gA, gB, z0, n0⟩)
              clear gA gB z0
              go_wp2_with fail
              go_ret
              exact ⟨⟨0, rfl, Or.inl ⟨NO.out, rfl⟩⟩, XN.out.below⟩
            · simp only at g e1 e2
              have NO := Lib.hid (show okC ⟨2, ⟨an, ay, ah, az, ac⟩, ⟨bn, by_, bh, bs, bc⟩, n⟩ from okC_2.2 ⟨gA, gB, z0, n0⟩)
              clear gA gB z0
              go_wp2_with fail
              go_ret
              exact ⟨⟨0, rfl, Or.inl ⟨NO.out, rfl⟩⟩, XN.out.below⟩
            · simp only at g e1 e2 e3
              have NO := Lib.hid (show okC ⟨2, ⟨an, ay, ah, az, ac⟩, ⟨bn, by_, bh, bs, bc⟩, n⟩ from okC_2.2 ⟨gA, gB, z0, n0⟩)
              clear gA gB z0
              go_wp2_with fail
              go_ret
              exact ⟨⟨0, rfl, Or.inl ⟨NO.out, rfl⟩⟩, XN.out.below⟩
            · simp only at g e1 e2 e3 e4
              have NO := Lib.hid (show okC ⟨2, ⟨an, ay, ah, az, ac⟩, ⟨bn, by_, bh, bs, bc⟩, n⟩ from okC_2.2 ⟨gA, gB, z0, n0⟩)
              clear gA gB z0
              go_wp2_with fail
              go_ret
              exact ⟨⟨0, rfl, Or.inl ⟨NO.out, rfl⟩⟩, XN.out.below⟩
        · have n1 : (n == 0) = false := beq_eq_false_iff_ne.2 n0
          have NO := Lib.hid (show ¬ okC ⟨2, ⟨an, ay, ah, az, ac⟩, ⟨bn, by_, bh, bs, bc⟩, n⟩ from fun h => n0 (okC_2.1 h).2.2.2)
          clear gA gB 
          go_wp2_with fail
          go_ret
          exact ⟨⟨8, rfl, Or.inr ⟨NO.out, rfl⟩⟩, XN.out.below⟩
      by_cases k3 : k = 3
      · subst k3
        by_cases n0 : n = 0
        · skip
          by_cases p0 : 0 < bn
          · skip
            have NO := Lib.hid (show okC ⟨3, ⟨an, ay, ah, az, ac⟩, ⟨bn, by_, bh, bs, bc⟩, n⟩ from okC_3.2 ⟨gA, gB, p0, n0⟩)
            clear gA gB 
            go_wp2_with fail
            go_ret
            exact ⟨⟨0, rfl, Or.inl ⟨NO.out, rfl⟩⟩, XN.out.below⟩
          · have p1 : decide (0 < bn) = false := decide_eq_false p0
            have NO := Lib.hid (show ¬ okC ⟨3, ⟨an, ay, ah, az, ac⟩, ⟨bn, by_, bh, bs, bc⟩, n⟩ from fun h => p0 (okC_3.1 h).2.2.1)
            clear gA gB 
            go_wp2_with fail
            go_ret
            exact ⟨⟨8, rfl, Or.inr ⟨NO.out, rfl⟩⟩, XN.out.below⟩
        · have n1 : (n == 0) = false := beq_eq_false_iff_ne.2 n0
          have NO := Lib.hid (show ¬ okC ⟨3, ⟨an, ay, ah, az, ac⟩, ⟨bn, by_, bh, bs, bc⟩, n⟩ from fun h => n0 (okC_3.1 h).2.2.2)
          clear gA gB 
          go_wp2_with fail
          go_ret
          exact ⟨⟨8, rfl, Or.inr ⟨NO.out, rfl⟩⟩, XN.out.below⟩
      by_cases k4 : k = 4
      · subst k4
        by_cases n0 : n = 0 ∨ n ≠ 0
        · skip
          have z0 : (⟨an, ay, ah, az, ac⟩ : Dg) ≠ zeroG := fun h => zero_no (h ▸ gA)
          rcases dg_ne z0 with g | ⟨e1, g⟩ | ⟨e1, e2, g⟩ | ⟨e1, e2, e3, g⟩ | ⟨e1, e2, e3, e4, g⟩
          · simp only [zeroG] at g
            have NO := Lib.hid (show ¬ okC ⟨4, ⟨an, ay, ah, az, ac⟩, ⟨bn, by_, bh, bs, bc⟩, n⟩ from fun h => z0 (okC_4.1 h).1)
            clear gA gB z0
            go_wp2_with fail
            go_ret
            exact ⟨⟨8, rfl, Or.inr ⟨NO.out, rfl⟩⟩, XN.out.below⟩
          · simp only [zeroG] at g e1
            have NO := Lib.hid (show ¬ okC ⟨4, ⟨an, ay, ah, az, ac⟩, ⟨bn, by_, bh, bs, bc⟩, n⟩ from fun h => z0 (okC_4.1 h).1)
            clear gA gB z0
            go_wp2_with fail
            go_ret
            exact ⟨⟨8, rfl, Or.inr ⟨NO.out, rfl⟩⟩, XN.out.below⟩
          · simp only [zeroG] at g e1 e2
            have NO := Lib.hid (show ¬ okC ⟨4, ⟨an, ay, ah, az, ac⟩, ⟨bn, by_, bh, bs, bc⟩, n⟩ from fun h => z0 (okC_4.1 h).1)
            clear gA gB z0
            go_wp2_with fail
            go_ret
            exact ⟨⟨8, rfl, Or.inr ⟨NO.out, rfl⟩⟩, XN.out.below⟩
          · simp only [zeroG] at g e1 e2 e3
            have NO := Lib.hid (show ¬ okC ⟨4, ⟨an, ay, ah, az, ac⟩, ⟨bn, by_, bh, bs, bc⟩, n⟩ from fun h => z0 (okC_4.1 h).1)
            clear gA gB z0
            go_wp2_with fail
            go_ret
            exact ⟨⟨8, rfl, Or.inr ⟨NO.out, rfl⟩⟩, XN.out.below⟩
          · simp only [zeroG] at g e1 e2 e3 e4
            have NO := Lib.hid (show ¬ okC ⟨4, ⟨an, ay, ah, az, ac⟩, ⟨bn, by_, bh, bs, bc⟩, n⟩ from fun h => z0 (okC_4.1 h).1)
            clear gA gB z0
            go_wp2_with fail
            go_ret
            exact ⟨⟨8, rfl, Or.inr ⟨NO.out, rfl⟩⟩, XN.out.below⟩
        · exact absurd (Classical.em _) n0
      have NO := Lib.hid (show ¬ okC ⟨k, ⟨an, ay, ah, az, ac⟩, ⟨bn, by_, bh, bs, bc⟩, n⟩ from okC_o k1 k2 k3 k4)
      clear gA gB 
      go_wp2_with fail
      go_ret
      exact ⟨⟨8, rfl, Or.inr ⟨NO.out, rfl⟩⟩, XN.out.below⟩
    · have eB := GB'.out gB
      clear GB GB'
      by_cases k1 : k = 1
      · subst k1
        by_cases e0 : an = 0
        · skip
          by_cases z0 : (⟨bn, by_, bh, bs, bc⟩ : Dg) = zeroG
          · skip
            have zb1 : bn = 0 := congrArg Dg.n z0
            have zb2 : by_ = 0 := congrArg Dg.y z0
            have zb3 : bh = 0 := congrArg Dg.h z0
            have zb4 : bs = 0 := congrArg Dg.s z0
            have zb5 : bc = 0 := congrArg Dg.c z0
            by_cases n0 : n = 0
            · skip
              have NO := Lib.hid (show okC ⟨1, ⟨an, ay, ah, az, ac⟩, ⟨bn, by_, bh, bs, bc⟩, n⟩ from okC_1.2 ⟨gA, e0, z0, n0⟩)
              clear gA gB z0
              go_wp2_with fail
              go_ret
              exact ⟨⟨0, rfl, Or.inl ⟨NO.out, rfl⟩⟩, XN.out.below⟩
            · have n1 : (n == 0) = false := beq_eq_false_iff_ne.2 n0
              have NO := Lib.hid (show ¬ okC ⟨1, ⟨an, ay, ah, az, ac⟩, ⟨bn, by_, bh, bs, bc⟩, n⟩ from fun h => n0 (okC_1.1 h).2.2.2)
              clear gA gB 
              go_wp2_with fail
              go_ret
              exact ⟨⟨8, rfl, Or.inr ⟨NO.out, rfl⟩⟩, XN.out.below⟩
          · skip
            rcases dg_ne z0 with g | ⟨e1, g⟩ | ⟨e1, e2, g⟩ | ⟨e1, e2, e3, g⟩ | ⟨e1, e2, e3, e4, g⟩
            · simp only [zeroG] at g
              have NO := Lib.hid (show ¬ okC ⟨1, ⟨an, ay, ah, az, ac⟩, ⟨bn, by_, bh, bs, bc⟩, n⟩ from fun h => z0 (okC_1.1 h).2.2.1)
              clear gA gB z0
              go_wp2_with fail
              go_ret
              exact ⟨⟨8, rfl, Or.inr ⟨NO.out, rfl⟩⟩, XN.out.below⟩
            · simp only [zeroG] at g e1
              have NO := Lib.hid (show ¬ okC ⟨1, ⟨an, ay, ah, az, ac⟩, ⟨bn, by_, bh, bs, bc⟩, n⟩ from fun h => z0 (okC_1.1 h).2.2.1)
              clear gA gB z0
              go_wp2_with fail
              go_ret
              exact ⟨⟨8, rfl, Or.inr ⟨NO.out, rfl⟩⟩, XN.out.below⟩
            · simp only [zeroG] at g e1 e2
              have NO := Lib.hid (show ¬ okC ⟨1, ⟨an, ay, ah, az, ac⟩, ⟨bn, by_, bh, bs, bc⟩, n⟩ from fun h => z0 (okC_1.1 h).2.2.1)
              clear gA gB z0
              go_wp2_with fail
              go_ret
              exact ⟨⟨8, rfl, Or.inr ⟨NO.out, rfl⟩⟩, XN.out.below⟩
            · simp only [zeroG] at g e1 e2 e3
              have NO := Lib.hid (show ¬ okC ⟨1, ⟨an, ay, ah, az, ac⟩, ⟨bn, by_, bh, bs, bc⟩, n⟩ from fun h => z0 (okC_1.1 h).2.2.1)
              clear gA gB z0
              go_wp2_with fail
              go_ret
              exact ⟨⟨8, rfl, Or.inr ⟨NO.out, rfl⟩⟩, XN.out.below⟩
            · simp only [zeroG] at g e1 e2 e3 e4
              have NO := Lib.hid (show ¬ okC ⟨1, ⟨an, ay, ah, az, ac⟩, ⟨bn, by_, bh, bs, bc⟩, n⟩ from fun h => z0 (okC_1.1 h).2.2.1)
              clear gA gB z0
              go_wp2_with fail
              go_ret
              exact ⟨⟨8, rfl, Or.inr ⟨NO.out, rfl⟩⟩, XN.out.below⟩
        · skip
          have NO := Lib.hid (show ¬ okC ⟨1, ⟨an, ay, ah, az, ac⟩, ⟨bn, by_, bh, bs, bc⟩, n⟩ from fun h => e0 (okC_1.1 h).2.1)
          clear gA gB 
          go_wp2_with fail
          go_ret
          exact ⟨⟨8, rfl, Or.inr ⟨NO.out, rfl⟩⟩, XN.out.below⟩
      by_cases k2 : k = 2
      · subst k2
        have NO := Lib.hid (show ¬ okC ⟨2, ⟨an, ay, ah, az, ac⟩, ⟨bn, by_, bh, bs, bc⟩, n⟩ from fun h => gB (okC_2.1 h).2.1)
        clear gA gB 
        go_wp2_with fail
        go_ret
        exact ⟨⟨8, rfl, Or.inr ⟨NO.out, rfl⟩⟩, XN.out.below⟩
      by_cases k3 : k = 3
      · subst k3
        have NO := Lib.hid (show ¬ okC ⟨3, ⟨an, ay, ah, az, ac⟩, ⟨bn, by_, bh, bs, bc⟩, n⟩ from fun h => gB (okC_3.1 h).2.1)
        clear gA gB 
        go_wp2_with fail
        go_ret
        exact ⟨⟨8, rfl, Or.inr ⟨NO.out, rfl⟩⟩, XN.out.below⟩
      by_cases k4 : k = 4
      · subst k4
        by_cases n0 : n = 0 ∨ n ≠ 0
        · skip
          have z0 : (⟨an, ay, ah, az, ac⟩ : Dg) ≠ zeroG := fun h => zero_no (h ▸ gA)
          rcases dg_ne z0 with g | ⟨e1, g⟩ | ⟨e1, e2, g⟩ | ⟨e1, e2, e3, g⟩ | ⟨e1, e2, e3, e4, g⟩
          · simp only [zeroG] at g
            have NO := Lib.hid (show ¬ okC ⟨4, ⟨an, ay, ah, az, ac⟩, ⟨bn, by_, bh, bs, bc⟩, n⟩ from fun h => z0 (okC_4.1 h).1)
            clear gA gB z0
            go_wp2_with fail
            go_ret
            exact ⟨⟨8, rfl, Or.inr ⟨NO.out, rfl⟩⟩, XN.out.below⟩
          · simp only [zeroG] at g e1
            have NO := Lib.hid (show ¬ okC ⟨4, ⟨an, ay, ah, az, ac⟩, ⟨bn, by_, bh, bs, bc⟩, n⟩ from fun h => z0 (okC_4.1 h).1)
            clear gA gB z0
            go_wp2_with fail
            go_ret
            exact ⟨⟨8, rfl, Or.inr ⟨NO.out, rfl⟩⟩, XN.out.below⟩
          · simp only [zeroG] at g e1 e2
            have NO := Lib.hid (show ¬ okC ⟨4, ⟨an, ay, ah, az, ac⟩, ⟨bn, by_, bh, bs, bc⟩, n⟩ from fun h => z0 (okC_4.1 h).1)
            clear gA gB z0
            go_wp2_with fail
            go_ret
            exact ⟨⟨8, rfl, Or.inr ⟨NO.out, rfl⟩⟩, XN.out.below⟩
          · simp only [zeroG] at g e1 e2 e3
            have NO := Lib.hid (show ¬ okC ⟨4, ⟨an, ay, ah, az, ac⟩, ⟨bn, by_, bh, bs, bc⟩, n⟩ from fun h => z0 (okC_4.1 h).1)
            clear gA gB z0
            go_wp2_with fail
            go_ret
            exact ⟨⟨8, rfl, Or.inr ⟨NO.out, rfl⟩⟩, XN.out.below⟩
          · simp only [zeroG] at g e1 e2 e3 e4
            have NO := Lib.hid (show ¬ okC ⟨4, ⟨an, ay, ah, az, ac⟩, ⟨bn, by_, bh, bs, bc⟩, n⟩ from fun h => z0 (okC_4.1 h).1)
            clear gA gB z0
            go_wp2_with fail
            go_ret
            exact ⟨⟨8, rfl, Or.inr ⟨NO.out, rfl⟩⟩, XN.out.below⟩
        · exact absurd (Classical.em _) n0
      have NO := Lib.hid (show ¬ okC ⟨k, ⟨an, ay, ah, az, ac⟩, ⟨bn, by_, bh, bs, bc⟩, n⟩ from okC_o k1 k2 k3 k4)
      clear gA gB 
      go_wp2_with fail
      go_ret
      exact ⟨⟨8, rfl, Or.inr ⟨NO.out, rfl⟩⟩, XN.out.below⟩
  · have eA := GA'.out gA
    clear GA GA'
    have XN := X1
    have gB : True := trivial
    clear X1 CBb HT
    by_cases k1 : k = 1
    · subst k1
      have NO := Lib.hid (show ¬ okC ⟨1, ⟨an, ay, ah, az, ac⟩, ⟨bn, by_, bh, bs, bc⟩, n⟩ from fun h => gA (okC_1.1 h).1)
      clear gA gB 
      go_wp2_with fail
      go_ret
      exact ⟨⟨8, rfl, Or.inr ⟨NO.out, rfl⟩⟩, XN.out.below⟩
    by_cases k2 : k = 2
    · subst k2
      have NO := Lib.hid (show ¬ okC ⟨2, ⟨an, ay, ah, az, ac⟩, ⟨bn, by_, bh, bs, bc⟩, n⟩ from fun h => gA (okC_2.1 h).1)
      clear gA gB 
      go_wp2_with fail
      go_ret
      exact ⟨⟨8, rfl, Or.inr ⟨NO.out, rfl⟩⟩, XN.out.below⟩
    by_cases k3 : k = 3
    · subst k3
      have NO := Lib.hid (show ¬ okC ⟨3, ⟨an, ay, ah, az, ac⟩, ⟨bn, by_, bh, bs, bc⟩, n⟩ from fun h => gA (okC_3.1 h).1)
      clear gA gB 
      go_wp2_with fail
      go_ret
      exact ⟨⟨8, rfl, Or.inr ⟨NO.out, rfl⟩⟩, XN.out.below⟩
    by_cases k4 : k = 4
    · subst k4
      by_cases n0 : n = 0 ∨ n ≠ 0
      · skip
        by_cases z0 : (⟨an, ay, ah, az, ac⟩ : Dg) = zeroG
        · skip
          have za1 : an = 0 := congrArg Dg.n z0
          have za2 : ay = 0 := congrArg Dg.y z0
          have za3 : ah = 0 := congrArg Dg.h z0
          have za4 : az = 0 := congrArg Dg.s z0
          have za5 : ac = 0 := congrArg Dg.c z0
          by_cases y0 : (⟨bn, by_, bh, bs, bc⟩ : Dg) = zeroG
          · skip
            have yb1 : bn = 0 := congrArg Dg.n y0
            have yb2 : by_ = 0 := congrArg Dg.y y0
            have yb3 : bh = 0 := congrArg Dg.h y0
            have yb4 : bs = 0 := congrArg Dg.s y0
            have yb5 : bc = 0 := congrArg Dg.c y0
            by_cases p0 : 0 ≤ n
            · skip
              have NO := Lib.hid (show okC ⟨4, ⟨an, ay, ah, az, ac⟩, ⟨bn, by_, bh, bs, bc⟩, n⟩ from okC_4.2 ⟨z0, y0, p0, nb⟩)
              clear gA gB y0 z0
              go_wp2_with fail
              go_ret
              exact ⟨⟨0, rfl, Or.inl ⟨NO.out, rfl⟩⟩, XN.out.below⟩
            · have p1 : decide (0 ≤ n) = false := decide_eq_false p0
              have NO := Lib.hid (show ¬ okC ⟨4, ⟨an, ay, ah, az, ac⟩, ⟨bn, by_, bh, bs, bc⟩, n⟩ from fun h => p0 (okC_4.1 h).2.2.1)
              clear gA gB 
              go_wp2_with fail
              go_ret
              exact ⟨⟨8, rfl, Or.inr ⟨NO.out, rfl⟩⟩, XN.out.below⟩
          · skip
            rcases dg_ne y0 with g | ⟨e1, g⟩ | ⟨e1, e2, g⟩ | ⟨e1, e2, e3, g⟩ | ⟨e1, e2, e3, e4, g⟩
            · simp only [zeroG] at g
              have NO := Lib.hid (show ¬ okC ⟨4, ⟨an, ay, ah, az, ac⟩, ⟨bn, by_, bh, bs, bc⟩, n⟩ from fun h => y0 (okC_4.1 h).2.1)
              clear gA gB y0
              go_wp2_with fail
              go_ret
              exact ⟨⟨8, rfl, Or.inr ⟨NO.out, rfl⟩⟩, XN.out.below⟩
            · simp only [zeroG] at g e1
              have NO := Lib.hid (show ¬ okC ⟨4, ⟨an, ay, ah, az, ac⟩, ⟨bn, by_, bh, bs, bc⟩, n⟩ from fun h => y0 (okC_4.1 h).2.1)
              clear gA gB y0
              go_wp2_with fail
              go_ret
              exact ⟨⟨8, rfl, Or.inr ⟨NO.out, rfl⟩⟩, XN.out.below⟩
            · simp only [zeroG] at g e1 e2
              have NO := Lib.hid (show ¬ okC ⟨4, ⟨an, ay, ah, az, ac⟩, ⟨bn, by_, bh, bs, bc⟩, n⟩ from fun h => y0 (okC_4.1 h).2.1)
              clear gA gB y0
              go_wp2_with fail
              go_ret
              exact ⟨⟨8, rfl, Or.inr ⟨NO.out, rfl⟩⟩, XN.out.below⟩
            · simp only [zeroG] at g e1 e2 e3
              have NO := Lib.hid (show ¬ okC ⟨4, ⟨an, ay, ah, az, ac⟩, ⟨bn, by_, bh, bs, bc⟩, n⟩ from fun h => y0 (okC_4.1 h).2.1)
              clear gA gB y0
              go_wp2_with fail
              go_ret
              exact ⟨⟨8, rfl, Or.inr ⟨NO.out, rfl⟩⟩, XN.out.below⟩
            · simp only [zeroG] at g e1 e2 e3 e4
              have NO := Lib.hid (show ¬ okC ⟨4, ⟨an, ay, ah, az, ac⟩, ⟨bn, by_, bh, bs, bc⟩, n⟩ from fun h => y0 (okC_4.1 h).2.1)
              clear gA gB y0
              go_wp2_with fail
              go_ret
              exact ⟨⟨8, rfl, Or.inr ⟨NO.out, rfl⟩⟩, XN.out.below⟩
        · skip
          rcases dg_ne z0 with g | ⟨e1, g⟩ | ⟨e1, e2, g⟩ | ⟨e1, e2, e3, g⟩ | ⟨e1, e2, e3, e4, g⟩
          · simp only [zeroG] at g
            have NO := Lib.hid (show ¬ okC ⟨4, ⟨an, ay, ah, az, ac⟩, ⟨bn, by_, bh, bs, bc⟩, n⟩ from fun h => z0 (okC_4.1 h).1)
            clear gA gB z0
            go_wp2_with fail
            go_ret
            exact ⟨⟨8, rfl, Or.inr ⟨NO.out, rfl⟩⟩, XN.out.below⟩
          · simp only [zeroG] at g e1
            have NO := Lib.hid (show ¬ okC ⟨4, ⟨an, ay, ah, az, ac⟩, ⟨bn, by_, bh, bs, bc⟩, n⟩ from fun h => z0 (okC_4.1 h).1)
            clear gA gB z0
            go_wp2_with fail
            go_ret
            exact ⟨⟨8, rfl, Or.inr ⟨NO.out, rfl⟩⟩, XN.out.below⟩
          · simp only [zeroG] at g e1 e2
            have NO := Lib.hid (show ¬ okC ⟨4, ⟨an, ay, ah, az, ac⟩, ⟨bn, by_, bh, bs, bc⟩, n⟩ from fun h => z0 (okC_4.1 h).1)
            clear gA gB z0
            go_wp2_with fail
            go_ret
            exact ⟨⟨8, rfl, Or.inr ⟨NO.out, rfl⟩⟩, XN.out.below⟩
          · simp only [zeroG] at g e1 e2 e3
            have NO := Lib.hid (show ¬ okC ⟨4, ⟨an, ay, ah, az, ac⟩, ⟨bn, by_, bh, bs, bc⟩, n⟩ from fun h => z0 (okC_4.1 h).1)
            clear gA gB z0
            go_wp2_with fail
            go_ret
            exact ⟨⟨8, rfl, Or.inr ⟨NO.out, rfl⟩⟩, XN.out.below⟩
          · simp only [zeroG] at g e1 e2 e3 e4
            have NO := Lib.hid (show ¬ okC ⟨4, ⟨an, ay, ah, az, ac⟩, ⟨bn, by_, bh, bs, bc⟩, n⟩ from fun h => z0 (okC_4.1 h).1)
            clear gA gB z0
            go_wp2_with fail
            go_ret
            exact ⟨⟨8, rfl, Or.inr ⟨NO.out, rfl⟩⟩, XN.out.below⟩
      · exact absurd (Classical.em _) n0
    have NO := Lib.hid (show ¬ okC ⟨k, ⟨an, ay, ah, az, ac⟩, ⟨bn, by_, bh, bs, bc⟩, n⟩ from okC_o k1 k2 k3 k4)
    clear gA gB 
    go_wp2_with fail
    go_ret
    exact ⟨⟨8, rfl, Or.inr ⟨NO.out, rfl⟩⟩, XN.out.below⟩
end Cgw
end Go.Proofs.YtafeigpmldgifaaDoor
/-
  The walk of writeChange of archive.
-/
namespace Go.Proofs.YtafeigpmldgifaaDoor
namespace Cgw
open Go.RowKit Lw Go.Proofs.YtafeigpmldgifaaDoor.Dp Go.Proofs.YtafeigpmldgifaaDoor.Cgp Go.Proofs.YtafeigpmldgifaaDoor.Arw

def strL (l : List UInt8) : ByteArray := ⟨l.toArray⟩
theorem strL_toL (l : List UInt8) : (strL l).data.toList = l := rfl
theorem strL_app (l m : List UInt8) : strL l ++ strL m = strL (l ++ m) := by
  apply ByteArray.ext
  apply Array.ext'
  simp [strL]
theorem strL_size (l : List UInt8) : (strL l).size = l.length := rfl
theorem text_le {d : Dg} (g : okG d) : (textG d).length ≤ 20 := by
  rcases text_shape g with ⟨_, _, _, _, _, _, _, _, h⟩ | ⟨_, _, _, a, b, c, e, r, h3, _, _, _, h, _⟩
  · omega
  · rw [h3]; simp; omega
theorem itoa_le (n : Nat) (h : n ≤ 9223372036854775807) : (Lib.itoa (n : Int)).length ≤ 30 := by
  have := (itoa_len n 19 (by omega)).2
  omega
def WrPost (c : Cg) (w : World) (e : Ending) (w' : World) : Prop := ∃ (s : ByteArray) (k : Int), e = .returned (.tuple #[.string s, .int .i64 k]) ∧ WrIs c s.data.toList k ∧ Below w.heap.size w w'
theorem text_all (d : Dg) (w : World) (hT : Dw.Tb w) (h0 : 0 ≤ d.h) (h1 : d.h < 256) (s0 : 0 ≤ d.s) (s1 : d.s < 256) :
    Calls Tryd.prog 35 #[.agg #[.int .i64 d.n, .int .i64 d.y, .int .u8 d.h, .int .u8 d.s, .int .i64 d.c]] w fun e w' => ∃ (s : List UInt8) (k : Int), e = .returned (.tuple #[.string (strL s), .int .i64 k]) ∧ (okG d → s = textG d) ∧ s.length ≤ 20 ∧ Below w.heap.size w w' := by
  by_cases g : okG d
  · refine (Dw.Text_ok d.n d.y d.h d.s d.c w hT h0 h1 s0 s1 g).mono ?_
    rintro e w' ⟨rfl, hb⟩
    exact ⟨textG d, 0, rfl, fun _ => rfl, text_le g, hb⟩
  · refine (Dw.text_no d.n d.y d.h d.s d.c w hT h0 h1 s0 s1 g).mono ?_
    rintro e w' ⟨rfl, hb⟩
    exact ⟨[], 8, rfl, fun h => absurd h g, by simp, hb⟩
set_option maxRecDepth 100000 in
set_option maxHeartbeats 16000000 in
theorem wrch_any (c : Cg) (w : World) (hT : Dw.Tb w) (cb : CB c) :
    Calls Tryd.prog 20 #[.agg (cgC c).toArray] w (WrPost c w) := by
  have HT := Lib.hid (fun w' (h : Below w.heap.size w w') => hT.below h)
  have X0 := Lib.hid (CX.new w c)
  have MC := Lib.hid (fun w' h => mcheck_any c w' h cb)
  have TA := Lib.hid (fun w' h => text_all c.a w' h cb.ah.1 cb.ah.2 cb.aq.1 cb.aq.2)
  have TB := Lib.hid (fun w' h => text_all c.b w' h cb.bh.1 cb.bh.2 cb.bs.1 cb.bs.2)
  have IT : Hid (0 ≤ c.n → ∀ w', Dw.Tb w' → Calls Tryd.prog 36 #[.int .i64 c.n] w' fun e w'' => e = .returned (.string (strL (Lib.itoa c.n))) ∧ Below w'.heap.size w' w'') := Lib.hid (fun h w' ht => (Tryd.strconv_Itoa c.n (by omega) cb.n1 w' ht.pow).mono fun _ _ ⟨x, k, os, y⟩ => ⟨x, by rw [y]; exact Dw.below_grow w' k os⟩)
  have NL := Lib.hid (fun (h : 0 ≤ c.n) => show (Lib.itoa c.n).length ≤ 30 from by
    obtain ⟨m, hm⟩ := Int.eq_ofNat_of_zero_le h
    have := cb.n1
    rw [hm] at this ⊢
    exact itoa_le m (by omega))
  have k0 := cb.k0
  have k1 := cb.k1
  clear hT cb
  have d0 := X0.out.cell 0 _ rfl
  have d1 := X0.out.cell 1 _ rfl
  have d2 := X0.out.cell 2 _ rfl
  have d3 := X0.out.cell 3 _ rfl
  have d4 := X0.out.cell 4 _ rfl
  have d5 := X0.out.cell 5 _ rfl
  have d6 := X0.out.cell 6 _ rfl
  have d7 := X0.out.cell 7 _ rfl
  have d8 := X0.out.cell 8 _ rfl
  have d9 := X0.out.cell 9 _ rfl
  have d10 := X0.out.cell 10 _ rfl
  have d11 := X0.out.cell 11 _ rfl
  have B0 := X0.out
  generalize hw1 : w.alloc (.cells (cgC c).toArray 52) = w1 at *
  have HW := Lib.hid hw1
  clear hw1 B0
  go_enter Tryd.func20, Tryd.ntmps20
  go_upto_region 1 with fail
  rw [HW.out]
  go_wp2_with fail
  refine (MC.out _ (HT.out _ X0.out.below).ord).mono ?_
  rintro e w2 ⟨⟨r, rfl, hr⟩, hb⟩
  have X1 := Lib.hid (X0.out.call hb)
  clear hb X0 MC d0 d1 d2 d3 d4 d5 d6 d7 d8 d9 d10 d11 HW
  rcases hr.symm with ⟨no, rfl⟩ | ⟨ok, rfl⟩
  · have NO := Lib.hid no
    clear no TA TB IT NL HT
    go_wp2_with fail
    go_ret2
    exact ⟨_, 8, rfl, Or.inr ⟨NO.out, rfl, rfl⟩, X1.out.below⟩
  have OK := Lib.hid ok
  have kk := okC_k ok
  clear ok
  have c0 := X1.out.cell 0 _ rfl
  have c1 := X1.out.cell 1 _ rfl
  have c2 := X1.out.cell 2 _ rfl
  have c3 := X1.out.cell 3 _ rfl
  have c4 := X1.out.cell 4 _ rfl
  have c5 := X1.out.cell 5 _ rfl
  have c6 := X1.out.cell 6 _ rfl
  have c7 := X1.out.cell 7 _ rfl
  have c8 := X1.out.cell 8 _ rfl
  have c9 := X1.out.cell 9 _ rfl
  have c10 := X1.out.cell 10 _ rfl
  have c11 := X1.out.cell 11 _ rfl
  go_wp2_with fail
  refine (TA.out _ (HT.out _ X1.out.below)).mono ?_
  rintro e w3 ⟨s1, j1, rfl, hs1, zs1, hb⟩
  have X2 := Lib.hid (X1.out.call hb)
  clear hb X1 TA c0 c1 c2 c3 c4 c5 c6 c7 c8 c9 c10 c11
  have c0 := X2.out.cell 0 _ rfl
  have c1 := X2.out.cell 1 _ rfl
  have c2 := X2.out.cell 2 _ rfl
  have c3 := X2.out.cell 3 _ rfl
  have c4 := X2.out.cell 4 _ rfl
  have c5 := X2.out.cell 5 _ rfl
  have c6 := X2.out.cell 6 _ rfl
  have c7 := X2.out.cell 7 _ rfl
  have c8 := X2.out.cell 8 _ rfl
  have c9 := X2.out.cell 9 _ rfl
  have c10 := X2.out.cell 10 _ rfl
  have c11 := X2.out.cell 11 _ rfl
  go_wp2_with fail
  refine (TB.out _ (HT.out _ X2.out.below)).mono ?_
  rintro e w4 ⟨s2, j2, rfl, hs2, zs2, hb⟩
  have X3 := Lib.hid (X2.out.call hb)
  clear hb X2 TB c0 c1 c2 c3 c4 c5 c6 c7 c8 c9 c10 c11
  have c0 := X3.out.cell 0 _ rfl
  have c1 := X3.out.cell 1 _ rfl
  have c2 := X3.out.cell 2 _ rfl
  have c3 := X3.out.cell 3 _ rfl
  have c4 := X3.out.cell 4 _ rfl
  have c5 := X3.out.cell 5 _ rfl
  have c6 := X3.out.cell 6 _ rfl
  have c7 := X3.out.cell 7 _ rfl
  have c8 := X3.out.cell 8 _ rfl
  have c9 := X3.out.cell 9 _ rfl
  have c10 := X3.out.cell 10 _ rfl
  have c11 := X3.out.cell 11 _ rfl
  obtain ⟨S1, hS1⟩ : ∃ S, strL s1 = S := ⟨_, rfl⟩
  obtain ⟨S2, hS2⟩ : ∃ S, strL s2 = S := ⟨_, rfl⟩
  have z1 : S1.size ≤ 20 := by rw [← hS1]; exact zs1
  have z2 : S2.size ≤ 20 := by rw [← hS2]; exact zs2
  have L1 : Hid (S1.data.toList = s1) := Lib.hid (by rw [← hS1]; rfl)
  have L2 : Hid (S2.data.toList = s2) := Lib.hid (by rw [← hS2]; rfl)
  have H1 := Lib.hid hs1
  have H2 := Lib.hid hs2
  rw [hS1, hS2]
  clear hS1 hS2 zs1 zs2 hs1 hs2
  obtain ⟨k, a, b, n⟩ := c
  simp only at kk k0 k1
  rcases kk with rfl | rfl | rfl | rfl
  · have ga := (okC_1.1 OK.out).1
    have E : Hid (∀ t : ByteArray, t.data.toList = addW ++ 32 :: (S1.data.toList ++ [10]) → WrIs ⟨1, a, b, n⟩ t.data.toList 0) := Lib.hid (fun t ht => Or.inl ⟨OK.out, by rw [ht, L1.out, H1.out ga]; simp [lineC, wordC, restC], rfl⟩)
    clear OK L1 L2 H1 H2 IT NL HT ga
    go_wp2_with fail
    go_ret2
    exact ⟨_, 0, rfl, E.out _ (by simp [addW]), X3.out.below⟩
  · have ga := (okC_2.1 OK.out).1
    have gb := (okC_2.1 OK.out).2.1
    have E : Hid (∀ t : ByteArray, t.data.toList = joinW ++ 32 :: (S1.data.toList ++ (eqW ++ (S2.data.toList ++ [10]))) → WrIs ⟨2, a, b, n⟩ t.data.toList 0) := Lib.hid (fun t ht => Or.inl ⟨OK.out, by rw [ht, L1.out, H1.out ga, L2.out, H2.out gb]; simp [lineC, wordC, restC], rfl⟩)
    clear OK L1 L2 H1 H2 IT NL HT ga gb
    go_wp2_with fail
    go_ret2
    exact ⟨_, 0, rfl, E.out _ (by simp [joinW, eqW]), X3.out.below⟩
  · have ga := (okC_3.1 OK.out).1
    have gb := (okC_3.1 OK.out).2.1
    have E : Hid (∀ t : ByteArray, t.data.toList = numW ++ 32 :: (S1.data.toList ++ (eqW ++ (S2.data.toList ++ [10]))) → WrIs ⟨3, a, b, n⟩ t.data.toList 0) := Lib.hid (fun t ht => Or.inl ⟨OK.out, by rw [ht, L1.out, H1.out ga, L2.out, H2.out gb]; simp [lineC, wordC, restC], rfl⟩)
    clear OK L1 L2 H1 H2 IT NL HT ga gb
    go_wp2_with fail
    go_ret2
    exact ⟨_, 0, rfl, E.out _ (by simp [numW, eqW]), X3.out.below⟩
  · have n0 := (okC_4.1 OK.out).2.2.1
    have IC := Lib.hid (IT.out n0 w4 (HT.out _ X3.out.below))
    obtain ⟨S3, hS3⟩ : ∃ S, strL (Lib.itoa n) = S := ⟨_, rfl⟩
    have z3 : S3.size ≤ 30 := by rw [← hS3]; exact NL.out n0
    have L3 : S3.data.toList = Lib.itoa n := by rw [← hS3]; rfl
    have E : Hid (∀ t : ByteArray, t.data.toList = undoW ++ 32 :: (S3.data.toList ++ [10]) → WrIs ⟨4, a, b, n⟩ t.data.toList 0) := Lib.hid (fun t ht => Or.inl ⟨OK.out, by rw [ht, L3]; simp [lineC, wordC, restC], rfl⟩)
    rw [hS3] at IC
    clear OK L1 L2 H1 H2 IT NL HT n0 L3 hS3
    go_wp2_with fail
    refine IC.out.mono ?_
    rintro e w5 ⟨rfl, hb⟩
    have X4 := Lib.hid (X3.out.call hb)
    clear hb IC X3
    go_wp2_with fail
    go_ret2
    exact ⟨_, 0, rfl, E.out _ (by simp [undoW]), X4.out.below⟩
end Cgw
end Go.Proofs.YtafeigpmldgifaaDoor
