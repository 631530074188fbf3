/-
  Lemmas and walks, texts joined: DText, DDig, DDig2, DRef1, DRText, KMem, OApp, KOwn, KPrint.
-/
import Derived.Deep.RegionHeld3
import Derived.Deep.MidRow
import Derived.Shelf.Strings.BuilderK
import Derived.Lib.OthersKept
import Derived.OwnWalk
import Derived.Test.YtafeigpmldgifaaGreatDoorKa07
import Derived.Test.YtafeigpmldgifaaGreatDoorKa06
set_option linter.unusedSimpArgs false
set_option linter.unusedVariables false
/-
  Text of package desig.
-/
namespace Go.Proofs.YtafeigpmldgifaaGreatDoor
namespace Dw
open Go.RowKit Dp Lw

/-- What a drawn region of calls that make texts needs of memory. -/
structure TS (w w' : World) : Prop where
  tab : Tb w'
  below : Below w.heap.size w w'
  lt : w.heap.size < w'.heap.size
theorem TS.call {w a b : World} (h : TS w a) (hb : Below a.heap.size a b) : TS w b := ⟨h.tab.below hb, below_then h.below hb, Nat.lt_of_lt_of_le h.lt hb.size⟩
theorem TS.drew {w a : World} (h : TS w a) : TS w a.drew := h.call ((Below.refl _ a).drew)
theorem TS.drewN {w a : World} (h : TS w a) (n : Nat) : TS w (a.drewN n) := h.call (drewN_below2 (Below.refl _ a) n)
theorem TS.alloc {w a : World} (h : TS w a) (o : Obj) : TS w (a.alloc o) := h.call ((Below.refl _ a).alloc (Nat.le_refl _) _)
theorem TS.box {w : World} (h : Tb w) (o : Obj) : TS w (w.alloc o) := ⟨h.below ((Below.refl _ w).alloc (Nat.le_refl _) _), (Below.refl _ w).alloc (Nat.le_refl _) _, by simp⟩
theorem wpAnyH_mono {P : Program} {md : Region.Mode} {ops : Array Oper} {Q : Exit → Act → World → Prop} {S S' : World → Prop} (hs : ∀ w, S' w → S w) :
    ∀ (fuel : Nat) (listed : Array Bool) (a : Act) (w : World), wpAnyH P md ops Q S' fuel listed a w → wpAnyH P md ops Q S fuel listed a w
  | 0, _, _, _, h => h
  | fuel + 1, _, _, _, h => ⟨h.1, fun i hi => wpOp_mono (fun a' w' h' => ⟨hs _ h'.1, wpAnyH_mono hs fuel _ a' w' h'.2⟩) (h.2 i hi)⟩
def TextOk (n y h s c : Int) (w : World) (e : Ending) (w' : World) : Prop := e = .returned (.tuple #[.string ⟨(textG ⟨n, y, h, s, c⟩).toArray⟩, .int .i64 0]) ∧ Below w.heap.size w w'
def TextNo (w : World) (e : Ending) (w' : World) : Prop := e = .returned (.tuple #[.string ⟨#[]⟩, .int .i64 8]) ∧ Below w.heap.size w w'
set_option maxRecDepth 100000 in
set_option maxHeartbeats 4000000 in
theorem text_no (n y h s c : Int) (w : World) (hT : Tb w) (h0 : 0 ≤ h) (h1 : h < 256) (s0 : 0 ≤ s) (s1 : s < 256) (g : ¬ okD n y h s c) :
    Calls Tryz.prog 8 #[desigV n y h s c] w (TextNo w) := by
  have C := Lib.hid (check_any n y h s c (w.alloc (.cells (desigC n y h s c).toArray 34)) (hT.ord.alloc _) h0 h1 s0 s1)
  rw [errC_no g] at C
  have r1 := rangeAt_new w (desigC n y h s c) 34
  have hb0 : Below w.heap.size w (w.alloc (.cells (desigC n y h s c).toArray 34)) := (Below.refl w.heap.size w).alloc (Nat.le_refl _) _
  clear g hT
  go_enter Tryz.func8, Tryz.ntmps8
  go_wp2_with (refine wpList_load_mid rfl _ (.tmp 1) rfl w.heap.size 0 rfl (desigC n y h s c) _ r1 Tryz.underlying34 rfl info5d ?_)
  go_at_call 15
  refine C.out.mono ?_
  rintro e w1 ⟨rfl, hb1⟩
  have hB := below_then hb0 hb1
  clear C r1 hb0 hb1
  go_wp2_with fail
  go_ret2
  exact ⟨rfl, hB⟩
set_option maxRecDepth 100000 in
set_option maxHeartbeats 4000000 in
theorem text_num (n y h s c : Int) (w : World) (hT : Tb w) (h0 : 0 ≤ h) (h1 : h < 256) (s0 : 0 ≤ s) (s1 : s < 256) (g : okD n y h s c) (hn : 0 < n) :
    Calls Tryz.prog 8 #[desigV n y h s c] w (TextOk n y h s c w) := by
  have C := Lib.hid (check_any n y h s c (w.alloc (.cells (desigC n y h s c).toArray 34)) (hT.ord.alloc _) h0 h1 s0 s1)
  rw [errC_ok g] at C
  have hbd := okD_bd g
  have I := Lib.hid (fun w' (hw : Tb w') => itoa_any n w' hw (by omega) (by omega))
  have F := Lib.hid (show textG ⟨n, y, h, s, c⟩ = Lib.itoa n from if_pos hn)
  have r1 := rangeAt_new w (desigC n y h s c) 34
  have hts := TS.box hT (.cells (desigC n y h s c).toArray 34)
  clear g hT hbd
  go_enter Tryz.func8, Tryz.ntmps8
  go_wp2_with (refine wpList_load_mid rfl _ (.tmp 1) rfl w.heap.size 0 rfl (desigC n y h s c) _ r1 Tryz.underlying34 rfl info5d ?_)
  go_at_call 15
  refine C.out.mono ?_
  rintro e w1 ⟨rfl, hb1⟩
  have ht1 := hts.call hb1
  have k0 : w1.cell? ⟨w.heap.size, 0, none⟩ = some (.int .i64 n) := rangeAt_below r1 hb1 (by simp) 0 _ rfl
  clear C r1 hts hb1
  go_wp2_with fail
  go_at_call 16
  refine (I.out _ ht1.tab).mono ?_
  rintro e w2 ⟨rfl, hb2⟩
  have ht2 := ht1.call hb2
  clear I hb2 ht1
  go_wp2_with fail
  go_ret2
  exact ⟨by rw [F.out]; rfl, ht2.below⟩
set_option maxRecDepth 100000 in
set_option maxHeartbeats 4000000 in
theorem text_prov (n y h s c : Int) (w : World) (hT : Tb w) (h0 : 0 ≤ h) (h1 : h < 256) (s0 : 0 ≤ s) (s1 : s < 256) (g : okD n y h s c) (hn : n = 0) :
    Calls Tryz.prog 8 #[desigV n y h s c] w (TextOk n y h s c w) := by
  subst hn
  have C := Lib.hid (check_any 0 y h s c (w.alloc (.cells (desigC 0 y h s c).toArray 34)) (hT.ord.alloc _) h0 h1 s0 s1)
  rw [errC_ok g] at C
  have hy : 1800 ≤ y ∧ y ≤ 2099 ∧ 0 ≤ c ∧ c ≤ 619 := by unfold okD at g; omega
  obtain ⟨y0, y1, c0, c1⟩ := hy
  have I := Lib.hid (fun w' (hw : TS w w') => itoa_any y w' hw.tab (by omega) (by omega))
  have IC := Lib.hid (fun w' (hw : TS w w') => itoa_any c w' hw.tab (by omega) (by omega))
  have F : textG ⟨0, y, h, s, c⟩ = Lib.itoa y ++ [32] ++ [b8 h, b8 s] ++ (if 0 < c then Lib.itoa c else []) := by
    rw [List.append_assoc (Lib.itoa y)]
    exact if_neg (by simp)
  have ly := Lib.itoa_length_le y (by omega) (by omega)
  have lc := Lib.itoa_length_le c (by omega) (by omega)
  generalize Lib.itoa y = Y at *
  generalize Lib.itoa c = K at *
  have F1 := Lib.hid (fun hc : 0 < c => show textG ⟨0, y, h, s, c⟩ = Y ++ 32 :: b8 h :: b8 s :: K by rw [F, if_pos hc]; simp)
  have F2 := Lib.hid (fun hc : c ≤ 0 => show textG ⟨0, y, h, s, c⟩ = Y ++ [32, b8 h, b8 s] by rw [F, if_neg (by omega)]; simp)
  clear F
  have z4 : (⟨(Y ++ [32, b8 h, b8 s]).toArray⟩ : ByteArray).size + (⟨K.toArray⟩ : ByteArray).size ≤ 9223372036854775807 := by rw [size_mk, size_mk, List.length_append]; simp only [List.length_cons, List.length_nil]; omega
  have a4 : ∀ w' : World, (Op.stringOp .add (⟨(Y ++ [32, b8 h, b8 s]).toArray⟩ : ByteArray) ⟨K.toArray⟩).run Tryz.prog w' = .ok (.string ⟨(Y ++ [32, b8 h, b8 s] ++ K).toArray⟩) w' := fun w' => by rw [run_string_add_sum (P := Tryz.prog) (w := w') _ _ z4, str_app]
  clear z4
  have r1 := rangeAt_new w (desigC 0 y h s c) 34
  have hts := TS.box hT (.cells (desigC 0 y h s c).toArray 34)
  have sa := str_app Y [32]
  have sb := str_app (Y ++ [32]) [b8 h, b8 s]
  have z1 : (⟨Y.toArray⟩ : ByteArray).size + (⟨#[32]⟩ : ByteArray).size ≤ 9223372036854775807 := by rw [size_mk Y]; show Y.length + 1 ≤ _; omega
  have z2 : (⟨(Y ++ [32]).toArray⟩ : ByteArray).size + (⟨[b8 h, b8 s].toArray⟩ : ByteArray).size ≤ 9223372036854775807 := by rw [size_mk, size_mk, List.length_append]; simp only [List.length_cons, List.length_nil]; omega
  have a2 : ∀ w' : World, (Op.stringOp .add (⟨Y.toArray⟩ : ByteArray) ⟨#[32]⟩).run Tryz.prog w' = .ok (.string ⟨(Y ++ [32]).toArray⟩) w' := fun w' => by rw [run_string_add_sum (P := Tryz.prog) (w := w') _ _ z1]; exact congrArg (fun x => Result.ok (Value.string x) w') sa
  have a3 : ∀ w' : World, (Op.stringOp .add (⟨(Y ++ [32]).toArray⟩ : ByteArray) ⟨[b8 h, b8 s].toArray⟩).run Tryz.prog w' = .ok (.string ⟨(Y ++ [32] ++ [b8 h, b8 s]).toArray⟩) w' := fun w' => by rw [run_string_add_sum (P := Tryz.prog) (w := w') _ _ z2, sb]
  have cvg := fun (W : World) (b : Nat) (g0 : W.cell? ⟨b, 0, none⟩ = some (.int .u8 h)) (g1 : W.cell? ⟨b, 1, none⟩ = some (.int .u8 s)) => conv2 W h s 2 h0 h1 s0 s1 b g0 g1
  have cv := fun (W : World) => conv2 (W.alloc (.cells #[.int .u8 h, .int .u8 s] 5)) h s 2 h0 h1 s0 s1 W.heap.size (World.cell?_alloc_mark W _ _ _ 0) (World.cell?_alloc_mark W _ _ _ 1)
  have cvd := fun (W : World) => conv2 (W.alloc (.cells #[.int .u8 h, .int .u8 s] 5)).drew h s 2 h0 h1 s0 s1 W.heap.size (World.cell?_alloc_mark W _ _ _ 0) (World.cell?_alloc_mark W _ _ _ 1)
  clear g hT z1 z2 sa sb
  go_enter Tryz.func8, Tryz.ntmps8
  go_wp2_with (refine wpList_load_mid rfl _ (.tmp 1) rfl w.heap.size 0 rfl (desigC 0 y h s c) _ r1 Tryz.underlying34 rfl info5d ?_)
  go_at_call 15
  refine C.out.mono ?_
  rintro e w1 ⟨rfl, hb1⟩
  have ht1 := hts.call hb1
  have k0 : w1.cell? ⟨w.heap.size, 0, none⟩ = some (.int .i64 0) := rangeAt_below r1 hb1 (by simp) 0 _ rfl
  have k1 : w1.cell? ⟨w.heap.size, 1, none⟩ = some (.int .i64 y) := rangeAt_below r1 hb1 (by simp) 1 _ rfl
  have k2 : w1.cell? ⟨w.heap.size, 2, none⟩ = some (.int .u8 h) := rangeAt_below r1 hb1 (by simp) 2 _ rfl
  have k3 : w1.cell? ⟨w.heap.size, 3, none⟩ = some (.int .u8 s) := rangeAt_below r1 hb1 (by simp) 3 _ rfl
  have k4 : w1.cell? ⟨w.heap.size, 4, none⟩ = some (.int .i64 c) := rangeAt_below r1 hb1 (by simp) 4 _ rfl
  have ht1d := ht1.drew
  have lt1 := ht1.lt
  have I0 := I.out w1.drew ht1.drew
  have I0 : Calls Tryz.prog 16 #[.int .i64 y] w1.drew fun e w2 => e = .returned (.string ⟨Y.toArray⟩) ∧ TS w w2 ∧ w2.cell? ⟨w.heap.size, 1, none⟩ = some (.int .i64 y) ∧ w2.cell? ⟨w.heap.size, 2, none⟩ = some (.int .u8 h) ∧ w2.cell? ⟨w.heap.size, 3, none⟩ = some (.int .u8 s) ∧ w2.cell? ⟨w.heap.size, 4, none⟩ = some (.int .i64 c) :=
    I0.mono fun e w2 ⟨he, hb⟩ => ⟨he, ht1.drew.call hb, (hb.cell (p := ⟨w.heap.size, 1, none⟩) lt1).trans k1, (hb.cell (p := ⟨w.heap.size, 2, none⟩) lt1).trans k2, (hb.cell (p := ⟨w.heap.size, 3, none⟩) lt1).trans k3, (hb.cell (p := ⟨w.heap.size, 4, none⟩) lt1).trans k4⟩
  have I1 := I.out (w1.alloc (.cells #[.int .u8 h, .int .u8 s] 5)).drew (ht1.alloc _).drew
  have lt2 : w.heap.size < (w1.alloc (.cells #[.int .u8 h, .int .u8 s] 5)).drew.heap.size := (ht1.alloc _).drew.lt
  have lt3 : w1.heap.size < (w1.alloc (.cells #[.int .u8 h, .int .u8 s] 5)).drew.heap.size := by show _ < (w1.alloc _).heap.size; simp
  have qa : ∀ j o, j < 5 → (w1.alloc o).drew.cell? ⟨w.heap.size, j, none⟩ = w1.cell? ⟨w.heap.size, j, none⟩ := fun j o _ => World.cell?_alloc_past o _ _ lt1
  have I1 : Calls Tryz.prog 16 #[.int .i64 y] (w1.alloc (.cells #[.int .u8 h, .int .u8 s] 5)).drew fun e w' => e = .returned (.string ⟨Y.toArray⟩) ∧ TS w w' ∧ w'.cell? ⟨w.heap.size, 1, none⟩ = some (.int .i64 y) ∧ w'.cell? ⟨w.heap.size, 2, none⟩ = some (.int .u8 h) ∧ w'.cell? ⟨w.heap.size, 3, none⟩ = some (.int .u8 s) ∧ w'.cell? ⟨w.heap.size, 4, none⟩ = some (.int .i64 c) ∧ w'.cell? ⟨w1.heap.size, 0, none⟩ = some (.int .u8 h) ∧ w'.cell? ⟨w1.heap.size, 1, none⟩ = some (.int .u8 s) :=
    I1.mono fun e w2 ⟨he, hb⟩ => ⟨he, (ht1.alloc _).drew.call hb, (hb.cell (p := ⟨w.heap.size, 1, none⟩) lt2).trans ((qa 1 _ (by omega)).trans k1), (hb.cell (p := ⟨w.heap.size, 2, none⟩) lt2).trans ((qa 2 _ (by omega)).trans k2), (hb.cell (p := ⟨w.heap.size, 3, none⟩) lt2).trans ((qa 3 _ (by omega)).trans k3), (hb.cell (p := ⟨w.heap.size, 4, none⟩) lt2).trans ((qa 4 _ (by omega)).trans k4), (hb.cell (p := ⟨w1.heap.size, 0, none⟩) lt3).trans (World.cell?_alloc_mark w1 _ _ _ 0), (hb.cell (p := ⟨w1.heap.size, 1, none⟩) lt3).trans (World.cell?_alloc_mark w1 _ _ _ 1)⟩
  clear qa
  clear C r1 hts hb1 I
  go_wp2_with fail
  refine wp_region_held_drew (S := fun w' => TS w w' ∧ w'.cell? ⟨w.heap.size, 1, none⟩ = some (.int .i64 y) ∧ w'.cell? ⟨w.heap.size, 2, none⟩ = some (.int .u8 h) ∧ w'.cell? ⟨w.heap.size, 3, none⟩ = some (.int .u8 s) ∧ w'.cell? ⟨w.heap.size, 4, none⟩ = some (.int .i64 c)) (by kernel_rfl) ⟨ht1d, k1, k2, k3, k4⟩ (fun hHeld => ?_)
  refine wpAnyH_take (i := 0) (v := ?_) rfl (by kernel_rfl) (by kernel_rfl) (by kernel_rfl) (fun _ _ _ h => h) (Or.inl ⟨by rfl, ?_⟩) (by assumption) ?_
  rotate_left
  · (intro w hSw; (try dsimp only at hSw); go_simp; try with_reducible rfl)
  try simp only [Act.put, List.setIfInBounds_toArray, List.set_cons_zero, List.set_cons_succ]
  refine wpAnyH_take (i := 1) (v := ?_) rfl (by kernel_rfl) (by kernel_rfl) (by kernel_rfl) (fun _ _ _ h => h) (Or.inl ⟨by rfl, ?_⟩) (by assumption) ?_
  rotate_left
  · (intro w hSw; (try dsimp only at hSw); go_simp; try with_reducible rfl)
  try simp only [Act.put, List.setIfInBounds_toArray, List.set_cons_zero, List.set_cons_succ]
  refine wpAnyH_take (i := 4) (v := ?_) rfl (by kernel_rfl) (by kernel_rfl) (by kernel_rfl) (fun _ _ _ h => h) (Or.inl ⟨by rfl, ?_⟩) (by assumption) ?_
  rotate_left
  · (intro w hSw; (try dsimp only at hSw); go_simp; try with_reducible rfl)
  try simp only [Act.put, List.setIfInBounds_toArray, List.set_cons_zero, List.set_cons_succ]
  refine wpAnyH_take (i := 5) (v := ?_) rfl (by kernel_rfl) (by kernel_rfl) (by kernel_rfl) (fun _ _ _ h => h) (Or.inl ⟨by rfl, ?_⟩) (by assumption) ?_
  rotate_left
  · (intro w hSw; (try dsimp only at hSw); go_simp; try with_reducible rfl)
  try simp only [Act.put, List.setIfInBounds_toArray, List.set_cons_zero, List.set_cons_succ]
  refine wpAnyH_take (i := 6) (v := ?_) rfl (by kernel_rfl) (by kernel_rfl) (by kernel_rfl) (fun _ _ _ h => h) (Or.inl ⟨by rfl, ?_⟩) (by assumption) ?_
  rotate_left
  · (intro w hSw; (try dsimp only at hSw); go_simp; try with_reducible rfl)
  try simp only [Act.put, List.setIfInBounds_toArray, List.set_cons_zero, List.set_cons_succ]
  refine wpAnyH_take (i := 7) (v := ?_) rfl (by kernel_rfl) (by kernel_rfl) (by kernel_rfl) (fun _ _ _ h => h) (Or.inl ⟨by rfl, ?_⟩) (by assumption) ?_
  rotate_left
  · (intro w hSw; (try dsimp only at hSw); go_simp; try with_reducible rfl)
  try simp only [Act.put, List.setIfInBounds_toArray, List.set_cons_zero, List.set_cons_succ]
  refine wpAnyH_ready (rs := [2, 8]) (by kernel_rfl) (by simp) ?_
  refine AllReadyH.cons rfl (fun K' hK => ?_) (AllReadyH.cons rfl (fun K' hK => ?_) AllReadyH.nil)
  · go_simp
    refine I0.mono ?_
    rintro e w2 ⟨rfl, ht2, q1, q2, q3, q4⟩
    refine hK.out _ _ ⟨ht2, q1, q2, q3, q4⟩ (fun hHeld => ?_)
    clear hK
    try simp only [Act.put, List.setIfInBounds_toArray, List.set_cons_zero, List.set_cons_succ]
    refine wpAnyH_take (i := 3) (v := ?_) rfl (by kernel_rfl) (by kernel_rfl) (by kernel_rfl) (fun _ _ _ h => h) (Or.inl ⟨by rfl, ?_⟩) (by assumption) ?_
    rotate_left
    · (intro w hSw; (try dsimp only at hSw); go_simp; try with_reducible rfl)
    try simp only [Act.put, List.setIfInBounds_toArray, List.set_cons_zero, List.set_cons_succ]
    refine wpAnyH_ready (rs := [8]) (by kernel_rfl) (by simp) ?_
    refine AllReadyH.cons rfl (fun K' hK => ?_) AllReadyH.nil
    go_simp
    have qa : ∀ j o, j < 5 → (w2.alloc o).cell? ⟨w.heap.size, j, none⟩ = w2.cell? ⟨w.heap.size, j, none⟩ := fun j o _ => World.cell?_alloc_past o _ _ ht2.lt
    refine hK.out _ _ ⟨ht2.alloc _, (qa 1 _ (by omega)).trans q1, (qa 2 _ (by omega)).trans q2, (qa 3 _ (by omega)).trans q3, (qa 4 _ (by omega)).trans q4⟩ (fun hHeld => ?_)
    clear hK qa
    refine wpAnyH_mono (S' := fun w' => (TS w w' ∧ w'.cell? ⟨w.heap.size, 1, none⟩ = some (.int .i64 y) ∧ w'.cell? ⟨w.heap.size, 2, none⟩ = some (.int .u8 h) ∧ w'.cell? ⟨w.heap.size, 3, none⟩ = some (.int .u8 s) ∧ w'.cell? ⟨w.heap.size, 4, none⟩ = some (.int .i64 c)) ∧ w'.cell? ⟨w2.heap.size, 0, none⟩ = some (.int .u8 h) ∧ w'.cell? ⟨w2.heap.size, 1, none⟩ = some (.int .u8 s)) (fun _ h => h.1) _ _ _ _ ?_
    have hHeld2 := And.intro hHeld (And.intro (World.cell?_alloc_mark w2 #[.int .u8 h, .int .u8 s] 5 (0, 0) 0) (World.cell?_alloc_mark w2 #[.int .u8 h, .int .u8 s] 5 (0, 0) 1))
    try simp only [Act.put, List.setIfInBounds_toArray, List.set_cons_zero, List.set_cons_succ]
    refine wpAnyH_take (i := 9) (v := ?_) rfl (by kernel_rfl) (by kernel_rfl) (by kernel_rfl) (fun _ _ _ h => h) (Or.inl ⟨by rfl, ?_⟩) hHeld2 ?_
    rotate_left
    · (intro w hSw; (try dsimp only at hSw); obtain ⟨_, g0, g1⟩ := hSw; have cc := cvg _ _ g0 g1; go_simp; try with_reducible rfl)
    try simp only [Act.put, List.setIfInBounds_toArray, List.set_cons_zero, List.set_cons_succ]
    refine wpAnyH_take (i := 10) (v := ?_) rfl (by kernel_rfl) (by kernel_rfl) (by kernel_rfl) (fun _ _ _ h => h) (Or.inl ⟨by rfl, ?_⟩) hHeld2 ?_
    rotate_left
    · (intro w hSw; (try dsimp only at hSw); go_simp; try with_reducible rfl)
    try simp only [Act.put, List.setIfInBounds_toArray, List.set_cons_zero, List.set_cons_succ]
    refine wpAnyH_take (i := 11) (v := ?_) rfl (by kernel_rfl) (by kernel_rfl) (by kernel_rfl) (fun _ _ _ h => h) (Or.inl ⟨by rfl, ?_⟩) hHeld2 ?_
    rotate_left
    · (intro w hSw; (try dsimp only at hSw); go_simp; try with_reducible rfl)
    try simp only [Act.put, List.setIfInBounds_toArray, List.set_cons_zero, List.set_cons_succ]
    refine wpAnyH_done (by kernel_rfl) ?_ _
    have TT := hHeld.1
    have k4 := hHeld.2.2.2.2
    clear hHeld hHeld2
    by_cases hc : 0 < c
    · have FF := Lib.hid (F1.out hc)
      go_wp2_with (go_at_call 16; refine (IC.out _ TT).mono ?_; rintro e w3 ⟨rfl, hb3⟩)
      have hB := (TT.call hb3).below
      go_ret2
      exact ⟨by rw [FF.out]; rfl, hB⟩
    · have FF := Lib.hid (F2.out (by omega))
      have hB := TT.below
      go_wp2_with fail
      go_ret2
      exact ⟨by rw [FF.out]; rfl, hB⟩
  · go_simp
    have qa : ∀ j o, j < 5 → (w1.alloc o).cell? ⟨w.heap.size, j, none⟩ = w1.cell? ⟨w.heap.size, j, none⟩ := fun j o _ => World.cell?_alloc_past o _ _ lt1
    refine hK.out _ _ ⟨(ht1.alloc _).drew, (qa 1 _ (by omega)).trans k1, (qa 2 _ (by omega)).trans k2, (qa 3 _ (by omega)).trans k3, (qa 4 _ (by omega)).trans k4⟩ (fun hHeld => ?_)
    clear hK qa
    refine wpAnyH_mono (S' := fun w' => (TS w w' ∧ w'.cell? ⟨w.heap.size, 1, none⟩ = some (.int .i64 y) ∧ w'.cell? ⟨w.heap.size, 2, none⟩ = some (.int .u8 h) ∧ w'.cell? ⟨w.heap.size, 3, none⟩ = some (.int .u8 s) ∧ w'.cell? ⟨w.heap.size, 4, none⟩ = some (.int .i64 c)) ∧ w'.cell? ⟨w1.heap.size, 0, none⟩ = some (.int .u8 h) ∧ w'.cell? ⟨w1.heap.size, 1, none⟩ = some (.int .u8 s)) (fun _ h => h.1) _ _ _ _ ?_
    have hHeld2 := And.intro hHeld (And.intro (World.cell?_alloc_mark w1 #[.int .u8 h, .int .u8 s] 5 (0, 0) 0) (World.cell?_alloc_mark w1 #[.int .u8 h, .int .u8 s] 5 (0, 0) 1))
    try simp only [Act.put, List.setIfInBounds_toArray, List.set_cons_zero, List.set_cons_succ]
    refine wpAnyH_take (i := 9) (v := ?_) rfl (by kernel_rfl) (by kernel_rfl) (by kernel_rfl) (fun _ _ _ h => h) (Or.inl ⟨by rfl, ?_⟩) hHeld2 ?_
    rotate_left
    · (intro w hSw; (try dsimp only at hSw); obtain ⟨_, g0, g1⟩ := hSw; have cc := cvg _ _ g0 g1; go_simp; try with_reducible rfl)
    try simp only [Act.put, List.setIfInBounds_toArray, List.set_cons_zero, List.set_cons_succ]
    refine wpAnyH_ready (rs := [2]) (by kernel_rfl) (by simp) ?_
    refine AllReadyH.cons rfl (fun K' hK => ?_) AllReadyH.nil
    clear hHeld hHeld2
    go_simp
    refine I1.mono ?_
    rintro e w2 ⟨rfl, ht2, q1, q2, q3, q4, g0, g1⟩
    refine hK.out _ _ ⟨⟨ht2, q1, q2, q3, q4⟩, g0, g1⟩ (fun hHeld2 => ?_)
    clear hK
    have hHeld := hHeld2.1
    try simp only [Act.put, List.setIfInBounds_toArray, List.set_cons_zero, List.set_cons_succ]
    refine wpAnyH_take (i := 3) (v := ?_) rfl (by kernel_rfl) (by kernel_rfl) (by kernel_rfl) (fun _ _ _ h => h) (Or.inl ⟨by rfl, ?_⟩) hHeld2 ?_
    rotate_left
    · (intro w hSw; (try dsimp only at hSw); go_simp; try with_reducible rfl)
    try simp only [Act.put, List.setIfInBounds_toArray, List.set_cons_zero, List.set_cons_succ]
    refine wpAnyH_take (i := 10) (v := ?_) rfl (by kernel_rfl) (by kernel_rfl) (by kernel_rfl) (fun _ _ _ h => h) (Or.inl ⟨by rfl, ?_⟩) hHeld2 ?_
    rotate_left
    · (intro w hSw; (try dsimp only at hSw); go_simp; try with_reducible rfl)
    try simp only [Act.put, List.setIfInBounds_toArray, List.set_cons_zero, List.set_cons_succ]
    refine wpAnyH_take (i := 11) (v := ?_) rfl (by kernel_rfl) (by kernel_rfl) (by kernel_rfl) (fun _ _ _ h => h) (Or.inl ⟨by rfl, ?_⟩) hHeld2 ?_
    rotate_left
    · (intro w hSw; (try dsimp only at hSw); go_simp; try with_reducible rfl)
    try simp only [Act.put, List.setIfInBounds_toArray, List.set_cons_zero, List.set_cons_succ]
    refine wpAnyH_done (by kernel_rfl) ?_ _
    have TT := hHeld.1
    have k4 := hHeld.2.2.2.2
    clear hHeld hHeld2
    by_cases hc : 0 < c
    · have FF := Lib.hid (F1.out hc)
      go_wp2_with (go_at_call 16; refine (IC.out _ TT).mono ?_; rintro e w3 ⟨rfl, hb3⟩)
      have hB := (TT.call hb3).below
      go_ret2
      exact ⟨by rw [FF.out]; rfl, hB⟩
    · have FF := Lib.hid (F2.out (by omega))
      have hB := TT.below
      go_wp2_with fail
      go_ret2
      exact ⟨by rw [FF.out]; rfl, hB⟩
end Dw
end Go.Proofs.YtafeigpmldgifaaGreatDoor
/-
  Digits of the reference: decimal, value, digit, worth.
-/
namespace Go.Proofs.YtafeigpmldgifaaGreatDoor
namespace Dw
open Go.RowKit Dp Lw

theorem worth_inj {c d : UInt8} (h : worthN c = worthN d) (hc : worthN c < 10) : c = d := by
  have key : ∀ x : UInt8, worthN x < 10 → x.toNat = 48 + worthN x := fun x hx => by
    unfold worthN at hx ⊢
    split
    · omega
    · next g =>
      rw [if_neg g] at hx
      split at hx
      · omega
      · split at hx <;> omega
  apply UInt8.toNat_inj.1
  rw [key c hc, key d (by omega), h]
theorem dig_uniq : ∀ (k : Nat) (l m : List UInt8), l.length = k → m.length = k → allW 10 l → allW 10 m → valN 10 l = valN 10 m → l = m
  | 0, l, m, hl, hm, _, _, _ => by rw [List.eq_nil_of_length_eq_zero hl, List.eq_nil_of_length_eq_zero hm]
  | k + 1, l, m, hl, hm, al, am, hv => by
    obtain ⟨l', c, rfl⟩ : ∃ l' c, l = l' ++ [c] := ⟨l.dropLast, l.getLast (by intro e; rw [e] at hl; simp at hl), (List.dropLast_concat_getLast _).symm⟩
    obtain ⟨m', d, rfl⟩ : ∃ l' c, m = l' ++ [c] := ⟨m.dropLast, m.getLast (by intro e; rw [e] at hm; simp at hm), (List.dropLast_concat_getLast _).symm⟩
    rw [valN_snoc, valN_snoc] at hv
    have hc := al c (List.mem_append_right _ (List.mem_singleton.2 rfl))
    have hd := am d (List.mem_append_right _ (List.mem_singleton.2 rfl))
    rw [List.length_append] at hl hm
    simp only [List.length_cons, List.length_nil] at hl hm
    rw [dig_uniq k l' m' (by omega) (by omega) (fun x hx => al x (List.mem_append_left _ hx)) (fun x hx => am x (List.mem_append_left _ hx)) (by omega), worth_inj (c := c) (d := d) (by omega) hc]
/-- The last digits of a number. -/
def lastD (n : Nat) : Nat → List UInt8
  | 0 => []
  | j + 1 => dig62 (n / 10 ^ j % 10) :: lastD n j
theorem lastD_len (n : Nat) : ∀ j, (lastD n j).length = j
  | 0 => rfl
  | j + 1 => by rw [lastD, List.length_cons, lastD_len n j]
theorem foldl_from (l : List UInt8) : ∀ a : Nat, l.foldl (fun n c => n * 10 + worthN c) a = a * 10 ^ l.length + valN 10 l := by
  induction l with
  | nil => intro a; simp [valN]
  | cons c l ih =>
    intro a
    rw [List.foldl_cons, ih]
    have h : valN 10 (c :: l) = worthN c * 10 ^ l.length + valN 10 l := by
      unfold valN
      rw [List.foldl_cons, ih, Nat.zero_mul, Nat.zero_add]
      rfl
    rw [h, List.length_cons, Nat.pow_succ, Nat.add_mul, Nat.mul_assoc, Nat.mul_comm 10]
    omega
theorem lastD_val (n : Nat) : ∀ j, valN 10 (lastD n j) = n % 10 ^ j ∧ allW 10 (lastD n j)
  | 0 => ⟨by simp [lastD, valN, Nat.mod_one], allW_nil 10⟩
  | j + 1 => by
    obtain ⟨h1, h2⟩ := lastD_val n j
    have e := worth_dig (n / 10 ^ j % 10) (by omega)
    refine ⟨?_, allW_cons (by omega) h2⟩
    have h : valN 10 (lastD n (j + 1)) = worthN (dig62 (n / 10 ^ j % 10)) * 10 ^ (lastD n j).length + valN 10 (lastD n j) := by
      rw [lastD]
      unfold valN
      rw [List.foldl_cons, foldl_from, Nat.zero_mul, Nat.zero_add]
      rfl
    rw [h, e, h1, lastD_len, Nat.pow_succ]
    have := Nat.div_add_mod n (10 ^ j)
    have := Nat.mod_mul (x := n) (a := 10 ^ j) (b := 10)
    rw [this, Nat.mul_comm, Nat.add_comm]
theorem lastD_pad (n d J : Nat) (hd : 1 ≤ d) (h0 : n / 10 ^ J = 0) (h1 : d ≤ J) (h2 : J = 0 ∨ 0 < n / 10 ^ (J - 1) ∨ J - 1 < d) : lastD n J = padL (n : Int) d := by
  have hlt : n < 10 ^ J := by
    have hp : 0 < 10 ^ J := Nat.pow_pos (by omega)
    exact (Nat.div_eq_zero_iff_lt hp).1 h0
  obtain ⟨v1, v2⟩ := lastD_val n J
  obtain ⟨p1, p2⟩ := pad_val n d
  obtain ⟨K, rfl⟩ : ∃ K, J = K + 1 := ⟨J - 1, by omega⟩
  have len : (padL (n : Int) d).length = K + 1 := by
    have hl : (Lib.itoa (n : Int)).length = Lib.nDigits n := by rw [itoa_nat, Lib.decDigits_length]
    have hle := nd_le K n hlt
    have hpos := Lib.nDigits_pos n
    unfold padL
    rw [List.length_append, rep_len, hl]
    rcases h2 with h | h | h
    · omega
    · have hp : 0 < 10 ^ K := Nat.pow_pos (by omega)
      rw [Nat.add_sub_cancel] at h
      have : 10 ^ K ≤ n := by
        rcases Nat.lt_or_ge n (10 ^ K) with g | g
        · rw [Nat.div_eq_of_lt g] at h; omega
        · exact g
      have := Lib.nDigits_unique K n this hlt
      omega
    · omega
  exact dig_uniq (K + 1) _ _ (lastD_len n _) len v2 p2 (by rw [v1, p1, Nat.mod_eq_of_lt hlt])
def restN (n j : Nat) : Int := ((n / 10 ^ j : Nat) : Int)
def lastS (n j : Nat) : ByteArray := ⟨(lastD n j).toArray⟩
theorem lastS_size (n j : Nat) : (lastS n j).size = j := by unfold lastS; rw [size_mk, lastD_len]
theorem restN_bd (n j : Nat) : 0 ≤ restN n j ∧ restN n j ≤ n := by
  unfold restN
  exact ⟨Int.natCast_nonneg _, Int.ofNat_le.2 (Nat.div_le_self n (10 ^ j))⟩
theorem restN_s (n j : Nat) : restN n (j + 1) = restN n j / 10 := by
  unfold restN
  rw [Nat.pow_succ, ← Nat.div_div_eq_div_mul]
  rfl
theorem digS_ext (k : Nat) (hk : k < 62) : (digS 62).extract k (k + 1) = ⟨#[dig62 k]⟩ := by
  have key : ∀ k, k < 62 → ((digS 62).extract k (k + 1)).data.toList = [dig62 k] := by decide +kernel
  apply ByteArray.ext
  apply Array.toList_inj.1
  exact key k hk
theorem lastS_s (n j : Nat) : (digS 62).extract (restN n j % 10).toNat ((restN n j % 10).toNat + 1) ++ lastS n j = lastS n (j + 1) := by
  have e : (restN n j % 10).toNat = n / 10 ^ j % 10 := by unfold restN; omega
  rw [e, digS_ext _ (by omega)]
  exact str_app [dig62 (n / 10 ^ j % 10)] (lastD n j)
theorem dig_lit : (⟨#[48, 49, 50, 51, 52, 53, 54, 55, 56, 57, 65, 66, 67, 68, 69, 70, 71, 72, 73, 74, 75, 76, 77, 78, 79, 80, 81, 82, 83, 84, 85, 86, 87, 88, 89, 90, 97, 98, 99, 100, 101, 102, 103, 104, 105, 106, 107, 108, 109, 110, 111, 112, 113, 114, 115, 116, 117, 118, 119, 120, 121, 122]⟩ : ByteArray) = digS 62 := by decide +kernel
theorem lastS_lit (n j : Nat) (r : Int) (h : restN n j = r) (s : ByteArray) (hs : lastS n j = s) : (⟨#[48, 49, 50, 51, 52, 53, 54, 55, 56, 57, 65, 66, 67, 68, 69, 70, 71, 72, 73, 74, 75, 76, 77, 78, 79, 80, 81, 82, 83, 84, 85, 86, 87, 88, 89, 90, 97, 98, 99, 100, 101, 102, 103, 104, 105, 106, 107, 108, 109, 110, 111, 112, 113, 114, 115, 116, 117, 118, 119, 120, 121, 122]⟩ : ByteArray).extract (r % 10).toNat (r % 10 + 1).toNat ++ s = lastS n (j + 1) := by
  subst h hs
  have := lastS_s n j
  have h0 := (restN_bd n j).1
  rw [dig_lit, show (restN n j % 10 + 1).toNat = (restN n j % 10).toNat + 1 by omega]
  exact this
theorem restN_zero {n : Nat} (h : n < 10 ^ 18) {j : Nat} (hj : 18 ≤ j) : restN n j = 0 := by
  unfold restN
  have : 10 ^ 18 ≤ 10 ^ j := Nat.pow_le_pow_right (by omega) hj
  rw [Nat.div_eq_of_lt (by omega)]
  rfl
set_option maxRecDepth 100000 in
set_option maxHeartbeats 2000000 in
theorem decimal_any (n d : Nat) (w : World) (hn : n < 10 ^ 18) (hd : 1 ≤ d) (hd1 : d ≤ 18) :
    Calls Tryz.prog 38 #[.int .i64 n, .int .i64 d] w fun e w' => e = .returned (.string ⟨(padL (n : Int) d).toArray⟩) ∧ w = w' := by
  have HN := Lib.hid hn
  have e0 : restN n 0 = n := by unfold restN; simp
  rw [← e0]
  have e0 := Lib.hid e0
  clear hn
  go_enter Tryz.func38, Tryz.ntmps38
  go_wp2
  go_loop [0, 5] (fun r s => ∃ j : Nat, j ≤ 18 ∧ r = .int .i64 (restN n j) ∧ s = .string (lastS n j) ∧ Hid (j = 0 ∨ 0 < n / 10 ^ (j - 1) ∨ j - 1 < d)) (fun _ s => 18 - (match s with | .string b => b.size | _ => 0))
  case atStart => exact ⟨0, by omega, rfl, rfl, Lib.hid (Or.inl rfl)⟩
  case round =>
    obtain ⟨j, hj, rfl, rfl, D⟩ := hrel
    have sz := lastS_size n j
    have bd := restN_bd n j
    have B := HN.out
    have NX := Lib.hid (show Value.int .i64 (restN n j / 10) = .int .i64 (restN n (j + 1)) by rw [restN_s])
    have r1 : restN n j ≤ 1000000000000000000 := by
      have : (n : Int) ≤ 1000000000000000000 := by omega
      omega
    obtain ⟨r, er⟩ : ∃ r, restN n j = r := ⟨_, rfl⟩
    obtain ⟨s, es⟩ : ∃ s, lastS n j = s := ⟨_, rfl⟩
    have SX := Lib.hid (lastS_lit n j r er s es)
    have ER := Lib.hid er
    have ES := Lib.hid es
    rw [er] at bd r1 NX
    rw [es] at sz
    rw [er, es]
    clear er es
    obtain ⟨r0, _⟩ := bd
    have m0 : 0 ≤ r % 10 := by omega
    have m1 : r % 10 < 10 := by omega
    by_cases hr : 0 < r
    · have j18 : j < 18 := by
        rcases Nat.lt_or_ge j 18 with g | g
        · exact g
        · have := restN_zero B g; rw [ER.out] at this; omega
      have D2 : Hid (j + 1 = 0 ∨ 0 < n / 10 ^ (j + 1 - 1) ∨ j + 1 - 1 < d) := Lib.hid (Or.inr (Or.inl (by
        have := ER.out
        unfold restN at this
        rw [Nat.add_sub_cancel]
        exact Int.ofNat_lt.1 (by rw [this]; exact hr))))
      clear B D
      go_wp2_with fail
      go_round
      case rel => exact ⟨j + 1, by omega, NX.out, congrArg Value.string SX.out, D2⟩
      case measure =>
        show 18 - (_ : ByteArray).size < 18 - s.size
        rw [SX.out, lastS_size]
        omega
    · by_cases hjd : j < d
      · have hjd' : (j : Int) < d := by omega
        have D2 : Hid (j + 1 = 0 ∨ 0 < n / 10 ^ (j + 1 - 1) ∨ j + 1 - 1 < d) := Lib.hid (Or.inr (Or.inr (by omega)))
        clear B D
        go_wp2_with fail
        go_round
        case rel => exact ⟨j + 1, by omega, NX.out, congrArg Value.string SX.out, D2⟩
        case measure =>
          show 18 - (_ : ByteArray).size < 18 - s.size
          rw [SX.out, lastS_size]
          omega
      · have hjd' : ¬ (j : Int) < d := by omega
        have FN := Lib.hid (show s = ⟨(padL (n : Int) d).toArray⟩ by
          rw [← ES.out]
          unfold lastS
          rw [lastD_pad n d j hd (by have := ER.out; unfold restN at this; omega) (by omega) D.out])
        clear B D
        go_wp2_with fail
        go_ret
        exact ⟨by rw [FN.out]; rfl, rfl⟩
end Dw
end Go.Proofs.YtafeigpmldgifaaGreatDoor
/-
  Digits of the reference: value, digit, worth.
-/
namespace Go.Proofs.YtafeigpmldgifaaGreatDoor
namespace Dw
open Go.RowKit Dp Lw

theorem worth_dec {c : UInt8} : worthN c < 10 ↔ 48 ≤ (c.toNat : Int) ∧ (c.toNat : Int) ≤ 57 := by
  unfold worthN
  split
  · omega
  · split
    · omega
    · split <;> omega
theorem worth_val {c : UInt8} (h : 48 ≤ (c.toNat : Int) ∧ (c.toNat : Int) ≤ 57) : (worthN c : Int) = (c.toNat : Int) - 48 := by
  unfold worthN
  rw [if_pos (by omega)]
  omega
/-- What the loop of value keeps. -/
structure VInv (s : ByteArray) (k : Nat) : Prop where
  all : allW 10 (s.data.toList.take k)
theorem VInv.start (s : ByteArray) : VInv s 0 := ⟨allW_nil 10⟩
theorem val_pow (l : List UInt8) (h : allW 10 l) : valN 10 l < 10 ^ l.length := by
  obtain ⟨k, hk⟩ : ∃ k, l.length = k := ⟨_, rfl⟩
  induction k generalizing l with
  | zero => rw [List.eq_nil_of_length_eq_zero hk]; simp [valN]
  | succ k ih =>
    obtain ⟨l', c, rfl⟩ : ∃ l' c, l = l' ++ [c] := ⟨l.dropLast, l.getLast (by intro e; rw [e] at hk; simp at hk), (List.dropLast_concat_getLast _).symm⟩
    have hc := h c (List.mem_append_right _ (List.mem_singleton.2 rfl))
    rw [List.length_append] at hk ⊢
    simp only [List.length_cons, List.length_nil] at hk ⊢
    have := ih l' (fun x hx => h x (List.mem_append_left _ hx)) (by omega)
    rw [valN_snoc, show l'.length + 0 + 1 = l'.length + 1 by omega, Nat.pow_succ]
    omega
theorem VInv.bd {s : ByteArray} {k : Nat} (h : VInv s k) (h8 : k ≤ 8) : 0 ≤ valI 10 s k ∧ valI 10 s k ≤ 100000000 := by
  have h1 := val_pow _ h.all
  have h2 : (s.data.toList.take k).length ≤ 8 := Nat.le_trans (List.length_take_le _ _) h8
  have h3 : 10 ^ (s.data.toList.take k).length ≤ 10 ^ 8 := Nat.pow_le_pow_right (by omega) h2
  unfold valI
  omega
theorem VInv.next {s : ByteArray} {k : Nat} (h : VInv s k) (hk : k < s.size) (hw : 48 ≤ (s[k].toNat : Int) ∧ (s[k].toNat : Int) ≤ 57) : VInv s (k + 1) ∧ valI 10 s (k + 1) = 10 * valI 10 s k + ((s[k].toNat : Int) - 48) := by
  have e := take_snoc s k hk
  refine ⟨⟨by rw [e]; exact allW_snoc h.all (worth_dec.2 hw)⟩, ?_⟩
  unfold valI
  rw [e, valN_snoc, ← worth_val hw]
  simp
  omega
theorem valR_fin {s : ByteArray} {k : Nat} (h : VInv s k) (hk : ¬ k < s.size) (h1 : 1 ≤ s.size) (h8 : s.size ≤ 8) : valI 10 s k = valR s.data.toList := by
  have ha := h.all
  unfold valI
  rw [take_all s k hk] at ha ⊢
  have hl := size_data s
  rw [valR_yes (by omega) (by omega) ha]
theorem valR_not {s : ByteArray} {k : Nat} (hk : k < s.size) (h : ¬ (48 ≤ (s[k].toNat : Int) ∧ (s[k].toNat : Int) ≤ 57)) : valR s.data.toList = -1 :=
  valR_no (not_all (get_mem s k hk) (fun g => h (worth_dec.1 g)))
theorem valR_len {s : ByteArray} (h : ¬ (1 ≤ s.size ∧ s.size ≤ 8)) : valR s.data.toList = -1 := by
  have hl := size_data s
  exact if_neg (fun g => h (by omega))
theorem valR_bd (l : List UInt8) : -1 ≤ valR l ∧ valR l ≤ 100000000 := by
  unfold valR
  split
  · next g =>
    have h1 := val_pow l g.2.2
    have h3 : 10 ^ l.length ≤ 10 ^ 8 := Nat.pow_le_pow_right (by omega) g.2.1
    omega
  · omega
theorem byte_bd (b : UInt8) : 0 ≤ (b.toNat : Int) ∧ (b.toNat : Int) < 256 := by have := b.toNat_lt; omega
theorem dig_ext_lit (n : Nat) (h : n < 62) : (⟨#[48, 49, 50, 51, 52, 53, 54, 55, 56, 57, 65, 66, 67, 68, 69, 70, 71, 72, 73, 74, 75, 76, 77, 78, 79, 80, 81, 82, 83, 84, 85, 86, 87, 88, 89, 90, 97, 98, 99, 100, 101, 102, 103, 104, 105, 106, 107, 108, 109, 110, 111, 112, 113, 114, 115, 116, 117, 118, 119, 120, 121, 122]⟩ : ByteArray).extract n (n + 1) = ⟨[dig62 n].toArray⟩ := by
  rw [dig_lit]
  exact digS_ext n h
theorem lit_at : ∀ k, k < 62 → ∀ h : k < (⟨#[48, 49, 50, 51, 52, 53, 54, 55, 56, 57, 65, 66, 67, 68, 69, 70, 71, 72, 73, 74, 75, 76, 77, 78, 79, 80, 81, 82, 83, 84, 85, 86, 87, 88, 89, 90, 97, 98, 99, 100, 101, 102, 103, 104, 105, 106, 107, 108, 109, 110, 111, 112, 113, 114, 115, 116, 117, 118, 119, 120, 121, 122]⟩ : ByteArray).size, ((⟨#[48, 49, 50, 51, 52, 53, 54, 55, 56, 57, 65, 66, 67, 68, 69, 70, 71, 72, 73, 74, 75, 76, 77, 78, 79, 80, 81, 82, 83, 84, 85, 86, 87, 88, 89, 90, 97, 98, 99, 100, 101, 102, 103, 104, 105, 106, 107, 108, 109, 110, 111, 112, 113, 114, 115, 116, 117, 118, 119, 120, 121, 122]⟩ : ByteArray)[k]'h) = dig62 k := by decide +kernel
theorem worth_eq (k : Nat) (hk : k < 62) (c : UInt8) : dig62 k = c ↔ worthN c = k := by
  constructor
  · rintro rfl
    exact worth_dig k hk
  · intro h
    have key : ∀ c : UInt8, worthN c < 62 → dig62 (worthN c) = c := by
      intro c
      have : ∀ n : Nat, n < 256 → worthN (UInt8.ofNat n) < 62 → dig62 (worthN (UInt8.ofNat n)) = UInt8.ofNat n := by decide +kernel
      have h := this c.toNat c.toNat_lt
      rwa [UInt8.ofNat_toNat] at h
    rw [← h]
    exact key c (by omega)
theorem idx_lit (k : Nat) (hk : k < 62) (w : World) : (Instr.index 9 (.string ⟨#[48, 49, 50, 51, 52, 53, 54, 55, 56, 57, 65, 66, 67, 68, 69, 70, 71, 72, 73, 74, 75, 76, 77, 78, 79, 80, 81, 82, 83, 84, 85, 86, 87, 88, 89, 90, 97, 98, 99, 100, 101, 102, 103, 104, 105, 106, 107, 108, 109, 110, 111, 112, 113, 114, 115, 116, 117, 118, 119, 120, 121, 122]⟩) (.int .i64 (k : Int))).run Tryz.prog w = .ok (.int .u8 ((dig62 k).toNat : Int)) w := by
  have hs : (⟨#[48, 49, 50, 51, 52, 53, 54, 55, 56, 57, 65, 66, 67, 68, 69, 70, 71, 72, 73, 74, 75, 76, 77, 78, 79, 80, 81, 82, 83, 84, 85, 86, 87, 88, 89, 90, 97, 98, 99, 100, 101, 102, 103, 104, 105, 106, 107, 108, 109, 110, 111, 112, 113, 114, 115, 116, 117, 118, 119, 120, 121, 122]⟩ : ByteArray).size = 62 := rfl
  rw [run_index_string (P := Tryz.prog) w 9 _ .i64 (k : Int) Tryz.underlying9, dif_pos ⟨by omega, by rw [hs]; omega⟩]
  simp only [Int.toNat_natCast]
  rw [lit_at k hk]
theorem worthI_yes {c : UInt8} {k : Nat} (hk : k < 62) (h : worthN c = k) : worthI c = k := by unfold worthI; rw [if_pos (by omega), h]
theorem worthI_no {c : UInt8} (h : 62 ≤ worthN c) : worthI c = -1 := if_neg (by omega)
end Dw
end Go.Proofs.YtafeigpmldgifaaGreatDoor
/-
  The walks of HalfLetter, orderLetter and Check of the reference.
-/
namespace Go.Proofs.YtafeigpmldgifaaGreatDoor
namespace Dw
open Go.RowKit Dp Lw

set_option maxHeartbeats 400000 in
theorem halfLetter_any (c : Int) (w : World) : Calls Tryz.prog 36 #[.int .u8 c] w fun e w' => e = .returned (.bool (halfB c)) ∧ w = w' := by
  by_cases h3 : c = 73
  · subst h3
    go_enter Tryz.func36, Tryz.ntmps36
    go_wp2
    go_ret
    exact ⟨ret_bool (halfB_false (by unfold halfP; omega)), rfl⟩
  · have e1 : (c != 73) = true := bne_iff_ne.2 h3
    by_cases h1 : 65 ≤ c
    · by_cases h2 : c ≤ 89
      · go_enter Tryz.func36, Tryz.ntmps36
        go_wp2
        go_ret
        exact ⟨ret_bool (halfB_true ⟨h1, h2, h3⟩), rfl⟩
      · go_enter Tryz.func36, Tryz.ntmps36
        go_wp2
        go_ret
        exact ⟨ret_bool (halfB_false (by unfold halfP; omega)), rfl⟩
    · go_enter Tryz.func36, Tryz.ntmps36
      go_wp2
      go_ret
      exact ⟨ret_bool (halfB_false (by unfold halfP; omega)), rfl⟩
set_option maxHeartbeats 400000 in
theorem orderLetter_any (c : Int) (w : World) : Calls Tryz.prog 37 #[.int .u8 c] w fun e w' => e = .returned (.bool (secB c)) ∧ w = w' := by
  by_cases h3 : c = 73
  · subst h3
    go_enter Tryz.func37, Tryz.ntmps37
    go_wp2
    go_ret
    exact ⟨ret_bool (secB_false (by unfold secP; omega)), rfl⟩
  · have e1 : (c != 73) = true := bne_iff_ne.2 h3
    by_cases h1 : 65 ≤ c
    · by_cases h2 : c ≤ 90
      · go_enter Tryz.func37, Tryz.ntmps37
        go_wp2
        go_ret
        exact ⟨ret_bool (secB_true ⟨h1, h2, h3⟩), rfl⟩
      · go_enter Tryz.func37, Tryz.ntmps37
        go_wp2
        go_ret
        exact ⟨ret_bool (secB_false (by unfold secP; omega)), rfl⟩
    · go_enter Tryz.func37, Tryz.ntmps37
      go_wp2
      go_ret
      exact ⟨ret_bool (secB_false (by unfold secP; omega)), rfl⟩

set_option maxHeartbeats 2000000 in
theorem rcheck_any (n y h s c : Int) (w : World) :
    Calls Tryz.prog 20 #[desigV n y h s c] w fun e w' => e = .returned (.int .i64 (errC n y h s c)) ∧ Below w.heap.size w w' := by
  by_cases hn : n = 0
  · subst hn
    by_cases hh : halfP h
    · have b1 := (halfB_true hh).symm
      by_cases hs : secP s
      · have b2 := (secB_true hs).symm
        go_enter Tryz.func20, Tryz.ntmps20
        go_wp2_with (first | (go_at_call 36; refine (halfLetter_any _ _).mono ?_; rintro e w' ⟨rfl, rfl⟩) | (go_at_call 37; refine (orderLetter_any _ _).mono ?_; rintro e w' ⟨rfl, rfl⟩))
        all_goals go_ret
        all_goals
          refine ⟨ret_int ?_, (Below.refl _ _).alloc (Nat.le_refl _) _⟩
          try unfold halfP at hh
          try unfold secP at hs
          unfold errC okD halfP secP
          first | exact (if_pos (by omega)).symm | exact (if_neg (by omega)).symm
      · have b2 := (secB_false hs).symm
        go_enter Tryz.func20, Tryz.ntmps20
        go_wp2_with (first | (go_at_call 36; refine (halfLetter_any _ _).mono ?_; rintro e w' ⟨rfl, rfl⟩) | (go_at_call 37; refine (orderLetter_any _ _).mono ?_; rintro e w' ⟨rfl, rfl⟩))
        all_goals go_ret
        all_goals
          refine ⟨ret_int ?_, (Below.refl _ _).alloc (Nat.le_refl _) _⟩
          try unfold halfP at hh
          try unfold secP at hs
          unfold errC okD halfP secP
          first | exact (if_pos (by omega)).symm | exact (if_neg (by omega)).symm
    · have b1 := (halfB_false hh).symm
      go_enter Tryz.func20, Tryz.ntmps20
      go_wp2_with (first | (go_at_call 36; refine (halfLetter_any _ _).mono ?_; rintro e w' ⟨rfl, rfl⟩) | (go_at_call 37; refine (orderLetter_any _ _).mono ?_; rintro e w' ⟨rfl, rfl⟩))
      all_goals go_ret
      all_goals
        refine ⟨ret_int ?_, (Below.refl _ _).alloc (Nat.le_refl _) _⟩
        try unfold halfP at hh
        try unfold secP at hs
        unfold errC okD halfP secP
        first | exact (if_pos (by omega)).symm | exact (if_neg (by omega)).symm
  · have e1 : (n != 0) = true := bne_iff_ne.2 hn
    go_enter Tryz.func20, Tryz.ntmps20
    go_wp2_with (first | (go_at_call 36; refine (halfLetter_any _ _).mono ?_; rintro e w' ⟨rfl, rfl⟩) | (go_at_call 37; refine (orderLetter_any _ _).mono ?_; rintro e w' ⟨rfl, rfl⟩))
    all_goals go_ret
    all_goals
      refine ⟨ret_int ?_, (Below.refl _ _).alloc (Nat.le_refl _) _⟩
      try unfold halfP at hh
      try unfold secP at hs
      unfold errC okD halfP secP
      first | exact (if_pos (by omega)).symm | exact (if_neg (by omega)).symm
end Dw
end Go.Proofs.YtafeigpmldgifaaGreatDoor
/-
  Text of the reference.
-/
namespace Go.Proofs.YtafeigpmldgifaaGreatDoor
namespace Dw
open Go.RowKit Dp Lw

theorem pad_itoa (v d : Nat) (h : d ≤ Lib.nDigits v) : padL (v : Int) d = Lib.itoa (v : Int) := by
  unfold padL
  rw [show d - (Lib.itoa (v : Int)).length = 0 by rw [itoa_nat, Lib.decDigits_length]; omega]
  rfl
theorem dec_itoa (v d : Nat) (hv : v < 10 ^ 18) (hd : 1 ≤ d) (hd1 : d ≤ 18) (h : d ≤ Lib.nDigits v) (w : World) :
    Calls Tryz.prog 38 #[.int .i64 (v : Int), .int .i64 (d : Int)] w fun e w' => e = .returned (.string ⟨(Lib.itoa (v : Int)).toArray⟩) ∧ w = w' := by
  have := decimal_any v d w hv hd hd1
  rwa [pad_itoa v d h] at this
/-- What a drawn region over a boxed designation needs of memory, without tables. -/
structure RS (w w' : World) : Prop where
  below : Below w.heap.size w w'
  lt : w.heap.size < w'.heap.size
theorem RS.call {w a b : World} (h : RS w a) (hb : Below a.heap.size a b) : RS w b := ⟨below_then h.below hb, Nat.lt_of_lt_of_le h.lt hb.size⟩
theorem RS.drew {w a : World} (h : RS w a) : RS w a.drew := h.call ((Below.refl _ a).drew)
theorem RS.box (w : World) (o : Obj) : RS w (w.alloc o) := ⟨(Below.refl _ w).alloc (Nat.le_refl _) _, by simp⟩
def RTextOk (n y h s c : Int) (w : World) (e : Ending) (w' : World) : Prop := e = .returned (.string ⟨(textG ⟨n, y, h, s, c⟩).toArray⟩) ∧ Below w.heap.size w w'
set_option maxRecDepth 100000 in
set_option maxHeartbeats 4000000 in
theorem rtext_num (n y h s c : Int) (w : World) (g : okD n y h s c) (hn : 0 < n) :
    Calls Tryz.prog 21 #[desigV n y h s c] w (RTextOk n y h s c w) := by
  have hbd := okD_bd g
  obtain ⟨v, rfl⟩ := Int.eq_ofNat_of_zero_le (show 0 ≤ n by omega)
  have I := Lib.hid (dec_itoa v 1 (by omega) (by omega) (by omega) (Lib.nDigits_pos v))
  have F := Lib.hid (show textG ⟨v, y, h, s, c⟩ = Lib.itoa v from if_pos hn)
  have hB := Lib.hid (RS.box w (.cells (desigC v y h s c).toArray 34)).below
  clear g hbd
  go_enter Tryz.func21, Tryz.ntmps21
  go_wp2_with fail
  go_at_call 38
  refine (I.out _).mono ?_
  rintro e w' ⟨rfl, rfl⟩
  go_wp2_with fail
  go_ret
  exact ⟨by rw [F.out]; rfl, hB⟩
set_option maxRecDepth 100000 in
set_option maxHeartbeats 4000000 in
theorem rtext_prov (y h s c : Int) (w : World) (h0 : 0 ≤ h) (h1 : h < 256) (s0 : 0 ≤ s) (s1 : s < 256) (g : okD 0 y h s c) :
    Calls Tryz.prog 21 #[desigV 0 y h s c] w (RTextOk 0 y h s c w) := by
  have hy : 1800 ≤ y ∧ y ≤ 2099 ∧ 0 ≤ c ∧ c ≤ 619 := by unfold okD at g; omega
  obtain ⟨y0, y1, c0, c1⟩ := hy
  obtain ⟨v, rfl⟩ := Int.eq_ofNat_of_zero_le (show 0 ≤ y by omega)
  obtain ⟨k, rfl⟩ := Int.eq_ofNat_of_zero_le c0
  have I := Lib.hid (dec_itoa v 4 (by omega) (by omega) (by omega) (Nat.le_of_eq (Lib.nDigits_unique 3 v (by omega) (by omega)).symm))
  have IC := Lib.hid (dec_itoa k 1 (by omega) (by omega) (by omega) (Lib.nDigits_pos k))
  have LH := Lib.hid (fun w => letter_any h w h0 h1)
  have LS := Lib.hid (fun w => letter_any s w s0 s1)
  have F : textG ⟨0, v, h, s, k⟩ = Lib.itoa v ++ [32] ++ [b8 h, b8 s] ++ (if 0 < (k : Int) then Lib.itoa k else []) := by
    rw [List.append_assoc (Lib.itoa v)]
    exact if_neg (by simp)
  have ly := Lib.itoa_length_le v (by omega) (by omega)
  have lc := Lib.itoa_length_le k (by omega) (by omega)
  generalize Lib.itoa (v : Int) = Y at *
  generalize Lib.itoa (k : Int) = K at *
  have F1 := Lib.hid (fun hc : 0 < k => show textG ⟨0, v, h, s, k⟩ = Y ++ 32 :: b8 h :: b8 s :: K by rw [F, if_pos (by omega)]; simp)
  have F2 := Lib.hid (fun hc : k = 0 => show textG ⟨0, v, h, s, k⟩ = Y ++ [32, b8 h, b8 s] by rw [F, if_neg (by omega)]; simp)
  clear F
  have r0 := RS.box w (.cells (desigC 0 v h s k).toArray 34)
  have z1 : (⟨Y.toArray⟩ : ByteArray).size + (⟨#[32]⟩ : ByteArray).size ≤ 9223372036854775807 := by rw [size_mk Y]; show Y.length + 1 ≤ _; omega
  have z2 : (⟨(Y ++ [32]).toArray⟩ : ByteArray).size + (⟨[b8 h].toArray⟩ : ByteArray).size ≤ 9223372036854775807 := by rw [size_mk, size_mk, List.length_append]; simp only [List.length_cons, List.length_nil]; omega
  have z3 : (⟨(Y ++ [32, b8 h]).toArray⟩ : ByteArray).size + (⟨[b8 s].toArray⟩ : ByteArray).size ≤ 9223372036854775807 := by rw [size_mk, size_mk, List.length_append]; simp only [List.length_cons, List.length_nil]; omega
  have z4 : (⟨(Y ++ [32, b8 h, b8 s]).toArray⟩ : ByteArray).size + (⟨K.toArray⟩ : ByteArray).size ≤ 9223372036854775807 := by rw [size_mk, size_mk, List.length_append]; simp only [List.length_cons, List.length_nil]; omega
  have a1 : ∀ w' : World, (Op.stringOp .add (⟨Y.toArray⟩ : ByteArray) ⟨#[32]⟩).run Tryz.prog w' = .ok (.string ⟨(Y ++ [32]).toArray⟩) w' := fun w' => by rw [run_string_add_sum (P := Tryz.prog) (w := w') _ _ z1]; exact congrArg (fun x => Result.ok (Value.string x) w') (str_app Y [32])
  have a2 : ∀ w' : World, (Op.stringOp .add (⟨(Y ++ [32]).toArray⟩ : ByteArray) ⟨[b8 h].toArray⟩).run Tryz.prog w' = .ok (.string ⟨(Y ++ [32, b8 h]).toArray⟩) w' := fun w' => by rw [run_string_add_sum (P := Tryz.prog) (w := w') _ _ z2, str_app, List.append_assoc]; rfl
  have a3 : ∀ w' : World, (Op.stringOp .add (⟨(Y ++ [32, b8 h]).toArray⟩ : ByteArray) ⟨[b8 s].toArray⟩).run Tryz.prog w' = .ok (.string ⟨(Y ++ [32, b8 h, b8 s]).toArray⟩) w' := fun w' => by rw [run_string_add_sum (P := Tryz.prog) (w := w') _ _ z3, str_app, List.append_assoc]; rfl
  have a4 : ∀ w' : World, (Op.stringOp .add (⟨(Y ++ [32, b8 h, b8 s]).toArray⟩ : ByteArray) ⟨K.toArray⟩).run Tryz.prog w' = .ok (.string ⟨(Y ++ [32, b8 h, b8 s] ++ K).toArray⟩) w' := fun w' => by rw [run_string_add_sum (P := Tryz.prog) (w := w') _ _ z4, str_app]
  clear z1 z2 z3 z4 g y0 y1 ly lc
  have r0d := r0.drew
  go_enter Tryz.func21, Tryz.ntmps21
  go_wp2_with fail
  go_region_held3 (fun w' => RS w w' ∧ w'.cell? ⟨w.heap.size, 1, none⟩ = some (.int .i64 v) ∧ w'.cell? ⟨w.heap.size, 2, none⟩ = some (.int .u8 h) ∧ w'.cell? ⟨w.heap.size, 3, none⟩ = some (.int .u8 s) ∧ w'.cell? ⟨w.heap.size, 4, none⟩ = some (.int .i64 k)) (first | go_keep | assumption)
    (first | (go_at_call 38; refine (I.out _).mono ?_; rintro e w2 ⟨rfl, rfl⟩) | (go_at_call 39; (first | (with_reducible refine (LH.out _).mono ?_) | (with_reducible refine (LS.out _).mono ?_)); rintro e w2 ⟨rfl, hb⟩; go_split_ands; have hk := RS.call (by assumption) hb; have q1 := (hb.cell (p := ⟨w.heap.size, 1, none⟩) (RS.lt (by assumption))).trans (by assumption); have q2 := (hb.cell (p := ⟨w.heap.size, 2, none⟩) (RS.lt (by assumption))).trans (by assumption); have q3 := (hb.cell (p := ⟨w.heap.size, 3, none⟩) (RS.lt (by assumption))).trans (by assumption); have q4 := (hb.cell (p := ⟨w.heap.size, 4, none⟩) (RS.lt (by assumption))).trans (by assumption); clear hb))
  go_split_ands
  by_cases hc : 0 < k
  · have hc' : (0 : Int) < k := by omega
    have FF := Lib.hid (F1.out hc)
    go_wp2_with (go_at_call 38; refine (IC.out _).mono ?_; rintro e w3 ⟨rfl, rfl⟩)
    go_ret
    exact ⟨by rw [FF.out]; rfl, RS.below (by assumption)⟩
  · have hc' : ¬ (0 : Int) < k := by omega
    have FF := Lib.hid (F2.out (by omega))
    go_wp2_with fail
    go_ret
    exact ⟨by rw [FF.out]; rfl, RS.below (by assumption)⟩
theorem rtext_any (n y h s c : Int) (w : World) (h0 : 0 ≤ h) (h1 : h < 256) (s0 : 0 ≤ s) (s1 : s < 256) (g : okD n y h s c) :
    Calls Tryz.prog 21 #[desigV n y h s c] w (RTextOk n y h s c w) := by
  by_cases hn : 0 < n
  · exact rtext_num n y h s c w g hn
  · have : n = 0 := by have := okD_bd g; omega
    subst this
    exact rtext_prov y h s c w h0 h1 s0 s1 g
set_option maxRecDepth 100000 in
set_option maxHeartbeats 4000000 in
theorem rText_ok (n y h s c : Int) (w : World) (h0 : 0 ≤ h) (h1 : h < 256) (s0 : 0 ≤ s) (s1 : s < 256) (g : okD n y h s c) :
    Calls Tryz.prog 13 #[desigV n y h s c] w (TextOk n y h s c w) := by
  have C := Lib.hid (rcheck_any n y h s c (w.alloc (.cells (desigC n y h s c).toArray 34)))
  rw [errC_ok g] at C
  have T := Lib.hid (fun w => rtext_any n y h s c w h0 h1 s0 s1 g)
  have r1 := rangeAt_new w (desigC n y h s c) 34
  have rs := RS.box w (.cells (desigC n y h s c).toArray 34)
  clear g
  go_enter Tryz.func13, Tryz.ntmps13
  go_wp2_with (refine wpList_load_mid rfl _ (.tmp 1) rfl w.heap.size 0 rfl (desigC n y h s c) _ r1 Tryz.underlying34 rfl info5d ?_)
  go_at_call 20
  refine C.out.mono ?_
  rintro e w1 ⟨rfl, hb1⟩
  have r2 := rangeAt_below r1 hb1 (by simp)
  have rs1 := rs.call hb1
  clear C r1 rs hb1
  go_wp2_with (refine wpList_load_mid rfl _ (.tmp 1) rfl w.heap.size 0 rfl (desigC n y h s c) _ r2 Tryz.underlying34 rfl info5d ?_)
  go_at_call 21
  refine (T.out _).mono ?_
  rintro e w2 ⟨rfl, hb2⟩
  have rs2 := rs1.call hb2
  clear T r2 rs1 hb2
  go_wp2_with fail
  go_ret2
  exact ⟨rfl, rs2.below⟩
set_option maxRecDepth 100000 in
set_option maxHeartbeats 4000000 in
theorem rText_no (n y h s c : Int) (w : World) (g : ¬ okD n y h s c) :
    Calls Tryz.prog 13 #[desigV n y h s c] w (TextNo w) := by
  have C := Lib.hid (rcheck_any n y h s c (w.alloc (.cells (desigC n y h s c).toArray 34)))
  rw [errC_no g] at C
  have r1 := rangeAt_new w (desigC n y h s c) 34
  have rs := RS.box w (.cells (desigC n y h s c).toArray 34)
  clear g
  go_enter Tryz.func13, Tryz.ntmps13
  go_wp2_with (refine wpList_load_mid rfl _ (.tmp 1) rfl w.heap.size 0 rfl (desigC n y h s c) _ r1 Tryz.underlying34 rfl info5d ?_)
  go_at_call 20
  refine C.out.mono ?_
  rintro e w1 ⟨rfl, hb1⟩
  have rs1 := rs.call hb1
  clear C r1 rs hb1
  go_wp2_with fail
  go_ret2
  exact ⟨rfl, rs1.below⟩
theorem Text_ok (n y h s c : Int) (w : World) (hT : Tb w) (h0 : 0 ≤ h) (h1 : h < 256) (s0 : 0 ≤ s) (s1 : s < 256) (g : okD n y h s c) :
    Calls Tryz.prog 8 #[desigV n y h s c] w (TextOk n y h s c w) := by
  by_cases hn : 0 < n
  · exact text_num n y h s c w hT h0 h1 s0 s1 g hn
  · exact text_prov n y h s c w hT h0 h1 s0 s1 g (by have := okD_bd g; omega)
end Dw
end Go.Proofs.YtafeigpmldgifaaGreatDoor
/-
  Catalogues in memory; lines of archive, of the program and of the reference.
-/
namespace Go.Proofs.YtafeigpmldgifaaGreatDoor
namespace Kw
open Go.RowKit Lw Go.Proofs.YtafeigpmldgifaaGreatDoor.Op Go.Proofs.YtafeigpmldgifaaGreatDoor.Ow Go.Proofs.YtafeigpmldgifaaGreatDoor.Kp Go.Proofs.YtafeigpmldgifaaGreatDoor.Dp

abbrev dgC (d : Dg) : List Value := Dw.desigC d.n d.y d.h d.s d.c
/-- Designations, one behind another. -/
def DlA (w : World) (x : Option Addr) (l : List Dg) : Prop := l = [] ∨ ∃ b off, x = some ⟨b, off, none⟩ ∧ b < w.heap.size ∧ ∀ i (h : i < l.length), w.rangeAt b (off + i * 5) (dgC (l[i]'h))
theorem DlA.below {w w' : World} {x : Option Addr} {l : List Dg} (h : DlA w x l) (hb : Below w.heap.size w w') : DlA w' x l := by
  rcases h with h | ⟨b, off, h1, h2, h3⟩
  · exact Or.inl h
  · exact Or.inr ⟨b, off, h1, Nat.lt_of_lt_of_le h2 hb.size, fun i hi => rangeAt_below (h3 i hi) hb h2⟩
/-- Strings, one behind another. -/
def TxA (w : World) (x : Option Addr) (l : List ByteArray) : Prop := l = [] ∨ ∃ b off, x = some ⟨b, off, none⟩ ∧ b < w.heap.size ∧ ∀ i (h : i < l.length), w.rangeAt b (off + i) [.string (l[i]'h)]
theorem TxA.below {w w' : World} {x : Option Addr} {l : List ByteArray} (h : TxA w x l) (hb : Below w.heap.size w w') : TxA w' x l := by
  rcases h with h | ⟨b, off, h1, h2, h3⟩
  · exact Or.inl h
  · exact Or.inr ⟨b, off, h1, Nat.lt_of_lt_of_le h2 hb.size, fun i hi => rangeAt_below (h3 i hi) hb h2⟩
/-- An object's cells. -/
abbrev flC (f : Fl) (xa : Option Addr) (ca : Nat) (xo : Option Addr) (co : Nat) : List Value := [.int .i64 f.pr.n, .int .i64 f.pr.y, .int .u8 f.pr.h, .int .u8 f.pr.s, .int .i64 f.pr.c, .slice xa f.al.length ca, .slice xo f.ob.length co]
def FlAt (w : World) (b off : Nat) (f : Fl) : Prop := ∃ xa ca xo co, w.rangeAt b off (flC f xa ca xo co) ∧ DlA w xa f.al ∧ SlA w xo f.ob
theorem FlAt.below {w w' : World} {b off : Nat} {f : Fl} (h : FlAt w b off f) (hb : Below w.heap.size w w') (lt : b < w.heap.size) : FlAt w' b off f := by
  obtain ⟨xa, ca, xo, co, h1, h2, h3⟩ := h
  exact ⟨xa, ca, xo, co, rangeAt_below h1 hb lt, h2.below hb, h3.below hb⟩
def FlA (w : World) (x : Option Addr) (l : List Fl) : Prop := l = [] ∨ ∃ b off, x = some ⟨b, off, none⟩ ∧ b < w.heap.size ∧ ∀ i (h : i < l.length), FlAt w b (off + i * 7) (l[i]'h)
theorem FlA.below {w w' : World} {x : Option Addr} {l : List Fl} (h : FlA w x l) (hb : Below w.heap.size w w') : FlA w' x l := by
  rcases h with h | ⟨b, off, h1, h2, h3⟩
  · exact Or.inl h
  · exact Or.inr ⟨b, off, h1, Nat.lt_of_lt_of_le h2 hb.size, fun i hi => (h3 i hi).below hb h2⟩
/-- A catalogue's cells. -/
structure CtA (w : World) (c : Ct) (x1 : Option Addr) (c1 : Nat) (x2 : Option Addr) (c2 : Nat) (x3 : Option Addr) (c3 : Nat) : Prop where
  fl : FlA w x1 c.fl
  rest : SlA w x2 c.rest
  notes : TxA w x3 c.notes
theorem CtA.below {w w' : World} {c : Ct} {x1 x2 x3 : Option Addr} {c1 c2 c3 : Nat} (h : CtA w c x1 c1 x2 c2 x3 c3) (hb : Below w.heap.size w w') : CtA w' c x1 c1 x2 c2 x3 c3 := ⟨h.fl.below hb, h.rest.below hb, h.notes.below hb⟩
/-- Bounds of what lies there. -/
structure CtB (c : Ct) : Prop where
  dg : ∀ f ∈ c.fl, ∀ d ∈ f.al, 0 ≤ d.h ∧ d.h < 256 ∧ 0 ≤ d.s ∧ d.s < 256
  ob : ∀ f ∈ c.fl, OBs f.ob
  rest : OBs c.rest
theorem linesTo_ok {l : List Ob} : ∀ {k : Nat} {s : ByteArray}, LinesTo l k s → ∀ i, i < k → ∃ o, l[i]? = some o ∧ okO o
  | 0, _, _, i, hi => absurd hi (Nat.not_lt_zero i)
  | k + 1, _, ⟨_, b, o, h1, h2, h3, _⟩, i, hi => by
    by_cases e : i = k
    · subst e
      refine ⟨o, h2, ?_⟩
      rcases h3 with ⟨ok, _⟩ | ⟨_, _, h⟩
      · exact ok
      · exact absurd h (by decide)
    · exact linesTo_ok h1 i (by omega)
theorem linesTo_all {l : List Ob} {s : ByteArray} (h : LinesTo l l.length s) : ∀ o ∈ l, okO o := fun o ho => by
  obtain ⟨i, hi, rfl⟩ := List.getElem_of_mem ho
  obtain ⟨o', e, ok⟩ := linesTo_ok h i hi
  rw [List.getElem?_eq_getElem hi] at e
  obtain rfl := Option.some.inj e
  exact ok
theorem print_c {o : Ob} {s : ByteArray} {c : Int} (h : PrintIs o s c) : (okO o ∧ c = 0 ∧ PrintIs o s 0) ∨ (¬ okO o ∧ c = 8) := by
  rcases h with ⟨h1, h2, rfl⟩ | ⟨h1, h2, rfl⟩
  · exact Or.inl ⟨h1, rfl, Or.inl ⟨h1, h2, rfl⟩⟩
  · exact Or.inr ⟨h1, rfl⟩
theorem ownsRowF_below {w w' : World} {base : Nat} {e : TypeId} {size : Nat} {v : Value} {n : Nat} {xs : List Value} (h : w.ownsRowF base e size v n xs) (hb : Below w.heap.size w w') : w'.ownsRowF base e size v n xs := by
  obtain ⟨h1, h2⟩ := h
  refine ⟨h1, ?_⟩
  rcases h2 with h2 | ⟨g, cap, cur, fz, hv, hg, hh, r⟩
  · exact Or.inl h2
  · refine Or.inr ⟨g, cap, cur, fz, hv, hg, ?_, r⟩
    have lt : g < w.heap.size := by
      rcases Nat.lt_or_ge g w.heap.size with h | h
      · exact h
      · rw [Array.getElem?_eq_none h] at hh; cases hh
    rw [hb.block g lt]; exact hh
theorem builderF_below {w w' : World} {T e : TypeId} {B b : Nat} {bs : List Value} (h : Lib.IsBuilderF T e B b bs w) (hb : Below w.heap.size w w') : Lib.IsBuilderF T e B b bs w' := by
  have key : ∀ p, Lib.BuilderAtF T e B b p bs w → Lib.BuilderAtF T e B b p bs w' := fun p ⟨h0, v, hh, ho, hn⟩ => by
    have lt : b < w.heap.size := by
      rcases Nat.lt_or_ge b w.heap.size with h | h
      · exact h
      · rw [Array.getElem?_eq_none h] at hh; cases hh
    exact ⟨h0, v, by rw [hb.block b lt]; exact hh, ownsRowF_below ho hb, hn⟩
  exact h.elim (fun x => Or.inl (key _ x)) (fun x => Or.inr (key _ x))
/-- A builder that holds a string; what it writes leaves all else as it is. -/
def Bk (B : Nat) (s : ByteArray) (w : World) : Prop := Lib.IsBuilderF 44 5 B B (Lib.byteCells s.data.toList) w ∧ B < w.heap.size
theorem Bk.below {B : Nat} {s : ByteArray} {w w' : World} (h : Bk B s w) (hb : Below w.heap.size w w') : Bk B s w' := ⟨builderF_below h.1 hb, Nat.lt_of_lt_of_le h.2 hb.size⟩
theorem Bk.new (w : World) : Bk w.heap.size ByteArray.empty (w.alloc (.cells #[.pointer none, .slice none 0 0] 44)) :=
  ⟨Lib.IsBuilderF.of (Bd.new w).1, by simp⟩
/-- All but the builder's blocks is as it was. -/
def Ok8 (B : Nat) (w w' : World) : Prop := Lib.OthersKept 5 (some B) w w'
theorem Ok8.refl (B : Nat) (w : World) : Ok8 B w w := fun _ _ h _ _ => h
theorem Ok8.trans {B : Nat} {a c d : World} (h : Ok8 B a c) (k : Ok8 B c d) : Ok8 B a d := fun i o hi hb ho => k i o (h i o hi hb ho) hb ho
theorem Ok8.of {B : Nat} {w w' : World} (hb : Below w.heap.size w w') : Ok8 B w w' := fun k o hk _ _ => by
  have lt : k < w.heap.size := by
    rcases Nat.lt_or_ge k w.heap.size with h | h
    · exact h
    · rw [Array.getElem?_eq_none h] at hk; cases hk
  rw [hb.block k lt]; exact hk
theorem bk_write {B : Nat} {s t : ByteArray} {w : World} (h : Bk B s w) (hl : s.size + t.size ≤ 140737488355328) : Calls Tryz.prog 9 #[.pointer (some ⟨B, 0, none⟩), .string t] w fun e w' => e = .returned (.tuple #[.int .i64 t.size, .nilIface]) ∧ Bk B (s ++ t) w' ∧ Below B w w' ∧ Ok8 B w w' := by
  refine (Any.Builder_WriteString_k Tryz.lays105b_166 Tryz.Builder_Extra_105 B B (Lib.byteCells s.data.toList) t w h.1 (by rw [Lib.byteCells_length, ← size_L]; exact hl) (Nat.le_of_lt h.2)).mono ?_
  rintro e w' ⟨rfl, hB, hb, ho⟩
  refine ⟨rfl, ⟨Or.inr ?_, Nat.lt_of_lt_of_le h.2 hb.size⟩, hb, ho⟩
  have e : Lib.byteCells (s ++ t).data.toList = Lib.byteCells s.data.toList ++ Lib.strCells t := by
    rw [Lib.strCells_eq, ← Lib.byteCells_append]
    congr 1
  rw [e]
  exact hB
theorem bk_str {B : Nat} {s : ByteArray} {w : World} (h : Bk B s w) : Calls Tryz.prog 12 #[.pointer (some ⟨B, 0, none⟩)] w fun e w' => e = .returned (.string s) ∧ Below B w w' := by
  refine (Any.Builder_String_any_f Tryz.lays105b_169 Tryz.Builder_Extra_105 B B s.data.toList w h.1 (Nat.le_of_lt h.2)).mono ?_
  rintro e w' ⟨rfl, -, hb⟩
  exact ⟨by rw [mk_toL], hb⟩
def LinesPost (l : List Ob) (B : Nat) (s : ByteArray) (w : World) (e : Ending) (w' : World) : Prop :=
  ((∃ t, LinesTo l l.length t ∧ e = .returned (.int .i64 0) ∧ Bk B (s ++ t) w') ∨ ((¬ ∀ o ∈ l, okO o) ∧ e = .returned (.int .i64 8))) ∧ Below B w w' ∧ Ok8 B w w'
set_option maxRecDepth 100000 in
set_option maxHeartbeats 8000000 in
theorem lines_any (x : Option Addr) (cap : Nat) (l : List Ob) (B : Nat) (s : ByteArray) (w0 w : World) (hT : Gt.Tab w0) (hE : ES w0) (hl : SlA w0 x l) (hn : l.length ≤ 1000) (hs : s.size ≤ 100000000) (hb : OBs l) (h0 : Below w0.heap.size w0 w) (hB : w0.heap.size ≤ B) (hd : Bk B s w) :
    Calls Tryz.prog 11 #[.pointer (some ⟨B, 0, none⟩), .slice x l.length cap] w (LinesPost l B s w) := by
  have HL := Lib.hid (fun w' (h : Below B w w') => hl.below (h0.trans (h.mono hB)))
  have HE := Lib.hid (fun w' (h : Below B w w') => hE.below (h0.trans (h.mono hB)))
  have HT := Lib.hid (fun w' (h : Below B w w') => hT.below (h0.trans (h.mono hB)))
  have HD := Lib.hid hd
  have BW := Nat.le_of_lt hd.2
  have PR := Lib.hid (fun i (h : i < l.length) w' (g : Gt.Tab w') (k : ES w') => print_any (l[i]'h) w' g k (hb i h))
  obtain ⟨n, hnl⟩ : ∃ n, l.length = n := ⟨_, rfl⟩
  have FIN : Hid (∀ t, LinesTo l n t → LinesTo l l.length t) := Lib.hid (fun t h => by rw [hnl]; exact h)
  have NO : Hid (∀ i (h : i < l.length), ¬ okO (l[i]'h) → ¬ ∀ o ∈ l, okO o) := Lib.hid (fun i h g k => g (k _ (List.getElem_mem h)))
  rw [hnl] at hn ⊢
  have NL := Lib.hid hnl
  clear hl hE hT hb hnl hd h0
  go_enter Tryz.func11, Tryz.ntmps11
  go_wp2_with fail
  go_loopw [11] (fun i wr => ∃ k : Nat, k ≤ n ∧ i = .int .i64 k ∧ Hid (∃ t, LinesTo l k t ∧ Bk B (s ++ t) wr) ∧ Hid (Below B w wr ∧ Ok8 B w wr)) (fun i _ => n - (intOf i).toNat)
  case atStart => exact ⟨0, Nat.zero_le _, rfl, Lib.hid ⟨ByteArray.empty, rfl, by simpa using HD.out⟩, Lib.hid ⟨Below.refl _ _, Ok8.refl _ _⟩⟩
  case round =>
    obtain ⟨k, hk, rfl, D, X⟩ := hrel
    obtain ⟨t, ht, hd⟩ := D.out
    have TT := Lib.hid ht
    have zt := ht.size
    have HD := Lib.hid hd
    clear D ht hd
    by_cases hlt : k < n
    · have hkl : k < l.length := by rw [NL.out]; exact hlt
      obtain ⟨b, off, rfl, lt, row⟩ := (HL.out _ X.out.1).get hkl
      have R := Lib.hid (row k hkl)
      have PRk := Lib.hid (PR.out k hkl)
      have NOk := Lib.hid (NO.out k hkl)
      have ST : Hid (∀ u, PrintIs (l[k]'hkl) u 0 → LinesTo l (k + 1) (t ++ (u ++ nlS))) := Lib.hid (fun u h => ⟨t, u, _, TT.out, List.getElem?_eq_getElem hkl, h, rfl⟩)
      have i1 : (k : Int) < (n : Int) := by omega
      clear FIN row lt PR NO TT
      generalize l[k]'hkl = o at *
      have bx := (Below.refl wr.heap.size wr).alloc (Nat.le_refl _) (.cells (obsC o).toArray 57)
      have BR := Nat.le_of_lt HD.out.2
      have X0 := Lib.hid (Box.new wr o)
      have X1 := Lib.hid (X.out.1.alloc BR (.cells (obsC o).toArray 57))
      have K1 := Lib.hid (X.out.2.trans (Ok8.of bx))
      have D1 := Lib.hid (HD.out.below bx)
      have E1 := Lib.hid (HE.out _ X1.out)
      have T1 := Lib.hid (HT.out _ X1.out)
      clear X bx HD
      go_wp2_with (first | (refine wpList_store_new rfl _ (.tmp 6) (.tmp 14) rfl _ _ rfl rfl info8 rfl ?_ ?_; simp [Value.oneCell']) | (refine wpList_load_mid rfl _ (.tmp 13) rfl b (off + k * 8) rfl (obsC o) _ R.out Tryz.underlying57 rfl info8 ?_) | (refine wpList_load_mid rfl _ (.tmp 6) rfl wr.heap.size 0 rfl (obsC o) _ X0.out.row Tryz.underlying57 rfl info8 ?_))
      refine (PRk.out _ T1.out E1.out).mono ?_
      rintro e w2 ⟨u, c, rfl, hP, hb2⟩
      have B2 := Lib.hid (X1.out.trans (hb2.mono (Nat.le_trans BR (by simp))))
      have K2 := Lib.hid (K1.out.trans (Ok8.of hb2))
      have D2 := Lib.hid (D1.out.below hb2)
      clear hb2 X1 K1 E1 T1 D1 PRk X0 R
      rcases print_c hP with ⟨ok, rfl, h0⟩ | ⟨no, rfl⟩
      · have ST2 := Lib.hid (ST.out u h0)
        have zu := print0_size h0
        clear hP ST ok h0 NOk
        obtain ⟨u2, hu2⟩ : ∃ u2, u ++ nlS = u2 := ⟨_, rfl⟩
        rw [hu2] at ST2
        have zu2 : u2.size = 81 := by rw [← hu2, ByteArray.size_append, zu]; rfl
        have cat : ∀ w', (Go.Op.stringOp .add u ⟨#[10]⟩).run Tryz.prog w' = .ok (.string u2) w' := fun w' => by rw [run_string_add_sum (P := Tryz.prog) (w := w') _ _ (by rw [zu]; decide), ← hu2]; rfl
        clear hu2
        go_wp2_with fail
        refine (bk_write D2.out (t := u2) (by rw [ByteArray.size_append, zt, zu2]; omega)).mono ?_
        rintro e w3 ⟨rfl, hd3, hb3, ho3⟩
        have B3 := Lib.hid (And.intro (B2.out.trans hb3) (K2.out.trans ho3))
        have ea : s ++ t ++ u2 = s ++ (t ++ u2) := ByteArray.append_assoc
        rw [ea] at hd3
        have D3 := Lib.hid hd3
        clear hd3 hb3 ho3 D2 B2 K2 cat ea
        go_wp2_with fail
        go_roundw
        case rel => exact ⟨k + 1, by omega, by go_num, Lib.hid ⟨_, ST2.out, D3.out⟩, B3⟩
        case measure => simp [intOf]; omega
      · have N2 := Lib.hid (NOk.out no)
        clear hP ST no NOk
        go_wp2_with fail
        go_ret
        exact ⟨Or.inr ⟨N2.out, rfl⟩, B2.out, K2.out⟩
    · obtain rfl : k = n := by omega
      have F := Lib.hid (FIN.out t TT.out)
      have i1 : ¬ (k : Int) < (k : Int) := by omega
      clear FIN PR NO TT HL HE HT
      go_wp2_with fail
      go_ret
      exact ⟨Or.inl ⟨t, F.out, rfl, HD.out⟩, X.out⟩
end Kw
end Go.Proofs.YtafeigpmldgifaaGreatDoor
/-
  append of an observation to a slice that the call owns.
-/
namespace Go.Proofs.YtafeigpmldgifaaGreatDoor
namespace Ow
open Go.RowKit Lw Go.Proofs.YtafeigpmldgifaaGreatDoor.Ap Go.Proofs.YtafeigpmldgifaaGreatDoor.Op Go.Proofs.YtafeigpmldgifaaGreatDoor.Mp Go.Proofs.YtafeigpmldgifaaGreatDoor.Mw Go.Proofs.YtafeigpmldgifaaGreatDoor.At

theorem infoO : (Tryz.prog.info? 57).map (fun i => (i.zero, i.size, i.bytes)) = some (some (.agg #[.string .empty, .string .empty, .int .i64 0, .int .i64 0, .int .i64 0, .int .i64 0, .int .i64 0, .int .u8 0]), 8, 80) := by kernel_rfl
/-- The cells of a list. -/
def flatO (l : List Ob) : List Value := l.flatMap obsC
theorem flatO_len (l : List Ob) : (flatO l).length = l.length * 8 := by
  induction l with
  | nil => rfl
  | cons a l ih => simp only [flatO, List.flatMap_cons, List.length_append, List.length_cons] at ih ⊢; rw [ih]; simp only [obsC, List.length_cons, List.length_nil]; omega
theorem flatO_snoc (l : List Ob) (o : Ob) : flatO (l ++ [o]) = flatO l ++ obsC o := by simp [flatO]
theorem flatO_get {l : List Ob} {i : Nat} (hi : i < l.length) {j : Nat} {v : Value} (h : (obsC l[i])[j]? = some v) : (flatO l)[i * 8 + j]? = some v := by
  have hj : j < 8 := by
    have := (List.getElem?_eq_some_iff.1 h).1
    exact this
  induction l generalizing i with
  | nil => simp at hi
  | cons a l ih =>
    have e : flatO (a :: l) = obsC a ++ flatO l := rfl
    have la : (obsC a).length = 8 := rfl
    match i, hi, h with
    | 0, _, h =>
      rw [e, Nat.zero_mul, Nat.zero_add, List.getElem?_append_left (by omega)]
      exact h
    | i + 1, hi, h =>
      have hi' : i < l.length := by simpa using hi
      rw [e, List.getElem?_append_right (by omega), la, show (i + 1) * 8 + j - 8 = i * 8 + j by omega]
      exact ih hi' (by simpa using h)
/-- A slice of the call's own. -/
def OwnO (w : World) (B : Nat) (v : Value) (l : List Ob) : Prop := w.ownsRow B 57 8 v l.length (flatO l) ∧ B ≤ w.heap.size
theorem OwnO.nil (w : World) (B : Nat) (h : B ≤ w.heap.size) : OwnO w B (.slice none 0 0) [] := ⟨World.ownsRow_nil _ _ _ _, h⟩
theorem OwnO.below {w w' : World} {B : Nat} {v : Value} {l : List Ob} (h : OwnO w B v l) (hb : Below w.heap.size w w') : OwnO w' B v l := ⟨ownsRow_below h.1 hb, Nat.le_trans h.2 hb.size⟩
theorem owns_form {w : World} {B : Nat} {t : TypeId} {v : Value} {l : List Ob} (h : w.ownsRow B t 8 v l.length (flatO l)) : (l = [] ∧ v = .slice none 0 0) ∨ ∃ g cap, v = .slice (some ⟨g, 0, none⟩) l.length cap ∧ B ≤ g ∧ g < w.heap.size ∧ ObsAt w g 0 l := by
  have hc := fun (g : Nat) (hg : v.ownBlock = some g) => h.cells hg
  rcases h.2 with ⟨hv, hn⟩ | ⟨g, cap, cur, hv, hb, hh, r⟩
  · exact Or.inl ⟨List.length_eq_zero_iff.1 hn, hv⟩
  · have lt : g < w.heap.size := by
      rcases Nat.lt_or_ge g w.heap.size with h | h
      · exact h
      · rw [Array.getElem?_eq_none h] at hh; cases hh
    refine Or.inr ⟨g, cap, hv, hb, lt, fun i hi j x hx => ?_⟩
    have e := hc g (by rw [hv]; rfl) (i * 8 + j) x (flatO_get hi hx)
    rw [Addr.add_mid] at e
    rw [Nat.zero_add] at e
    rw [Nat.zero_add]
    exact e
/-- A value that is a slice of observations. -/
def SlV (w : World) (v : Value) (l : List Ob) : Prop := ∃ x cap, v = .slice x l.length cap ∧ SlA w x l
theorem slV_of {w : World} {B : Nat} {t : TypeId} {v : Value} {l : List Ob} (h : w.ownsRow B t 8 v l.length (flatO l)) : SlV w v l := by
  rcases owns_form h with ⟨rfl, rfl⟩ | ⟨g, cap, rfl, _, lt, hg⟩
  · exact ⟨none, 0, rfl, Or.inl rfl⟩
  · exact ⟨_, cap, rfl, Or.inr ⟨g, 0, rfl, lt, hg⟩⟩
theorem SlV.below {w w' : World} {v : Value} {l : List Ob} (h : SlV w v l) (hb : Below w.heap.size w w') : SlV w' v l := by
  obtain ⟨x, cap, e, h⟩ := h
  exact ⟨x, cap, e, h.below hb⟩
theorem SlV.nil (w : World) : SlV w (.slice none 0 0) [] := ⟨none, 0, rfl, Or.inl rfl⟩
theorem news_of {w : World} {b : Nat} {o : Ob} (h : w.rangeAt b 0 (obsC o)) : ∀ j u, (obsC o)[j]? = some u → w.cell? ((⟨b, 0, none⟩ : Addr).add j) = some u := fun j u hj => by
  rw [Addr.add_mid]; exact h j u hj
theorem obsC_one (o : Ob) : ∀ u ∈ obsC o, u.oneCell' = true := fun u hu => by
  simp only [List.mem_cons, List.not_mem_nil, or_false] at hu
  rcases hu with rfl | rfl | rfl | rfl | rfl | rfl | rfl | rfl <;> rfl
/-- append, as the walk meets it: the element lies in a block of its own. -/
theorem wp_app {ops : Array Oper} {rest : List Oper} {o : Oper} {a : Act} {Q : Exit → Act → World → Prop} (w : World) (hgd : o.guard = none) (s x : Operand)
    (ho : o.op = .call { callee := .builtin .append, args := #[s, x], argTypes := #[23, 23] })
    (B : Nat) (v : Value) (l : List Ob) (q : Ob) (hs : a.eval s = v) (hx : a.eval x = .slice (some ⟨w.heap.size, 0, none⟩) 1 1) (hown : OwnO w B v l) (hl : l.length ≤ 1000000)
    (h : ∀ v' w', OwnO w' B v' (l ++ [q]) → Below B w w' → wpList Tryz.prog ops Q rest (a.put o.dst v') w') : wpList Tryz.prog ops Q (o :: rest) a (w.alloc (.cells (obsC q).toArray 57)) := by
  obtain ⟨i0, hi, hz0, hz1, hz2⟩ := info_parts infoO
  have ho' := hown.1.alloc (.cells (obsC q).toArray 57)
  have nw := news_of (rangeAt_new w (obsC q) 57)
  have b1 : Below B w (w.alloc (.cells (obsC q).toArray 57)) := (Below.refl _ _).alloc hown.2 _
  refine wpList_append_own _ hgd s x 23 ho B 57 i0 _ 8 80 Tryz.underlying23 hi hz0 hz1 hz2 rfl (by decide) v l.length (flatO l) hs ho' ⟨w.heap.size, 0, none⟩ 1 1 (obsC q) hx rfl nw (obsC_one q) (by unfold maxLen; omega) (by omega) (Nat.le_trans hown.2 b1.size) ?_
  intro v' w' h1 h2 _
  have e := flatO_snoc l q
  have hb : Below B w w' := b1.trans ((Below.refl B _).grown h2 (Nat.le_trans hown.2 b1.size) (fun k hk => (hown.1.lt k hk).1))
  refine h v' w' ⟨?_, Nat.le_trans hown.2 hb.size⟩ hb
  rw [e, List.length_append]
  exact h1
end Ow
end Go.Proofs.YtafeigpmldgifaaGreatDoor
/-
  A slice of strings of the call's own: append; Join.
-/
namespace Go.Proofs.YtafeigpmldgifaaGreatDoor
namespace Kw
open Go.RowKit Lw Go.Proofs.YtafeigpmldgifaaGreatDoor.Op Go.Proofs.YtafeigpmldgifaaGreatDoor.Ow Go.Proofs.YtafeigpmldgifaaGreatDoor.Kp Go.Proofs.YtafeigpmldgifaaGreatDoor.Dp

theorem infoT : (Tryz.prog.info? 9).map (fun i => (i.zero, i.size, i.bytes)) = some (some (.string .empty), 1, 16) := by kernel_rfl
def txC (l : List ByteArray) : List Value := l.map Value.string
theorem txC_snoc (l : List ByteArray) (s : ByteArray) : txC (l ++ [s]) = txC l ++ [.string s] := by simp [txC]
def OwnT (w : World) (B : Nat) (v : Value) (l : List ByteArray) : Prop := w.ownsRow B 9 1 v l.length (txC l) ∧ B ≤ w.heap.size
theorem OwnT.nil (w : World) (B : Nat) (h : B ≤ w.heap.size) : OwnT w B (.slice none 0 0) [] := ⟨World.ownsRow_nil _ _ _ _, h⟩
theorem OwnT.below {w w' : World} {B : Nat} {v : Value} {l : List ByteArray} (h : OwnT w B v l) (hb : Below w.heap.size w w') : OwnT w' B v l := ⟨ownsRow_below h.1 hb, Nat.le_trans h.2 hb.size⟩
theorem own_lt {w : World} {g : Nat} {o : Obj} (hh : w.heap[g]? = some o) : g < w.heap.size := by
  rcases Nat.lt_or_ge g w.heap.size with h | h
  · exact h
  · rw [Array.getElem?_eq_none h] at hh; cases hh
theorem OwnT.form {w : World} {B : Nat} {v : Value} {l : List ByteArray} (h : OwnT w B v l) : (l = [] ∧ v = .slice none 0 0) ∨ ∃ g cap, v = .slice (some ⟨g, 0, none⟩) l.length cap ∧ l.length ≤ cap ∧ g < w.heap.size ∧ ∀ (j : Nat) x, l[j]? = some x → w.cell? ⟨g, 0 + j, none⟩ = some (.string x) := by
  have hc := fun (g : Nat) (hg : v.ownBlock = some g) => h.1.cells hg
  rcases h.1.2 with ⟨hv, hn⟩ | ⟨g, cap, cur, hv, hb, hh, r⟩
  · exact Or.inl ⟨List.length_eq_zero_iff.1 hn, hv⟩
  · refine Or.inr ⟨g, cap, hv, r.1, own_lt hh, fun j x hx => ?_⟩
    have e := hc g (by rw [hv]; rfl) j (.string x) (by unfold txC; rw [List.getElem?_map, hx]; rfl)
    rw [Addr.add_mid] at e
    exact e
theorem wp_appT {ops : Array Oper} {rest : List Oper} {o : Oper} {a : Act} {Q : Exit → Act → World → Prop} (w : World) (hgd : o.guard = none) (s x : Operand)
    (ho : o.op = .call { callee := .builtin .append, args := #[s, x], argTypes := #[24, 24] })
    (B : Nat) (v : Value) (l : List ByteArray) (q : ByteArray) (hs : a.eval s = v) (hx : a.eval x = .slice (some ⟨w.heap.size, 0, none⟩) 1 1) (hown : OwnT w B v l) (hl : l.length ≤ 1000000)
    (h : ∀ v' w', OwnT w' B v' (l ++ [q]) → Below B w w' → wpList Tryz.prog ops Q rest (a.put o.dst v') w') : wpList Tryz.prog ops Q (o :: rest) a (w.alloc (.cells #[.string q] 9)) := by
  obtain ⟨i0, hi, hz0, hz1, hz2⟩ := info_parts infoT
  have ho' := hown.1.alloc (.cells #[.string q] 9)
  have nw : ∀ j u, ([.string q] : List Value)[j]? = some u → (w.alloc (.cells #[.string q] 9)).cell? ((⟨w.heap.size, 0, none⟩ : Addr).add j) = some u := fun j u hj => by
    rw [Addr.add_mid]
    exact rangeAt_new w [.string q] 9 j u hj
  have b1 : Below B w (w.alloc (.cells #[.string q] 9)) := (Below.refl _ _).alloc hown.2 _
  refine wpList_append_own _ hgd s x 24 ho B 9 i0 _ 1 16 Tryz.underlying24 hi hz0 hz1 hz2 rfl (by decide) v l.length (txC l) hs ho' ⟨w.heap.size, 0, none⟩ 1 1 [.string q] hx rfl nw (by simp [Value.oneCell']) (by unfold maxLen; omega) (by omega) (Nat.le_trans hown.2 b1.size) ?_
  intro v' w' h1 h2 _
  have e := txC_snoc l q
  have hb : Below B w w' := b1.trans ((Below.refl B _).grown h2 (Nat.le_trans hown.2 b1.size) (fun k hk => (hown.1.lt k hk).1))
  refine h v' w' ⟨?_, Nat.le_trans hown.2 hb.size⟩ hb
  rw [e, List.length_append]
  exact h1
set_option maxRecDepth 100000 in
theorem join_none (sep : ByteArray) (w : World) : Calls Tryz.prog 10 #[.slice none 0 0, .string sep] w fun e w' => e = .returned (.string ByteArray.empty) ∧ w = w' := by
  go_enter Tryz.func10, Tryz.ntmps10
  go_wp2_with fail
  go_ret
  exact ⟨rfl, rfl⟩
/-- Join of names. -/
theorem join_any (l : List ByteArray) (v : Value) (B : Nat) (w : World) (h : OwnT w B v l) (hn : l.length ≤ 1000) (hs : ∀ x ∈ l, x.size ≤ maxTxt) :
    Calls Tryz.prog 10 #[v, .string ⟨#[32, 61, 32]⟩] w fun e w' => e = .returned (.string ⟨(Lib.join (l.map (·.data.toList)) eqS).toArray⟩) ∧ Below w.heap.size w w' := by
  rcases h.form with ⟨rfl, rfl⟩ | ⟨g, cap, rfl, hc, lt, hg⟩
  · refine (join_none _ w).mono ?_
    rintro e w' ⟨rfl, rfl⟩
    exact ⟨rfl, Below.refl _ _⟩
  · have z := join_len (l.map (·.data.toList)) (fun x hx => by
      obtain ⟨y, hy, rfl⟩ := List.mem_map.1 hx
      have := hs y hy
      rw [size_L] at this
      exact this)
    rw [List.length_map] at z
    exact Tryz.strings_Join g 0 cap l ⟨#[32, 61, 32]⟩ w hg lt (by omega) hc (by show (Lib.join _ eqS).length ≤ _; omega)
end Kw
end Go.Proofs.YtafeigpmldgifaaGreatDoor
/-
  The walk of Print of archive.
-/
namespace Go.Proofs.YtafeigpmldgifaaGreatDoor
namespace Kw
open Go.RowKit Lw Go.Proofs.YtafeigpmldgifaaGreatDoor.Op Go.Proofs.YtafeigpmldgifaaGreatDoor.Ow Go.Proofs.YtafeigpmldgifaaGreatDoor.Kp Go.Proofs.YtafeigpmldgifaaGreatDoor.Dp

/-- Sizes of a catalogue that the statement considers. -/
structure CtS (c : Ct) : Prop where
  fl : c.fl.length ≤ 20
  al : ∀ f ∈ c.fl, f.al.length ≤ 20
  ob : ∀ f ∈ c.fl, f.ob.length ≤ 1000
  rest : c.rest.length ≤ 1000
  notes : c.notes.length ≤ 30
  note : ∀ n ∈ c.notes, n.size ≤ 1000
theorem head_size {l : List Dg} (h : ∀ d ∈ l, okG d) (hn : l.length ≤ 20) : (headS l).size ≤ 1300 := by
  have z := join_len (l.map textG) (fun x hx => by
    obtain ⟨d, hd, rfl⟩ := List.mem_map.1 hx
    exact text_short (h d hd))
  rw [List.length_map] at z
  have e : (headS l).size = ([42, 32] ++ Lib.join (l.map textG) eqS ++ [10]).length := by
    unfold headS
    rw [size_L]
  rw [e, List.length_append, List.length_append]
  simp only [List.length_cons, List.length_nil]
  omega
theorem obj_size {l : List Fl} (ha : ∀ f ∈ l, f.al.length ≤ 20) (ho : ∀ f ∈ l, f.ob.length ≤ 1000) : ∀ {k : Nat} {s : ByteArray}, (∀ j (h : j < l.length), j < k → okF l[j]) → ObjTo l k s → s.size ≤ k * 90000
  | 0, _, _, h => by rw [h]; exact Nat.zero_le _
  | k + 1, _, hok, ⟨a, f, t, h1, h2, h3, h4⟩ => by
    obtain ⟨hk, e⟩ := List.getElem?_eq_some_iff.1 h2
    have hf : f ∈ l := List.mem_of_getElem? h2
    have okf : okF f := by rw [← e]; exact hok k hk (Nat.lt_succ_self k)
    have i1 := obj_size ha ho (fun j h g => hok j h (Nat.lt_succ_of_lt g)) h1
    have i2 := head_size okf.2.1 (ha f hf)
    have i3 := h3.size
    have i4 := ho f hf
    rw [h4, ByteArray.size_append, ByteArray.size_append]
    omega
abbrev ctC (c : Ct) (x1 : Option Addr) (c1 : Nat) (x2 : Option Addr) (c2 : Nat) (x3 : Option Addr) (c3 : Nat) : List Value := [.slice x1 c.fl.length c1, .slice x2 c.rest.length c2, .slice x3 c.notes.length c3]
theorem notes_size (l : List ByteArray) (s : ByteArray) (h : ∀ n ∈ l, n.size ≤ 1000) : ∀ k, (notesTo l s k).size ≤ s.size + k * 1003
  | 0 => Nat.le_refl _
  | k + 1 => by
    have ih := notes_size l s h k
    by_cases hk : k < l.length
    · have := h _ (List.getElem_mem hk)
      rw [notesTo_step s hk, ByteArray.size_append]
      unfold noteS hashS nlS
      rw [ByteArray.size_append, ByteArray.size_append]
      have e2 : (⟨#[35, 32]⟩ : ByteArray).size = 2 := rfl
      have e1 : (⟨#[10]⟩ : ByteArray).size = 1 := rfl
      omega
    · have e : notesTo l s (k + 1) = notesTo l s k ++ ByteArray.empty := by rw [notesTo, List.getElem?_eq_none (by omega)]
      rw [e, ByteArray.size_append]
      have e0 : ByteArray.empty.size = 0 := rfl
      omega
/-- What Print needs of memory: the box of its argument, the builder. -/
structure PX (w0 : World) (cs : List Value) (s : ByteArray) (w : World) : Prop where
  below : Below w0.heap.size w0 w
  box : w.rangeAt w0.heap.size 0 cs
  bd : Bk (w0.heap.size + 1) s w
theorem PX.lt {w0 w : World} {cs : List Value} {s : ByteArray} (h : PX w0 cs s w) : w0.heap.size < w.heap.size := Nat.lt_of_succ_lt h.bd.2
theorem PX.call {w0 w w' : World} {cs : List Value} {s : ByteArray} (h : PX w0 cs s w) (hb : Below w.heap.size w w') : PX w0 cs s w' := ⟨below_then h.below hb, rangeAt_below h.box hb h.lt, h.bd.below hb⟩
theorem rangeAt_low {w w' : World} {B b o : Nat} {cs : List Value} (h : w.rangeAt b o cs) (hb : Below B w w') (lt : b < B) (hw : b < w.heap.size) : w'.rangeAt b o cs := fun j v hj => by
  have := h j v hj
  unfold World.cell? at this ⊢
  rw [hb.block b lt]
  exact this
theorem PX.write {w0 w w' : World} {cs : List Value} {s s' : ByteArray} (h : PX w0 cs s w) (hb : Below (w0.heap.size + 1) w w') (hd : Bk (w0.heap.size + 1) s' w') : PX w0 cs s' w' :=
  ⟨h.below.trans (hb.mono (Nat.le_succ _)), rangeAt_low h.box hb (Nat.lt_succ_self _) h.lt, hd⟩
theorem PX.mono {w0 w w' : World} {cs : List Value} {s : ByteArray} {B : Nat} (h : PX w0 cs s w) (hb : Below B w w') (hB : w.heap.size ≤ B) : PX w0 cs s w' := h.call (hb.mono hB)
def CatPost (c : Ct) (w : World) (e : Ending) (w' : World) : Prop := ∃ (s : ByteArray) (k : Int), e = .returned (.tuple #[.string s, .int .i64 k]) ∧ CatIs c s k ∧ Below w.heap.size w w'
theorem info7 : (Tryz.prog.info? 39).map (·.size) = some 7 := by kernel_rfl
def txG (d : Dg) : ByteArray := ⟨(textG d).toArray⟩
theorem names_head (l : List Dg) : ∀ {v : List ByteArray}, v = l.map txG → (⟨(Lib.join (v.map (·.data.toList)) eqS).toArray⟩ : ByteArray) = ⟨(Lib.join (l.map textG) eqS).toArray⟩ := fun {v} h => by
  subst h
  rw [List.map_map]
  congr 3
set_option maxRecDepth 100000 in
set_option maxHeartbeats 16000000 in
theorem print_cat (c : Ct) (x1 x2 x3 : Option Addr) (c1 c2 c3 : Nat) (w : World) (hT : Gt.Tab w) (hE : ES w) (hB : Dw.Tb w) (hc : CtA w c x1 c1 x2 c2 x3 c3) (cb : CtB c) (cs : CtS c) :
    Calls Tryz.prog 5 #[.agg (ctC c x1 c1 x2 c2 x3 c3).toArray] w (CatPost c w) := by
  have W0 := (Below.refl w.heap.size w).alloc (Nat.le_refl _) (.cells (ctC c x1 c1 x2 c2 x3 c3).toArray 26)
  have P0 := Lib.hid (show PX w (ctC c x1 c1 x2 c2 x3 c3) ByteArray.empty ((w.alloc (.cells (ctC c x1 c1 x2 c2 x3 c3).toArray 26)).alloc (.cells #[.pointer none, .slice none 0 0] 44)) from
    ⟨W0.alloc W0.size _, rangeAt_below (rangeAt_new w _ _) ((Below.refl _ _).alloc (Nat.le_refl _) _) (by simp), by
      have := Bk.new (w.alloc (.cells (ctC c x1 c1 x2 c2 x3 c3).toArray 26))
      have e : (w.alloc (.cells (ctC c x1 c1 x2 c2 x3 c3).toArray 26)).heap.size = w.heap.size + 1 := by simp
      rw [e] at this
      exact this⟩)
  clear W0
  have FLS := Lib.hid (fun w' (h : Below w.heap.size w w') => (hc.below h).fl)
  have RST := Lib.hid (fun w' (h : Below w.heap.size w w') => (hc.below h).rest)
  have NTS := Lib.hid (fun w' (h : Below w.heap.size w w') => (hc.below h).notes)
  have HTB := Lib.hid (fun w' (h : Below w.heap.size w w') => hB.below h)
  have LI := Lib.hid (fun x cap (l : List Ob) s w' (hl : SlA w x l) hn hs hb h0 hd => lines_any x cap l (w.heap.size + 1) s w w' hT hE hl hn hs hb h0 (Nat.le_succ _) hd)
  have CB := Lib.hid cb
  have CS := Lib.hid cs
  have HC := Lib.hid hc
  clear hT hE hB hc cb cs
  obtain ⟨n1, hn1⟩ : ∃ n, c.fl.length = n := ⟨_, rfl⟩
  obtain ⟨n2, hn2⟩ : ∃ n, c.rest.length = n := ⟨_, rfl⟩
  obtain ⟨n3, hn3⟩ : ∃ n, c.notes.length = n := ⟨_, rfl⟩
  obtain ⟨C, hC⟩ : ∃ C, ctC c x1 c1 x2 c2 x3 c3 = C := ⟨_, rfl⟩
  have C0 : C[0]? = some (.slice x1 n1 c1) := by rw [← hC, ← hn1]; rfl
  have C1 : C[1]? = some (.slice x2 n2 c2) := by rw [← hC, ← hn2]; rfl
  have C2 : C[2]? = some (.slice x3 n3 c3) := by rw [← hC, ← hn3]; rfl
  rw [hC] at P0
  have eC : (ctC c x1 c1 x2 c2 x3 c3).toArray = #[.slice x1 n1 c1, .slice x2 n2 c2, .slice x3 n3 c3] := by rw [← hn1, ← hn2, ← hn3]
  rw [eC]
  have eC2 : C.toArray = #[.slice x1 n1 c1, .slice x2 n2 c2, .slice x3 n3 c3] := by rw [← hC, eC]
  rw [eC2] at P0
  have Z1 : n1 ≤ 20 := by rw [← hn1]; exact CS.out.fl
  have Z2 : n2 ≤ 1000 := by rw [← hn2]; exact CS.out.rest
  have Z3 : n3 ≤ 30 := by rw [← hn3]; exact CS.out.notes
  have N1 := Lib.hid hn1
  have N2 := Lib.hid hn2
  have N3 := Lib.hid hn3
  clear hn1 hn2 hn3 hC eC eC2
  have q0 := P0.out.box 0 _ C0
  simp only [Nat.zero_add] at q0
  go_enter Tryz.func5, Tryz.ntmps5
  go_wp2_with fail
  clear q0
  go_loopw [19] (fun i wr => ∃ k : Nat, k ≤ n1 ∧ i = .int .i64 k ∧ Hid (∃ s, ObjTo c.fl k s ∧ (∀ j (h : j < c.fl.length), j < k → okF c.fl[j]) ∧ PX w C s wr)) (fun i _ => n1 - (intOf i).toNat)
  case atStart => exact ⟨0, Nat.zero_le _, rfl, Lib.hid ⟨ByteArray.empty, rfl, fun j _ h => absurd h (Nat.not_lt_zero j), P0.out⟩⟩
  case round =>
    obtain ⟨k, hk, rfl, D⟩ := hrel
    clear P0
    obtain ⟨wo, hwo⟩ : ∃ wo, wo = wr := ⟨_, rfl⟩
    subst hwo
    obtain ⟨s, hs, hok, hp⟩ := D.out
    have zs := obj_size CS.out.al CS.out.ob hok hs
    have HS := Lib.hid hs
    have HOK := Lib.hid hok
    have HP := Lib.hid hp
    clear D hs hok hp
    by_cases hlt : k < n1
    · have hkl : k < c.fl.length := by rw [N1.out]; exact hlt
      rcases HC.out.fl with h | ⟨b, off, hx, lt, row⟩
      · exfalso
        rw [h] at hkl
        exact absurd hkl (Nat.not_lt_zero k)
      · subst hx
        have rk := row k hkl
        have hf : c.fl[k]'hkl ∈ c.fl := List.getElem_mem hkl
        have al20 := CS.out.al _ hf
        have ob1000 := CS.out.ob _ hf
        have DGB := Lib.hid (CB.out.dg _ hf)
        have OBB := Lib.hid (CB.out.ob _ hf)
        have NOF := Lib.hid (fun (h : ¬ okF (c.fl[k]'hkl)) => show ¬ okC c from fun g => h (g.1 _ hf))
        have ST := Lib.hid (fun t (h : LinesTo (c.fl[k]'hkl).ob (c.fl[k]'hkl).ob.length t) => show ObjTo c.fl (k + 1) ((s ++ headS (c.fl[k]'hkl).al) ++ t) from ⟨s, _, t, HS.out, List.getElem?_eq_getElem hkl, h, rfl⟩)
        have OKN := Lib.hid (fun (h : okF (c.fl[k]'hkl)) => show ∀ j (hj : j < c.fl.length), j < k + 1 → okF c.fl[j] from fun j hj h2 => by
          by_cases e : j = k
          · subst e; exact h
          · exact HOK.out j hj (by omega))
        clear row hf HOK HS
        generalize c.fl[k]'hkl = f at *
        obtain ⟨xa, ca, xo, co, r, da, so⟩ := rk
        have R := Lib.hid (rangeAt_below r HP.out.below lt)
        have DA := Lib.hid da
        have SO := Lib.hid so
        clear r da so lt
        have bx := (Below.refl wo.heap.size wo).alloc (Nat.le_refl _) (.cells (flC f xa ca xo co).toArray 39)
        have FX := Lib.hid (rangeAt_new wo (flC f xa ca xo co) 39)
        have FH := Lib.hid (heap_alloc_new wo (.cells (flC f xa ca xo co).toArray 39))
        have P1 := Lib.hid (HP.out.call bx)
        have lo : w.heap.size + 1 < wo.heap.size := HP.out.bd.2
        have sz1 : (wo.alloc (.cells (flC f xa ca xo co).toArray 39)).heap.size = wo.heap.size + 1 := by simp
        have f5 := FX.out 5 _ rfl
        simp only [Nat.zero_add] at f5
        obtain ⟨m, hm⟩ : ∃ m, f.al.length = m := ⟨_, rfl⟩
        have M := Lib.hid hm
        rw [hm] at f5 al20
        have O0 := Lib.hid (OwnT.nil (wo.alloc (.cells (flC f xa ca xo co).toArray 39)) (wo.heap.size + 1) (Nat.le_of_eq sz1.symm))
        clear hm bx FX
        have i1 : (k : Int) < (n1 : Int) := by omega
        go_wp2_with (first | (refine wpList_store_new rfl _ (.tmp 6) (.tmp 22) rfl _ _ rfl rfl info7 rfl ?_ ?_; simp [Value.oneCell']) | (refine wpList_load_mid rfl _ (.tmp 21) rfl b (off + k * 7) rfl (flC f xa ca xo co) _ R.out Tryz.underlying39 rfl info7 ?_))
        clear i1 f5
        go_loopw [27, 7] (fun j v wi => ∃ i : Nat, i ≤ m ∧ j = .int .i64 i ∧ Hid (OwnT wi (wo.heap.size + 1) v ((f.al.take i).map txG)) ∧ Hid (∀ d ∈ f.al.take i, okG d) ∧ Hid (Below (wo.heap.size + 1) (wo.alloc (.cells (flC f xa ca xo co).toArray 39)) wi)) (fun j _ _ => m - (intOf j).toNat)
        case atStart => exact ⟨0, Nat.zero_le _, rfl, O0, Lib.hid (fun d h => by simp at h), Lib.hid (Below.refl _ _)⟩
        case round =>
          obtain ⟨i, hi, rfl, O, G, Bi⟩ := hrel
          have PI := Lib.hid (P1.out.mono Bi.out (Nat.le_of_eq sz1))
          have FI : Hid (wr.heap[wo.heap.size]? = some (.cells (flC f xa ca xo co).toArray 39 (0, 0))) := Lib.hid (by rw [Bi.out.block _ (Nat.lt_succ_self _)]; exact FH.out)
          clear O0
          by_cases hli : i < m
          · have hil : i < f.al.length := by rw [M.out]; exact hli
            rcases DA.out.below PI.out.below with h | ⟨b2, off2, hx, lt2, row2⟩
            · exfalso
              rw [h] at hil
              exact absurd hil (Nat.not_lt_zero i)
            · subst hx
              have R2 := Lib.hid (row2 i hil)
              have hd : f.al[i]'hil ∈ f.al := List.getElem_mem hil
              obtain ⟨h0, h1, s0, s1⟩ := DGB.out _ hd
              have TK : f.al.take (i + 1) = f.al.take i ++ [f.al[i]'hil] := List.take_succ_eq_append_getElem hil
              have ON := Lib.hid (fun (h : okG (f.al[i]'hil)) => show ∀ d ∈ f.al.take (i + 1), okG d from by
                rw [TK]
                intro d hd
                rcases List.mem_append.1 hd with h' | h'
                · exact G.out d h'
                · rw [List.mem_singleton.1 h']; exact h)
              have TX : Hid ((f.al.take (i + 1)).map txG = (f.al.take i).map txG ++ [txG (f.al[i]'hil)]) := Lib.hid (by rw [TK, List.map_append]; rfl)
              have NOG := Lib.hid (fun (h : ¬ okG (f.al[i]'hil)) => show ¬ okC c from NOF.out fun g => h (g.2.1 _ hd))
              clear TK hd row2 lt2 G NOF ST OKN
              generalize f.al[i]'hil = d at *
              have b3 := (Below.refl wr.heap.size wr).alloc (Nat.le_refl _) (.cells (dgC d).toArray 34)
              have X9 := Lib.hid (rangeAt_new wr (dgC d) 34)
              have BB := below_then PI.out.below b3
              have TB := Lib.hid (HTB.out _ BB)
              have B3 := Lib.hid b3
              have BW := Lib.hid BB
              have zl : ((f.al.take i).map txG).length ≤ 1000000 := by rw [List.length_map, List.length_take]; omega
              clear b3 BB
              have i2 : (i : Int) < (m : Int) := by omega
              go_wp2_with (first | (refine wpList_store_new rfl _ (.tmp 9) (.tmp 30) rfl _ _ rfl rfl Dw.info5d rfl ?_ ?_; simp [Value.oneCell']) | (refine wpList_load_mid rfl _ (.tmp 29) rfl b2 (off2 + i * 5) rfl (dgC d) _ R2.out Tryz.underlying34 rfl Dw.info5d ?_) | (refine wpList_load_mid rfl _ (.tmp 9) rfl wr.heap.size 0 rfl (dgC d) _ X9.out Tryz.underlying34 rfl Dw.info5d ?_))
              by_cases gd : okG d
              · refine (Dw.Text_ok d.n d.y d.h d.s d.c _ TB.out h0 h1 s0 s1 gd).mono ?_
                rintro e w3 ⟨rfl, hb3⟩
                have b4 := below_then B3.out hb3
                have O3 := Lib.hid (O.out.below b4)
                have B4 := Lib.hid (Bi.out.trans (b4.mono O.out.2))
                have O4 := Lib.hid (ON.out gd)
                clear hb3 b4 NOG ON TB X9 R2 BW B3 Bi PI FI O gd
                go_wp2_with (at_builtin; refine wp_appT _ rfl (.tmp 39) (.tmp 41) rfl (wo.heap.size + 1) _ _ ⟨(textG ⟨d.n, d.y, d.h, d.s, d.c⟩).toArray⟩ rfl (by first | rfl | simp [Act.eval]) O3.out zl ?_; intro v' w4 hO4 hb4)
                have B5 := Lib.hid (B4.out.trans hb4)
                have e5 : (f.al.take i).map txG ++ [(⟨(textG ⟨d.n, d.y, d.h, d.s, d.c⟩).toArray⟩ : ByteArray)] = (f.al.take (i + 1)).map txG := TX.out.symm
                rw [e5] at hO4
                have O5 := Lib.hid hO4
                clear hO4 hb4 B4 O3 e5 TX
                go_wp2_with fail
                go_roundw
                case rel => exact ⟨i + 1, by omega, by go_num, O5, O4, B5⟩
                case measure => simp [intOf]; omega
              · have N := Lib.hid (NOG.out gd)
                refine (Dw.text_no d.n d.y d.h d.s d.c _ TB.out h0 h1 s0 s1 gd).mono ?_
                rintro e w3 ⟨rfl, hb3⟩
                have B4 := Lib.hid (below_then BW.out hb3)
                clear hb3 NOG ON TB X9 R2 BW B3 Bi PI FI O gd TX
                go_wp2_with fail
                go_ret2
                exact ⟨_, 8, rfl, Or.inr ⟨N.out, rfl, rfl⟩, B4.out⟩
          · obtain rfl : i = m := by omega
            have e0 : f.al.take f.al.length = f.al := List.take_length
            rw [M.out] at e0
            have oall := G.out
            have own := O.out
            rw [e0] at oall own
            have OA := Lib.hid oall
            have zn : ((f.al.map txG).length : Nat) ≤ 1000 := by rw [List.length_map, M.out]; omega
            have ztx : ∀ x ∈ f.al.map txG, x.size ≤ maxTxt := fun x hx => by
              obtain ⟨d, hd, rfl⟩ := List.mem_map.1 hx
              have := text_short (OA.out d hd)
              unfold txG
              rw [size_mk]
              exact this
            have JN := Lib.hid (join_any (f.al.map txG) u7 _ wr own zn ztx)
            obtain ⟨ao, cp, hv⟩ : ∃ ao cp, u7 = .slice ao i cp := by
              rcases own.form with ⟨e, h⟩ | ⟨g, cap, h, _⟩
              · have e2 : f.al.length = 0 := by
                  have := congrArg List.length e
                  rw [List.length_map] at this
                  exact this
                rw [M.out] at e2
                subst e2
                exact ⟨none, 0, h⟩
              · rw [List.length_map, M.out] at h
                exact ⟨_, _, h⟩
            subst hv
            have zj := join_len (f.al.map textG) (fun x hx => by
              obtain ⟨d, hd, rfl⟩ := List.mem_map.1 hx
              exact text_short (OA.out d hd))
            rw [List.length_map, M.out] at zj
            have ej := names_head f.al (v := f.al.map txG) rfl
            have eh : headS f.al = ((⟨#[42, 32]⟩ : ByteArray) ++ ⟨(Lib.join (f.al.map textG) eqS).toArray⟩) ++ ⟨#[10]⟩ := by
              have a1 := str_app [42, 32] (Lib.join (f.al.map textG) eqS)
              have a2 := str_app ([42, 32] ++ Lib.join (f.al.map textG) eqS) [10]
              show (⟨([42, 32] ++ Lib.join (f.al.map textG) eqS ++ [10]).toArray⟩ : ByteArray) = _
              rw [← a2, ← a1]
            have zJ : (⟨(Lib.join (f.al.map textG) eqS).toArray⟩ : ByteArray).size ≤ 2000 := by rw [size_mk]; omega
            have zH := head_size OA.out (by rw [M.out]; omega)
            obtain ⟨J, hJ⟩ : ∃ J, (⟨(Lib.join (f.al.map textG) eqS).toArray⟩ : ByteArray) = J := ⟨_, rfl⟩
            obtain ⟨H, hH⟩ : ∃ H, headS f.al = H := ⟨_, rfl⟩
            obtain ⟨A1, hA1⟩ : ∃ A, (⟨#[42, 32]⟩ : ByteArray) ++ J = A := ⟨_, rfl⟩
            rw [hJ] at ej zJ eh
            rw [hH] at zH ST eh
            rw [hA1] at eh
            have t1 : ∀ w', (Go.Op.stringOp .add ⟨#[42, 32]⟩ J).run Tryz.prog w' = .ok (.string A1) w' := fun w' => by rw [run_string_add_sum (P := Tryz.prog) (w := w') _ _ (by show 2 + J.size ≤ _; omega), hA1]
            have zA : A1.size ≤ 2100 := by rw [← hA1, ByteArray.size_append]; show 2 + J.size ≤ _; omega
            have t2 : ∀ w', (Go.Op.stringOp .add A1 ⟨#[10]⟩).run Tryz.prog w' = .ok (.string H) w' := fun w' => by rw [run_string_add_sum (P := Tryz.prog) (w := w') _ _ (by show A1.size + 1 ≤ _; omega), eh]
            have i2 : ¬ (i : Int) < (i : Int) := by omega
            clear oall own O G Bi zn ztx e0 hJ hH hA1 zj zA eh DGB DA
            go_wp2_with fail
            refine JN.out.mono ?_
            rintro e w3 ⟨rfl, hb3⟩
            rw [ej]
            have P3 := Lib.hid (PI.out.call hb3)
            have lwo : wo.heap.size < wr.heap.size := own_lt FI.out
            have F3 : Hid (w3.heap[wo.heap.size]? = some (.cells (flC f xa ca xo co).toArray 39 (0, 0))) := Lib.hid (by rw [hb3.block _ lwo]; exact FI.out)
            clear hb3 JN PI FI i2 ej lwo
            go_wp2_with fail
            refine (bk_write P3.out.bd (t := H) (by omega)).mono ?_
            rintro e w4 ⟨rfl, hd4, hb4, ho4⟩
            have P4 := Lib.hid (P3.out.write hb4 hd4)
            have F4 : Hid (w4.heap[wo.heap.size]? = some (.cells (flC f xa ca xo co).toArray 39 (0, 0))) := Lib.hid (ho4 _ _ F3.out (by intro e; injection e with e; omega) (by intro c' fz e; injection e with _ e _; exact absurd e (by decide)))
            have f6 : w4.cell? ⟨wo.heap.size, 6, none⟩ = some (.slice xo f.ob.length co) := by rw [Lib.cell_of_heap F4.out]; rfl
            clear hd4 hb4 ho4 P3 F3 t1 t2 F4
            have LX := Lib.hid (LI.out xo co f.ob (s ++ H) w4 SO.out ob1000 (by rw [ByteArray.size_append]; omega) OBB.out P4.out.below P4.out.bd)
            go_wp2_with fail
            refine LX.out.mono ?_
            rintro e w5 ⟨h, hb5, ho5⟩
            clear LX f6 ho5 OBB SO zs
            rcases h with ⟨t, ht, rfl, hd5⟩ | ⟨no, rfl⟩
            · have P5 := Lib.hid (P4.out.write hb5 hd5)
              clear hb5 hd5 P4
              by_cases m0 : i = 0
              · subst m0
                have N := Lib.hid (NOF.out (fun g => g.1 (List.length_eq_zero_iff.1 M.out)))
                clear ST OKN ht NOF
                go_wp2_with fail
                go_ret2
                exact ⟨_, 8, rfl, Or.inr ⟨N.out, rfl, rfl⟩, P5.out.below⟩
              · have okf : okF f := ⟨fun e => m0 (by rw [← M.out, e]; rfl), OA.out, linesTo_all ht⟩
                have OS := Lib.hid (OKN.out okf)
                have S2 := Lib.hid (ST.out t ht)
                have im : ((i : Int) == 0) = false := beq_eq_false_iff_ne.2 (by omega)
                clear ST OKN ht NOF okf OA
                go_wp2_with fail
                go_roundw
                case rel => exact ⟨k + 1, by omega, by go_num, Lib.hid ⟨_, S2.out, OS.out, P5.out⟩⟩
                case measure => simp [intOf]; omega
            · have N := Lib.hid (NOF.out (fun g => no g.2.2))
              have P5 := Lib.hid (P4.out.below.trans (hb5.mono (Nat.le_succ _)))
              clear ST OKN NOF no hb5 P4
              go_wp2_with fail
              go_ret2
              exact ⟨_, 8, rfl, Or.inr ⟨N.out, rfl, rfl⟩, P5.out⟩
    · obtain rfl : k = n1 := by omega
      have i1 : ¬ (k : Int) < (k : Int) := by omega
      clear FLS HTB
      go_wp2_with fail
      have zsz : s.size ≤ 2000000 := by omega
      refine (bk_write HP.out.bd (t := ⟨#[42, 10]⟩) (by show s.size + 2 ≤ _; omega)).mono ?_
      rintro e w4 ⟨rfl, hd4, hb4, -⟩
      have P4 := Lib.hid (HP.out.write hb4 hd4)
      have q1 := P4.out.box 1 _ C1
      simp only [Nat.zero_add] at q1
      have zt : (s ++ (⟨#[42, 10]⟩ : ByteArray)).size ≤ 2000002 := by rw [ByteArray.size_append]; show s.size + 2 ≤ _; omega
      have L2 := LI.out x2 c2 c.rest (s ++ ⟨#[42, 10]⟩) w4 HC.out.rest (by rw [N2.out]; omega) (by omega) CB.out.rest P4.out.below P4.out.bd
      rw [N2.out] at L2
      have LX := Lib.hid L2
      have OKF := Lib.hid (show ∀ f ∈ c.fl, okF f from fun f hf => by
        obtain ⟨j, hj, rfl⟩ := List.getElem_of_mem hf
        exact HOK.out j hj (by rw [← N1.out]; exact hj))
      obtain ⟨S1, hS1⟩ : ∃ S, s ++ (⟨#[42, 10]⟩ : ByteArray) = S := ⟨_, rfl⟩
      have HS1 := Lib.hid hS1
      rw [hS1] at P4 zt LX
      clear hd4 hb4 HP L2 LI hS1 HOK RST
      go_wp2_with fail
      refine LX.out.mono ?_
      rintro e w5 ⟨h, hb5, -⟩
      clear LX q1
      rcases h with ⟨t, ht, rfl, hd5⟩ | ⟨no, rfl⟩
      · have P5 := Lib.hid (P4.out.write hb5 hd5)
        have okc : Hid (okC c) := Lib.hid ⟨OKF.out, linesTo_all ht⟩
        have q2 := P5.out.box 2 _ C2
        simp only [Nat.zero_add] at q2
        have HT2 := Lib.hid ht
        have zu := ht.size
        rw [N2.out] at zu
        have zv : (S1 ++ t).size ≤ 3000000 := by rw [ByteArray.size_append]; omega
        obtain ⟨S2, hS2⟩ : ∃ S, S1 ++ t = S := ⟨_, rfl⟩
        have HS2 := Lib.hid hS2
        rw [hS2] at P5 zv
        clear hb5 hd5 P4 ht OKF hS2 zu
        go_wp2_with fail
        clear q2
        go_loopw [70] (fun j wi => ∃ i : Nat, i ≤ n3 ∧ j = .int .i64 i ∧ Hid (PX w C (notesTo c.notes S2 i) wi)) (fun j _ => n3 - (intOf j).toNat)
        case atStart => exact ⟨0, Nat.zero_le _, rfl, P5⟩
        case round =>
          obtain ⟨i, hi, rfl, PN⟩ := hrel
          have zi := notes_size c.notes S2 CS.out.note i
          clear P5
          by_cases hli : i < n3
          · have hil : i < c.notes.length := by rw [N3.out]; exact hli
            rcases HC.out.notes with h | ⟨b3, off3, hx, lt3, row3⟩
            · exfalso
              rw [h] at hil
              exact absurd hil (Nat.not_lt_zero i)
            · subst hx
              have qn := rangeAt_below (row3 i hil) PN.out.below lt3 0 _ rfl
              rw [Nat.add_zero] at qn
              have zn := CS.out.note _ (List.getElem_mem hil)
              have SN := Lib.hid (notesTo_step S2 hil)
              clear row3 lt3
              generalize c.notes[i]'hil = nt at *
              obtain ⟨A1, hA1⟩ : ∃ A, (⟨#[35, 32]⟩ : ByteArray) ++ nt = A := ⟨_, rfl⟩
              obtain ⟨A2, hA2⟩ : ∃ A, A1 ++ (⟨#[10]⟩ : ByteArray) = A := ⟨_, rfl⟩
              have zA1 : A1.size ≤ 1002 := by rw [← hA1, ByteArray.size_append]; show 2 + nt.size ≤ _; omega
              have zA2 : A2.size ≤ 1003 := by rw [← hA2, ByteArray.size_append]; show A1.size + 1 ≤ _; omega
              have t1 : ∀ w', (Go.Op.stringOp .add ⟨#[35, 32]⟩ nt).run Tryz.prog w' = .ok (.string A1) w' := fun w' => by rw [run_string_add_sum (P := Tryz.prog) (w := w') _ _ (by show 2 + nt.size ≤ _; omega), hA1]
              have t2 : ∀ w', (Go.Op.stringOp .add A1 ⟨#[10]⟩).run Tryz.prog w' = .ok (.string A2) w' := fun w' => by rw [run_string_add_sum (P := Tryz.prog) (w := w') _ _ (by show A1.size + 1 ≤ _; omega), hA2]
              have en : noteS nt = A2 := by rw [← hA2, ← hA1]; rfl
              rw [en] at SN
              have i2 : (i : Int) < (n3 : Int) := by omega
              clear hA1 hA2 en
              go_wp2_with fail
              refine (bk_write PN.out.bd (t := A2) (by omega)).mono ?_
              rintro e w6 ⟨rfl, hd6, hb6, -⟩
              have P6 := PN.out.write hb6 hd6
              rw [← SN.out] at P6
              have P7 := Lib.hid P6
              clear hd6 hb6 PN P6 t1 t2 qn SN
              go_wp2_with fail
              go_roundw
              case rel => exact ⟨i + 1, by omega, by go_num, P7⟩
              case measure => simp [intOf]; omega
          · obtain rfl : i = n3 := by omega
            have i2 : ¬ (i : Int) < (i : Int) := by omega
            go_wp2_with fail
            refine (bk_str PN.out.bd).mono ?_
            rintro e w6 ⟨rfl, hb6⟩
            have P6 := Lib.hid (PN.out.below.trans (hb6.mono (Nat.le_succ _)))
            clear hb6 PN
            go_wp2_with fail
            go_ret2
            refine ⟨_, 0, rfl, Or.inl ⟨okc.out, ⟨s, t, by rw [N1.out]; exact HS.out, HT2.out, ?_⟩, rfl⟩, P6.out⟩
            rw [N3.out, ← HS2.out, ← HS1.out]
            rfl
      · have N : Hid (¬ okC c) := Lib.hid (fun g => no g.2)
        have P5 := Lib.hid (P4.out.below.trans (hb5.mono (Nat.le_succ _)))
        clear no hb5 P4 OKF
        go_wp2_with fail
        go_ret2
        exact ⟨_, 8, rfl, Or.inr ⟨N.out, rfl, rfl⟩, P5.out⟩
end Kw
end Go.Proofs.YtafeigpmldgifaaGreatDoor
